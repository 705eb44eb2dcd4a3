/- Part 17 of the proof: PrsR PrsS PrsL WrkP -/
import Derived.Test.YtejbcledkhioeaaGreatDoorQ09
import Derived.Test.YtejbcledkhioeaaGreatDoorQ16
namespace Go.Proofs.YtejbcledkhioeaaGreatDoor
set_option linter.unusedVariables false
set_option linter.unusedSimpArgs false
set_option maxRecDepth 100000
set_option maxHeartbeats 4000000
open Go.RowKit Tryz
def Pq (w:List UInt8):Prop:=w≠ []∧ ∀c∈w,33≤c.toNat∧c.toNat≤126
theorem Pq.word {w:List UInt8} (h:Pq w):Yn w:=by
 refine⟨h.1,fun c hc=> ?_⟩
 have:=(h.2 c hc).1
 unfold Vn JU
 simp
 omega
theorem J5 {w:List UInt8} (h:(!w.isEmpty&&w.all (fun c=>decide (33≤c.toNat∧c.toNat≤126)))=true):Pq w:=by
 rw [Bool.and_eq_true] at h
 refine⟨fun e=>by rw [e] at h;exact absurd h.1 (by decide),fun c hc=> ?_⟩
 exact of_decide_eq_true (List.all_eq_true.1 h.2 c hc)
theorem Jm (n:Int):Pq (Lib.itoa n):=by
 unfold Lib.itoa
 split
 ·refine⟨List.cons_ne_nil _ _,fun c hc=> ?_⟩
  rcases List.mem_cons.1 hc with rfl | hc
  ·decide
  ·have:=PK _ c hc;omega
 ·exact⟨QJ _,fun c hc=>by have:=PK _ c hc;omega⟩
theorem Oi {s:ByteArray} (h:s.data.toList.all Tw=true):Pq (Fq s):=by
 unfold Fq
 split
 ·exact J5 (by decide)
 ·rename_i hs
  refine⟨fun e=>hs (by rw [Lib.size_eq,e];rfl),fun c hc=> ?_⟩
  have:=List.all_eq_true.1 h c hc
  unfold Tw Qg at this
  simp at this
  omega
theorem Qp {n:Nat} (h:n<16):48≤(OP n).toNat∧(OP n).toNat≤102∧KL (OP n)=some n:=by
 have: ∀k:Fin 16,48≤(OP k.1).toNat∧(OP k.1).toNat≤102∧KL (OP k.1)=some k.1:=by decide
 exact this ⟨n,h⟩
theorem Yv: ∀b:List UInt8,Jc (KJ b)=some b
 | []=>rfl
 | c::b=>by
  have hc:c.toNat<256:=c.toNat_lt
  have h1:=(Qp (n:=c.toNat/16) (by omega)).2.2
  have h2:=(Qp (n:=c.toNat%16) (by omega)).2.2
  show Jc (OP (c.toNat/16)::OP (c.toNat%16)::KJ b)=_
  simp only [Jc,h1,h2,Yv b,Option.map_some]
  congr 2
  rw [show 16*(c.toNat/16)+c.toNat%16=c.toNat by omega]
  simp
theorem rX {b:List UInt8} (h:b≠ []):Pq (KJ b):=by
 refine⟨?_,fun c hc=> ?_⟩
 ·cases b with
  | nil=>exact absurd rfl h
  | cons c b=>exact List.cons_ne_nil _ _
 ·obtain⟨d,_,hd⟩:=List.mem_flatMap.1 hc
  have hlt:d.toNat<256:=d.toNat_lt
  rcases List.mem_cons.1 hd with rfl | hd
  ·have:=Qp (n:=d.toNat/16) (by omega);omega
  ·rw [List.mem_singleton] at hd
   subst hd
   have:=Qp (n:=d.toNat%16) (by omega);omega
def MZ (x:DI):List (List UInt8):= [S_,Fq x.p,[45,62],Fq x.r]
def Nn (t:Int):List (List UInt8):= [MU,Lib.itoa t]
def Np (x:EJ):List (List UInt8):= [JK,[x.l],if x.m then TT else KZ,Lib.itoa (BK x)]
def lY (m:AP):List (List UInt8):= [JL,Lib.itoa m.first,Lib.itoa m.most]
def lZ (f:GR):List (List UInt8):= [WC,Lib.itoa f.t,Fq f.loc]
def Mk (x:DL):List (List UInt8):=MS x.op.toNat::((if Jk x.op.toNat≠0∧Jk x.op.toNat≠3 then [Lib.itoa x.a] else [])++x.l.map Lib.itoa)
def QS (d:EU):List (List UInt8):= [Yf,Lib.itoa d.at_,KJ d.b]
def SC (x:Jy):List (List UInt8):= [Qm,x.n.data.toList,Lib.itoa x.f]
def T9 (m:AP):List (Bool×List (List UInt8)):=(false,[KG])::(m.types.map (fun x=>(false,MZ x))++(m.hosts.map (fun x=>(false,Nn x))++(m.globs.map (fun x=>(false,Np x))++ [(false,lY m)])))
def SE (f:GR):List (Bool×List (List UInt8)):=(false,lZ f)::f.code.map fun x=>(true,Mk x)
def T_ (m:AP):List (Bool×List (List UInt8)):=m.fns.flatMap SE++(m.dat.map (fun x=>(false,QS x))++m.AU.map (fun x=>(false,SC x)))
def toks (m:AP):List (Bool×List (List UInt8)):=T9 m++T_ m
def rY (p:Bool×List (List UInt8)):List UInt8:=(if p.1 then [32,32] else [])++Lib.join p.2 [32]
theorem WL {α:Type} (w:List UInt8) (l:List α) (f:α→List UInt8):Lib.join (w::l.map f) [32]=w++l.flatMap fun x=>32::f x:=by
 rw [Lib.join_cons]
 unfold Lib.joinTail
 rw [List.map_map,List.flatMap_def]
 rfl
theorem lg (x:DL):Lib.join (Mk x) [32]=R4 x:=by
 unfold Mk R4
 by_cases h:Jk x.op.toNat≠0∧Jk x.op.toNat≠3
 ·rw [if_pos h,if_pos h]
  have:=WL (MS x.op.toNat) (x.a::x.l) Lib.itoa
  simpa using this
 ·rw [if_neg h,if_neg h]
  have:=WL (MS x.op.toNat) x.l Lib.itoa
  simpa using this
theorem Ma {α β:Type} {f g:α→List β}: ∀ {l:List α},(∀x∈l,f x=g x)→l.flatMap f=l.flatMap g
 | [],_=>rfl
 | x::l,h=>by rw [List.flatMap_cons,List.flatMap_cons,h x (List.mem_cons_self ..),Ma (fun y hy=>h y (List.mem_cons_of_mem _ hy))]
theorem Yw (m:AP):Gb m=(toks m).flatMap fun p=>rY p++ [10]:=by
 have hE: ∀ws,rY (false,ws)++ [10]=Bv ws:=fun ws=>rfl
 unfold Gb dM dN toks T9 T_
 simp only [List.flatMap_append,List.flatMap_cons,List.flatMap_nil,List.append_nil,List.flatMap_map,hE,List.append_assoc]
 congr 1
 congr 1
 ·refine Ma fun x _=> ?_
  unfold Bv MZ Vm
  simp [Lib.join,List.intercalate]
 congr 1
 congr 1
 congr 1
 congr 1
 rw [List.flatMap_assoc]
 refine Ma fun f _=> ?_
 unfold Zw SE
 rw [List.flatMap_cons,hE,List.flatMap_map]
 congr 1
 refine Ma fun x _=> ?_
 unfold Bv rY
 rw [Lib.join_one,lg]
 rfl
theorem BX {b:Bool} {e:Int} (he:e≠0) (h:Ae b e=0):b=true:=by
 unfold Ae at h
 split at h
 ·assumption
 ·exact absurd h he
theorem Nq {s:ByteArray} {k:Int} (h:Bq s k=0):(s.size:Int)≤k∧s.data.toList.all Tw=true:=by
 have:=AQ h
 refine⟨of_decide_eq_true (BX (by decide) this.1),?_⟩
 have h2:=BX (by decide) this.2
 unfold Ry KV at h2
 rw [Bool.and_eq_true] at h2
 exact h2.2
structure rZ (m:AP):Prop where
 types: ∀x∈m.types,aI x.p x.r=true∧x.p.data.toList.all Tw=true∧x.r.data.toList.all Tw=true
 globs: ∀x∈m.globs,Qg x.l.toNat=true∧Je x.v x.l.toNat=true∧x.v<18446744073709551616
 fns: ∀f∈m.fns,f.loc.data.toList.all Tw=true∧Rd.ER f.t∧ ∀x∈f.code,Ai x=0∧Rd.ER x.a∧ ∀n∈x.l,Rd.ER n
 dat: ∀d∈m.dat,d.b≠ []∧Rd.ER d.at_
 AU: ∀x∈m.AU,x.n.data.toList≠ []∧(∀c∈x.n.data.toList,33≤c.toNat∧c.toNat≤126)∧Rd.ER x.f
 hosts: ∀t∈m.hosts,Rd.ER t
 first:Rd.ER m.first
 most:Rd.ER m.most
theorem at_mem {α:Type} {l:List α} {x:α} (h:x∈l): ∃k,k<l.length∧l[k]?=some x:=by
 obtain⟨k,hk,e⟩:=List.mem_iff_getElem.1 h
 exact⟨k,hk,by rw [List.getElem?_eq_getElem hk,e]⟩
theorem XL {m:AP} (hE:GU m=0) (hN:Kc m):rZ m:=by
 obtain⟨hp,_⟩:=AQ hE
 obtain⟨hh,hb⟩:=AQ hp
 obtain⟨ht,hh⟩:=AQ hh
 obtain⟨hho,hh⟩:=AQ hh
 obtain⟨hg,hpg⟩:=AQ hh
 obtain⟨hf,hb⟩:=AQ hb
 obtain⟨hd,he⟩:=AQ hb
 have hT:=(AQ ht).2
 have hH:=(AQ hho).2
 have hF:=(AQ hf).2
 have hD:=(AQ hd).2
 have hX:=(AQ he).2
 have hlt:=of_decide_eq_true (BX (by decide) (AQ ht).1)
 have hlf:=of_decide_eq_true (BX (by decide) (AQ hf).1)
 have hPg:=of_decide_eq_true (BX (by decide) hpg)
 refine⟨fun x hx=> ?_,fun x hx=> ?_,fun f hf=> ?_,fun d hd=> ?_,fun x hx=> ?_,fun t ht=> ?_,?_,?_⟩
 ·obtain⟨k,hk,hx⟩:=at_mem hx
  have h1:=Ca hT k hk
  unfold YO at h1
  rw [hx] at h1
  obtain⟨h1,h2⟩:=AQ h1
  obtain⟨h2,_⟩:=AQ h2
  obtain⟨a1,a2⟩:=Nq h1
  obtain⟨b1,b2⟩:=Nq h2
  refine⟨?_,a2,b2⟩
  rw [dS]
  unfold KV bl
  rw [Bool.and_eq_true,Bool.and_eq_true]
  refine⟨⟨decide_eq_true ?_,a2⟩,decide_eq_true ?_,b2⟩
  ·rw [←Lib.size_eq];omega
  ·rw [←Lib.size_eq];omega
 ·obtain⟨k,hk,hx'⟩:=at_mem hx
  obtain⟨h1,h2⟩:=PN (AQ hg).2 k x hk hx'
  exact⟨h1,h2,hN.globs x hx⟩
 ·obtain⟨k,hk,hx⟩:=at_mem hf
  have h1:=Ca hF k hk
  unfold Ye at h1
  rw [hx] at h1
  obtain⟨h1,h2⟩:=AQ h1
  obtain⟨h2,h3⟩:=AQ h2
  obtain⟨_,h3⟩:=AQ h3
  obtain⟨_,h3⟩:=AQ h3
  have ht:=of_decide_eq_true (BX (by decide) h1)
  refine⟨(Nq h2).2,⟨by omega,(hN.fns f hf).1⟩,fun x hx=> ?_⟩
  obtain⟨j,hj,hx'⟩:=at_mem hx
  have h4:=Ca h3 j hj
  unfold S9 at h4
  rw [hx'] at h4
  have hc:Ai x=0:=h4
  obtain⟨q1,q2⟩:=(hN.fns f hf).2 x hx
  refine⟨hc,q1,fun n hn=>⟨?_,q2 n hn⟩⟩
  unfold Ai at hc
  split at hc
  ·cases hc
  ·rename_i r hr
   split at hc
   ·cases hc
   ·split at hc
    ·split at hc
     ·cases hc
     ·rename_i hl
      have:x.l= []:=List.eq_nil_of_length_eq_zero (by omega)
      rw [this] at hn;cases hn
    ·split at hc
     ·cases hc
     ·split at hc
      ·rename_i hall
       have:=of_decide_eq_true (List.all_eq_true.1 hall n hn)
       omega
      ·cases hc
 ·obtain⟨k,hk,hx⟩:=at_mem hd
  have h1:=Ca hD k hk
  unfold Nh at h1
  rw [hx] at h1
  obtain⟨h1,h2⟩:=AQ h1
  obtain⟨_,h3⟩:=AQ h2
  obtain⟨_,h4⟩:=AQ h3
  have ha:=of_decide_eq_true (BX (by decide) h1)
  have hb:=of_decide_eq_true (BX (by decide) h4)
  refine⟨fun e=>by rw [e] at hb;exact absurd hb (by decide),by omega,hN.dat d hd⟩
 ·obtain⟨k,hk,hx'⟩:=at_mem hx
  have h1:=Ca hX k hk
  unfold Po at h1
  rw [hx'] at h1
  obtain⟨h1,h2⟩:=AQ h1
  obtain⟨_,h3⟩:=AQ h2
  unfold Ql at h1
  obtain⟨_,h1⟩:=AQ h1
  obtain⟨h1,h4⟩:=AQ h1
  have hs:=of_decide_eq_true (BX (by decide) h1)
  have hc:=BX (by decide) h4
  have ht:=of_decide_eq_true (BX (by decide) h3)
  refine⟨fun e=>by rw [Lib.size_eq,e] at hs;exact absurd hs (by decide),fun c hc'=> ?_,by omega,by omega⟩
  have:=List.all_eq_true.1 hc c hc'
  unfold Qe at this
  have:=of_decide_eq_true this
  omega
 ·obtain⟨k,hk,hx⟩:=at_mem ht
  have h1:=Ca hH k hk
  unfold Ji at h1
  rw [hx] at h1
  have ht':=of_decide_eq_true (BX (by decide) h1)
  exact⟨by omega,hN.hosts t ht⟩
 ·exact⟨by omega,by omega⟩
 ·exact⟨by omega,by omega⟩
theorem lq: ∀r∈EB,Lj r.word=some r:=by
 unfold EB
 repeat (refine List.forall_mem_cons.2 ⟨by kernel_rfl,?_⟩)
 exact fun _ h=>by cases h
theorem iC:EB.all (fun r=>decide (Dx r.word=0)&&((!r.word.data.toList.isEmpty&&r.word.data.toList.all (fun c=>decide (33≤c.toNat∧c.toNat≤126)))&& !(r.word.data.toList.head?==some 59)))=true:=by kernel_rfl
theorem Uk {r:XD} (h:r∈EB):Dx r.word=0∧Pq r.word.data.toList∧(r.word.data.toList.head?==some 59)=false:=by
 have:=List.all_eq_true.1 iC r h
 rw [Bool.and_eq_true,Bool.and_eq_true] at this
 exact⟨of_decide_eq_true this.1,J5 this.2.1,by simpa using this.2.2⟩
theorem XM {x:DL} (h:Ai x=0): ∃r,DU x.op.toNat=some r∧r∈EB∧r.op=x.op.toNat:=by
 unfold Ai at h
 split at h
 ·cases h
 ·rename_i r hr
  exact⟨r,hr,(Iu hr).1,(Iu hr).2⟩
theorem I7 {n:Int} (h:Rd.ER n):BH (CK (Lib.itoa n))=some n:=by
 unfold BH
 rw [KN]
 exact Sr h.1 (by have:=h.2;omega)
theorem Yx: ∀ {l:List Int},(∀n∈l,Rd.ER n)→((l.map Lib.itoa).map CK).mapM BH=some l
 | [],_=>rfl
 | n::l,h=>by
  have ih:=Yx (l:=l) (fun k hk=>h k (List.mem_cons_of_mem _ hk))
  rw [List.map_cons,List.map_cons,List.mapM_cons,I7 (h n (List.mem_cons_self ..)),ih]
  rfl
def SF (l:List (List UInt8)):Prop:=(∀w∈l,Pq w)∧ ∃w ws,l=w::ws∧(w.head?==some 59)=false
theorem SF.skip {l:List (List UInt8)} (h:SF l):GV (l.map CK)=false:=by
 obtain⟨_,w,ws,rfl,h⟩:=h
 show((CK w).data.toList.head?==some 59)=false
 rw [KN]
 exact h
theorem Qq {l:List ByteArray} {t:List (List ByteArray)} {r r':Ka} (hs:GV l=false) (h:Ar r l=some r'):R8 (l::t) r=R8 t r':=by
 show(if GV l=true then _ else(Ar r l).bind (R8 t))=_
 rw [if_neg (by rw [hs];exact Bool.false_ne_true),h]
 rfl
theorem PO {α:Type} (tok:α→List ByteArray) (p:Nat) (put:AP→α→AP) (ok:α→Prop) (hp:Az p p=true)
 (vZ: ∀x,ok x→GV (tok x)=false) (hstep: ∀m st x,ok x→Az p st=true→Ar ⟨m,st⟩ (tok x)=some ⟨put m x,p⟩):
 ∀(l:List α) (m:AP) (st:Nat),(∀x∈l,ok x)→Az p st=true→R8 (l.map tok) ⟨m,st⟩=some ⟨l.foldl put m,if l= [] then st else p⟩
 | [],m,st,_,_=>rfl
 | x::l,m,st,h,hst=>by
  rw [List.map_cons,Qq (vZ x (h x (List.mem_cons_self ..))) (hstep m st x (h x (List.mem_cons_self ..)) hst),
   PO tok p put ok hp vZ hstep l _ p (fun y hy=>h y (List.mem_cons_of_mem _ hy)) hp,List.foldl_cons,if_neg (List.cons_ne_nil _ _)]
  by_cases hl:l= []
  ·rw [if_pos hl]
  ·rw [if_neg hl]
theorem IQ {m:AP} {st p:Nat} {w:ByteArray} {ws:List ByteArray} {m':AP} (hk:Dx w=p) (h0:p≠0) (ho:Az p st=true) (hr:Av p m ws=some m'):Ar ⟨m,st⟩ (w::ws)=some ⟨m',p⟩:=by
 show(if Dx w=0 then _ else if Az (Dx w) st=true then(Av (Dx w) m ws).map (fun m'=>(⟨m',Dx w⟩:Ka)) else none)=_
 rw [hk,if_neg h0,if_pos ho,hr]
 rfl
theorem lu:Dx (CK KG)=1:=by kernel_rfl
theorem xV:Dx (CK S_)=2:=by kernel_rfl
theorem l8:Dx (CK MU)=3:=by kernel_rfl
theorem l9:Dx (CK JK)=4:=by kernel_rfl
theorem mD:Dx (CK JL)=5:=by kernel_rfl
theorem xW:Dx (CK WC)=6:=by kernel_rfl
theorem xX:Dx (CK Yf)=7:=by kernel_rfl
theorem mE:Dx (CK Qm)=8:=by kernel_rfl
theorem Ul (s:ByteArray):CK (Fq s)=DV s:=by
 unfold Fq DV
 by_cases h:s.size=0
 ·have h0:s.data.toList= []:=List.eq_nil_of_length_eq_zero (by rw [←Lib.size_eq];exact h)
  have:s=none_:=lN (by show s.data.toList=_;rw [h0];rfl)
  rw [if_pos h,if_pos this];rfl
 ·have:s≠none_:=fun e=>h (by rw [e];rfl)
  rw [if_neg h,if_neg this,Og]
theorem ru {m:AP} {st:Nat} {x:DI} (h:aI x.p x.r=true) (ho:Az 2 st=true):Ar ⟨m,st⟩ ((MZ x).map CK)=some ⟨{m with types:=m.types++ [x]},2⟩:=by
 refine IQ xV (by decide) ho ?_
 have hj:IL ([Fq x.p,[45,62],Fq x.r].map CK)=DV x.p++arrow++DV x.r:=by
  apply lN
  rw [Ug,Ug,←Ul,←Ul]
  unfold IL bl
  simp only [List.map_cons,List.map_nil,KN]
  simp [Lib.join,List.intercalate,arrow]
 have hw:OJ x.p x.r=(IL ([Fq x.p,[45,62],Fq x.r].map CK),0):=by rw [hj];unfold OJ;rw [if_pos h]
 have hr:=gy hw
 show(if(El (IL ([Fq x.p,[45,62],Fq x.r].map CK))).2.2=0 then _ else _)=_
 rw [hr,if_pos rfl]
theorem r9 {m:AP} {st:Nat} {t:Int} (h:Rd.ER t) (ho:Az 3 st=true):Ar ⟨m,st⟩ ((Nn t).map CK)=some ⟨{m with hosts:=m.hosts++ [t]},3⟩:=by
 refine IQ l8 (by decide) ho ?_
 show(BH (CK (Lib.itoa t))).map _=_
 rw [I7 h]
 rfl
theorem aN {x:EJ} (h1:Qg x.l.toNat=true) (h2:Je x.v x.l.toNat=true) (h3:x.v<18446744073709551616):Ju (CK [x.l]) (CK (if x.m then TT else KZ)) (BK x)=some x:=by
 obtain⟨l,b,v⟩:=x
 have hb:(CK (if b then TT else KZ)=OQ∨CK (if b then TT else KZ)=JV)∧decide (CK (if b then TT else KZ)=OQ)=b:=by
  cases b
  ·exact⟨Or.inr rfl,by decide⟩
  ·exact⟨Or.inl rfl,by decide⟩
 unfold Qg at h1
 simp only [Bool.or_eq_true,beq_iff_eq] at h1
 unfold Ju
 simp only at hb h2 h3⊢
 rcases h1 with h1 | h1
 ·have hl:l=119:=by rw [←UInt8.toNat_inj];exact h1
  subst hl
  have hv:v<4294967296:=by unfold Je at h2;simpa using h2
  have e1:CK [(119:UInt8)]=wW:=rfl
  have hs:BK ⟨119,b,v⟩=if 2147483648≤v then(v:Int)-4294967296 else v:=by
   unfold BK
   by_cases h:2147483648≤v
   ·rw [if_pos ⟨rfl,h⟩,if_pos h]
   ·rw [if_neg (by simp only;omega),if_neg h,if_pos (by simp only;omega)]
  rw [e1,if_pos ⟨Or.inl rfl,hb.1⟩,if_pos rfl,hb.2,hs,if_pos (by split<;>omega)]
  congr 2
  split<;>omega
 ·have hl:l=108:=by rw [←UInt8.toNat_inj];exact h1
  subst hl
  have e1:CK [(108:UInt8)]=lW:=rfl
  have hne:lW≠wW:=by decide
  have hs:BK ⟨108,b,v⟩=if v<9223372036854775808 then(v:Int) else(v:Int)-18446744073709551616:=by
   unfold BK
   rw [if_neg (by simp only;intro h;exact absurd h.1 (by decide))]
  rw [e1,if_pos ⟨Or.inr rfl,hb.1⟩,if_neg hne,hb.2,hs]
  congr 2
  split<;>omega
theorem r_ {m:AP} {st:Nat} {x:EJ} (h1:Qg x.l.toNat=true) (h2:Je x.v x.l.toNat=true) (h3:x.v<18446744073709551616) (ho:Az 4 st=true):
 Ar ⟨m,st⟩ ((Np x).map CK)=some ⟨{m with globs:=m.globs++ [x]},4⟩:=by
 refine IQ l9 (by decide) ho ?_
 have hs:=Oh h3 h2
 show(BH (CK (Lib.itoa (BK x)))).bind _=_
 rw [I7 hs]
 show(Ju (CK [x.l]) (CK (if x.m then TT else KZ)) (BK x)).map _=_
 rw [aN h1 h2 h3]
 rfl
theorem xY {m:AP} {st:Nat} {a b:Int} (ha:Rd.ER a) (hb:Rd.ER b) (ho:Az 5 st=true):
 Ar ⟨m,st⟩ ([JL,Lib.itoa a,Lib.itoa b].map CK)=some ⟨{m with first:=a,most:=b},5⟩:=by
 refine IQ mD (by decide) ho ?_
 show(BH (CK (Lib.itoa a))).bind (fun x=>(BH (CK (Lib.itoa b))).map _)=_
 rw [I7 ha,I7 hb]
 rfl
theorem mF {s:ByteArray} (h:s.data.toList.all Tw=true):R7 (CK (Fq s))=s:=by
 rw [Ul]
 unfold R7 DV
 by_cases hs:s=none_
 ·rw [if_pos hs,if_pos rfl,hs]
 ·rw [if_neg hs,if_neg]
  rintro rfl
  exact absurd h (by decide)
theorem AAq {m:AP} {st:Nat} {f:GR} (h:f.loc.data.toList.all Tw=true) (ht:Rd.ER f.t) (ho:Az 6 st=true):
 Ar ⟨m,st⟩ ((lZ f).map CK)=some ⟨{m with fns:=m.fns++ [⟨f.t,f.loc,[]⟩]},6⟩:=by
 refine IQ xW (by decide) ho ?_
 show(BH (CK (Lib.itoa f.t))).map _=_
 rw [I7 ht]
 show some ({m with fns:=m.fns++ [(⟨f.t,R7 (CK (Fq f.loc)),[]⟩:GR)]}:AP)=_
 rw [mF h]
theorem xZ {m:AP} {st:Nat} {d:EU} (h:Rd.ER d.at_) (ho:Az 7 st=true):Ar ⟨m,st⟩ ((QS d).map CK)=some ⟨{m with dat:=m.dat++ [d]},7⟩:=by
 refine IQ xX (by decide) ho ?_
 show(BH (CK (Lib.itoa d.at_))).bind (fun n=>(Jc (CK (KJ d.b)).data.toList).map _)=_
 rw [I7 h,KN,Yv]
 rfl
theorem xg {m:AP} {st:Nat} {x:Jy} (h:Rd.ER x.f) (ho:Az 8 st=true):Ar ⟨m,st⟩ ((SC x).map CK)=some ⟨{m with AU:=m.AU++ [x]},8⟩:=by
 refine IQ mE (by decide) ho ?_
 show(BH (CK (Lib.itoa x.f))).map _=_
 rw [I7 h,Og]
 rfl
theorem xk {m:AP} {x:DL} (h:Ai x=0) (ha:Rd.ER x.a) (hl: ∀n∈x.l,Rd.ER n):Ar ⟨m,6⟩ ((Mk x).map CK)=some ⟨{m with fns:=GJ m.fns x},6⟩:=by
 obtain⟨r,hr,hm,hop⟩:=XM h
 obtain⟨hk,_,_⟩:=Uk hm
 have hw:MS x.op.toNat=r.word.data.toList:=by unfold MS;rw [hr]
 have ht:Jk x.op.toNat=r.takes:=by unfold Jk;rw [hr]
 have hf:=lq r hm
 have ho:UInt8.ofNat r.op=x.op:=by rw [hop];simp
 have JE:=h
 unfold Ai at JE
 rw [hr] at JE
 simp only at JE
 have hb:(Aw r).1≤x.a∧x.a≤(Aw r).2:=by
  refine Decidable.byContradiction fun hn=> ?_
  rw [if_pos hn] at JE;cases JE
 rw [if_neg (fun hn=>hn hb)] at JE
 have hi:OT r (((if r.takes≠0∧r.takes≠3 then [Lib.itoa x.a] else [])++x.l.map Lib.itoa).map CK)=some x:=by
  obtain⟨op,a,l⟩:=x
  simp only at*
  unfold OT
  by_cases h0:r.takes=0
  ·have hb0:Aw r=(0,0):=by
    unfold Aw
    rw [h0];rfl
   rw [hb0] at hb
   have:a=0:=by simp only at hb;omega
   subst this
   rw [if_pos (by omega)] at JE
   have:l= []:=by
    refine List.eq_nil_of_length_eq_zero ?_
    refine Decidable.byContradiction fun hn=> ?_
    rw [if_pos (by omega)] at JE;cases JE
   subst this
   rw [if_pos h0,if_neg (by omega),ho]
   rfl
  ·rw [if_neg h0]
   by_cases h3:r.takes=3
   ·have hb0:Aw r=(0,0):=by
     unfold Aw
     rw [h3];rfl
    rw [hb0] at hb
    have:a=0:=by simp only at hb;omega
    subst this
    rw [if_pos h3,if_neg (by omega),List.nil_append,Yx hl,ho]
    rfl
   ·rw [if_pos h3] at JE
    have:l= []:=by
     refine List.eq_nil_of_length_eq_zero ?_
     refine Decidable.byContradiction fun hn=> ?_
     rw [if_pos (by omega)] at JE;cases JE
    subst this
    rw [if_neg h3,if_pos ⟨h0,h3⟩]
    show(BH (CK (Lib.itoa a))).map _=_
    rw [I7 ha,ho]
    rfl
 unfold Mk
 rw [hw,ht,List.map_cons,Og]
 show(if Dx r.word=0 then(if(6:Nat)=6 then(Lj r.word).bind fun o=>(OT o _).map _ else none) else _)=_
 rw [if_pos hk,if_pos rfl,hf]
 show(OT r _).map _=_
 rw [hi]
 rfl
theorem Yy:SF [KG]:=⟨fun w hw=>by rw [List.mem_singleton] at hw;subst hw;exact J5 (by decide),_,_,rfl,by decide⟩
theorem Mc {w:List UInt8} {ws:List (List UInt8)} (h1:Pq w) (h2:(w.head?==some 59)=false) (h: ∀x∈ws,Pq x):SF (w::ws):=
 ⟨fun x hx=>(List.mem_cons.1 hx).elim (fun e=>e▸h1) (h x),w,ws,rfl,h2⟩
theorem all1 {a:List UInt8} (ha:Pq a): ∀x∈ [a],Pq x:=fun x hx=>by rw [List.mem_singleton] at hx;exact hx▸ha
theorem all2 {a:List UInt8} {l:List (List UInt8)} (ha:Pq a) (hl: ∀x∈l,Pq x): ∀x∈a::l,Pq x:=fun x hx=>(List.mem_cons.1 hx).elim (fun e=>e▸ha) (hl x)
theorem dX {x:DI} (h1:x.p.data.toList.all Tw=true) (h2:x.r.data.toList.all Tw=true):SF (MZ x):=
 Mc (J5 (by decide)) (by decide) (all2 (Oi h1) (all2 (J5 (by decide)) (all1 (Oi h2))))
theorem dY (t:Int):SF (Nn t):=Mc (J5 (by decide)) (by decide) (all1 (Jm t))
theorem dZ {x:EJ} (h:Qg x.l.toNat=true):SF (Np x):=by
 refine Mc (J5 (by decide)) (by decide) (all2 ⟨List.cons_ne_nil _ _,fun c hc=> ?_⟩ (all2 ?_ (all1 (Jm _))))
 ·rw [List.mem_singleton] at hc
  subst hc
  unfold Qg at h
  simp at h
  omega
 ·cases x.m
  ·exact J5 (by decide)
  ·exact J5 (by decide)
theorem mG (a b:Int):SF [JL,Lib.itoa a,Lib.itoa b]:=Mc (J5 (by decide)) (by decide) (all2 (Jm a) (all1 (Jm b)))
theorem vg {f:GR} (h:f.loc.data.toList.all Tw=true):SF (lZ f):=Mc (J5 (by decide)) (by decide) (all2 (Jm _) (all1 (Oi h)))
theorem mH {d:EU} (h:d.b≠ []):SF (QS d):=Mc (J5 (by decide)) (by decide) (all2 (Jm _) (all1 (rX h)))
theorem mI {x:Jy} (h:x.n.data.toList≠ []∧ ∀c∈x.n.data.toList,33≤c.toNat∧c.toNat≤126):SF (SC x):=Mc (J5 (by decide)) (by decide) (all2 h (all1 (Jm _)))
theorem mJ {x:DL} (h:Ai x=0):SF (Mk x):=by
 obtain⟨r,hr,hm,hop⟩:=XM h
 obtain⟨_,h1,h2⟩:=Uk hm
 have hw:MS x.op.toNat=r.word.data.toList:=by unfold MS;rw [hr]
 unfold Mk
 rw [hw]
 refine Mc h1 h2 fun w hw=> ?_
 rcases List.mem_append.1 hw with hw | hw
 ·split at hw
  ·rw [List.mem_singleton] at hw;subst hw;exact Jm _
  ·cases hw
 ·obtain⟨n,_,rfl⟩:=List.mem_map.1 hw
  exact Jm n
theorem mK {m:AP} (h:rZ m): ∀p∈toks m,SF p.2:=by
 intro p hp
 unfold toks T9 T_ at hp
 simp only [List.cons_append,List.mem_cons,List.mem_append,List.mem_map,List.mem_flatMap,List.not_mem_nil,or_false] at hp
 rcases hp with rfl | (⟨x,hx,rfl⟩ | ⟨x,hx,rfl⟩ | ⟨x,hx,rfl⟩ | rfl) | ⟨f,hf,hp⟩ | ⟨x,hx,rfl⟩ | ⟨x,hx,rfl⟩
 ·exact Yy
 ·exact dX (h.types x hx).2.1 (h.types x hx).2.2
 ·exact dY x
 ·exact dZ (h.globs x hx).1
 ·exact mG _ _
 ·unfold SE at hp
  rcases List.mem_cons.1 hp with rfl | hp
  ·exact vg (h.fns f hf).1
  ·obtain⟨x,hx,rfl⟩:=List.mem_map.1 hp
   exact mJ ((h.fns f hf).2.2 x hx).1
 ·exact mH (h.dat x hx).1
 ·exact mI ⟨(h.AU x hx).1,(h.AU x hx).2.1⟩
theorem Um: ∀(l:List DI) (m:AP),l.foldl (fun m x=> {m with types:=m.types++ [x]}) m= {m with types:=m.types++l}
 | [],m=>by simp
 | x::l,m=>by rw [List.foldl_cons,Um l];simp
theorem Un: ∀(l:List Int) (m:AP),l.foldl (fun m x=> {m with hosts:=m.hosts++ [x]}) m= {m with hosts:=m.hosts++l}
 | [],m=>by simp
 | x::l,m=>by rw [List.foldl_cons,Un l];simp
theorem Uo: ∀(l:List EJ) (m:AP),l.foldl (fun m x=> {m with globs:=m.globs++ [x]}) m= {m with globs:=m.globs++l}
 | [],m=>by simp
 | x::l,m=>by rw [List.foldl_cons,Uo l];simp
theorem Yz: ∀(l:List EU) (m:AP),l.foldl (fun m x=> {m with dat:=m.dat++ [x]}) m= {m with dat:=m.dat++l}
 | [],m=>by simp
 | x::l,m=>by rw [List.foldl_cons,Yz l];simp
theorem WM: ∀(l:List Jy) (m:AP),l.foldl (fun m x=> {m with AU:=m.AU++ [x]}) m= {m with AU:=m.AU++l}
 | [],m=>by simp
 | x::l,m=>by rw [List.foldl_cons,WM l];simp
theorem mM (fns:List GR) (f:GR) (x:DL):GJ (fns++ [f]) x=fns++ [{f with code:=f.code++ [x]}]:=by
 unfold GJ
 rw [List.getLast?_concat,List.dropLast_concat]
theorem WO: ∀(l:List DL) (m:AP) (fns:List GR) (f:GR),m.fns=fns++ [f]→
 l.foldl (fun m x=> {m with fns:=GJ m.fns x}) m= {m with fns:=fns++ [{f with code:=f.code++l}]}
 | [],m,fns,f,h=>by
  rw [List.foldl_nil,List.append_nil,←h]
 | x::l,m,fns,f,h=>by
  rw [List.foldl_cons,WO l _ fns {f with code:=f.code++ [x]} (by rw [h,mM])]
  simp
theorem xq {f:GR} (hl:f.loc.data.toList.all Tw=true) (ht:Rd.ER f.t) (hc: ∀x∈f.code,Ai x=0∧Rd.ER x.a∧ ∀n∈x.l,Rd.ER n) (m:AP) {st:Nat} (ho:Az 6 st=true):
 R8 ((SE f).map (fun p=>p.2.map CK)) ⟨m,st⟩=some ⟨{m with fns:=m.fns++ [f]},6⟩:=by
 unfold SE
 rw [List.map_cons,Qq (vg hl).skip (AAq hl ht ho),List.map_map]
 have hg: ∀(l:List DL) (m:AP),(∀x∈l,Ai x=0∧Rd.ER x.a∧ ∀n∈x.l,Rd.ER n)→
  R8 (l.map fun x=>(Mk x).map CK) ⟨m,6⟩=some ⟨l.foldl (fun m x=> {m with fns:=GJ m.fns x}) m,6⟩:=by
  intro l
  induction l with
  | nil=>intro m _;rfl
  | cons x l ih=>
   intro m h
   obtain⟨h1,h2,h3⟩:=h x (List.mem_cons_self ..)
   rw [List.map_cons,Qq (mJ h1).skip (xk h1 h2 h3),ih _ (fun y hy=>h y (List.mem_cons_of_mem _ hy)),List.foldl_cons]
 have:=hg f.code {m with fns:=m.fns++ [⟨f.t,f.loc,[]⟩]} hc
 rw [show((fun p:Bool×List (List UInt8)=>p.2.map CK)∘fun x=>(true,Mk x))=fun x=>(Mk x).map CK from rfl,this]
 rw [WO f.code _ m.fns ⟨f.t,f.loc,[]⟩ rfl]
 simp
theorem dh: ∀(l:List GR),(∀f∈l,f.loc.data.toList.all Tw=true∧Rd.ER f.t∧ ∀x∈f.code,Ai x=0∧Rd.ER x.a∧ ∀n∈x.l,Rd.ER n)→ ∀(m:AP) (st:Nat),Az 6 st=true→
 ∃st',(st'=st∨st'=6)∧R8 ((l.flatMap SE).map (fun p=>p.2.map CK)) ⟨m,st⟩=some ⟨{m with fns:=m.fns++l},st'⟩
 | [],_,m,st,_=>⟨st,.inl rfl,by simp [R8]⟩
 | f::l,h,m,st,ho=>by
  obtain⟨h1,h2,h3⟩:=h f (List.mem_cons_self ..)
  obtain⟨st',hs,he⟩:=dh l (fun g hg=>h g (List.mem_cons_of_mem _ hg)) {m with fns:=m.fns++ [f]} 6 (by decide)
  refine⟨st',.inr (hs.elim id id),?_⟩
  rw [List.flatMap_cons,List.map_append,LV _ _ _ _ (xq h1 h2 h3 m ho),he]
  simp
theorem mO {m:AP} (h:rZ m): ∃st,5≤st∧R8 ((toks m).map (fun p=>p.2.map CK)) qj=some ⟨m,st⟩:=by
 obtain⟨ty,ho,gl,fi,mo,fn,da,ex⟩:=m
 obtain⟨hty,hgl,hfn,hda,hex,hho,hfi,hmo⟩:=h
 simp only at hty hgl hfn hda hex hho hfi hmo
 have e0:Ar qj [CK KG]=some ⟨Br,1⟩:=IQ lu (by decide) (by decide) rfl
 have e2:=PO (fun x=>(MZ x).map CK) 2 (fun m x=> {m with types:=m.types++ [x]}) (fun x=>aI x.p x.r=true∧x.p.data.toList.all Tw=true∧x.r.data.toList.all Tw=true) (by decide)
  (fun x hx=>(dX hx.2.1 hx.2.2).skip) (fun m st x hx ho=>ru hx.1 ho) ty Br 1 hty (by decide)
 rw [Um] at e2
 obtain⟨s2,hs2,e2⟩: ∃s,(s=1∨s=2)∧R8 (ty.map fun x=>(MZ x).map CK) ⟨Br,1⟩=some ⟨{Br with types:=Br.types++ty},s⟩:=⟨_,by split;exact .inl rfl;exact .inr rfl,e2⟩
 have e3:=PO (fun x=>(Nn x).map CK) 3 (fun m x=> {m with hosts:=m.hosts++ [x]}) Rd.ER (by decide)
  (fun x hx=>(dY x).skip) (fun m st x hx ho=>r9 hx ho) ho {Br with types:=Br.types++ty} s2 hho (by rcases hs2 with rfl | rfl<;>decide)
 rw [Un] at e3
 obtain⟨s3,hs3,e3⟩: ∃s,(s=1∨s=2∨s=3)∧R8 (ho.map fun x=>(Nn x).map CK) ⟨{Br with types:=Br.types++ty},s2⟩=some ⟨{Br with types:=Br.types++ty,hosts:=Br.hosts++ho},s⟩:=
  ⟨_,by rcases hs2 with rfl | rfl<;>(split<;>simp),e3⟩
 have e4:=PO (fun x=>(Np x).map CK) 4 (fun m x=> {m with globs:=m.globs++ [x]}) (fun x=>Qg x.l.toNat=true∧Je x.v x.l.toNat=true∧x.v<18446744073709551616) (by decide)
  (fun x hx=>(dZ hx.1).skip) (fun m st x hx ho=>r_ hx.1 hx.2.1 hx.2.2 ho) gl {Br with types:=Br.types++ty,hosts:=Br.hosts++ho} s3 hgl (by rcases hs3 with rfl | rfl | rfl<;>decide)
 rw [Uo] at e4
 obtain⟨s4,hs4,e4⟩: ∃s,(s=1∨s=2∨s=3∨s=4)∧R8 (gl.map fun x=>(Np x).map CK) ⟨{Br with types:=Br.types++ty,hosts:=Br.hosts++ho},s3⟩=some ⟨{Br with types:=Br.types++ty,hosts:=Br.hosts++ho,globs:=Br.globs++gl},s⟩:=
  ⟨_,by rcases hs3 with rfl | rfl | rfl<;>(split<;>simp),e4⟩
 have e5:Ar ⟨{Br with types:=Br.types++ty,hosts:=Br.hosts++ho,globs:=Br.globs++gl},s4⟩ [CK JL,CK (Lib.itoa fi),CK (Lib.itoa mo)]=some ⟨{Br with types:=Br.types++ty,hosts:=Br.hosts++ho,globs:=Br.globs++gl,first:=fi,most:=mo},5⟩:=
  xY hfi hmo (by rcases hs4 with rfl | rfl | rfl | rfl<;>decide)
 obtain⟨s6,hs6,e6⟩:=dh fn hfn {Br with types:=Br.types++ty,hosts:=Br.hosts++ho,globs:=Br.globs++gl,first:=fi,most:=mo} 5 (by decide)
 have e7:=PO (fun x=>(QS x).map CK) 7 (fun m x=> {m with dat:=m.dat++ [x]}) (fun d=>d.b≠ []∧Rd.ER d.at_) (by decide)
  (fun x hx=>(mH hx.1).skip) (fun m st x hx ho=>xZ hx.2 ho) da {Br with types:=Br.types++ty,hosts:=Br.hosts++ho,globs:=Br.globs++gl,first:=fi,most:=mo,fns:=Br.fns++fn} s6 hda (by rcases hs6 with rfl | rfl<;>decide)
 rw [Yz] at e7
 obtain⟨s7,hs7,e7⟩: ∃s,(s=5∨s=6∨s=7)∧R8 (da.map fun x=>(QS x).map CK) ⟨{Br with types:=Br.types++ty,hosts:=Br.hosts++ho,globs:=Br.globs++gl,first:=fi,most:=mo,fns:=Br.fns++fn},s6⟩=
  some ⟨{Br with types:=Br.types++ty,hosts:=Br.hosts++ho,globs:=Br.globs++gl,first:=fi,most:=mo,fns:=Br.fns++fn,dat:=Br.dat++da},s⟩:=
  ⟨_,by rcases hs6 with rfl | rfl<;>(split<;>simp),e7⟩
 have e8:=PO (fun x=>(SC x).map CK) 8 (fun m x=> {m with AU:=m.AU++ [x]}) (fun x=>x.n.data.toList≠ []∧(∀c∈x.n.data.toList,33≤c.toNat∧c.toNat≤126)∧Rd.ER x.f) (by decide)
  (fun x hx=>(mI ⟨hx.1,hx.2.1⟩).skip) (fun m st x hx ho=>xg hx.2.2 ho) ex {Br with types:=Br.types++ty,hosts:=Br.hosts++ho,globs:=Br.globs++gl,first:=fi,most:=mo,fns:=Br.fns++fn,dat:=Br.dat++da} s7 hex (by rcases hs7 with rfl | rfl | rfl<;>decide)
 rw [WM] at e8
 refine⟨if ex= [] then s7 else 8,by split<;>omega,?_⟩
 unfold toks T9 T_ lY
 simp only [List.map_append,List.map_cons,List.map_nil,List.map_map,List.cons_append,List.append_assoc]
 rw [Qq (show GV [CK KG]=false from Yy.skip) e0]
 rw [show((fun p:Bool×List (List UInt8)=>p.2.map CK)∘fun x=>(false,MZ x))=fun x=>(MZ x).map CK from rfl,LV _ _ _ _ e2]
 rw [show((fun p:Bool×List (List UInt8)=>p.2.map CK)∘fun x=>(false,Nn x))=fun x=>(Nn x).map CK from rfl,LV _ _ _ _ e3]
 rw [show((fun p:Bool×List (List UInt8)=>p.2.map CK)∘fun x=>(false,Np x))=fun x=>(Np x).map CK from rfl,LV _ _ _ _ e4]
 rw [Qq (show GV [CK JL,CK (Lib.itoa fi),CK (Lib.itoa mo)]=false from(mG fi mo).skip) e5,List.nil_append,LV _ _ _ _ e6]
 rw [show((fun p:Bool×List (List UInt8)=>p.2.map CK)∘fun x=>(false,QS x))=fun x=>(QS x).map CK from rfl,LV _ _ _ _ e7]
 rw [show((fun p:Bool×List (List UInt8)=>p.2.map CK)∘fun x=>(false,SC x))=fun x=>(SC x).map CK from rfl,e8]
 rfl
theorem Y0 {m:AP} (hE:GU m=0) (hN:Kc m) (hs:(Gb m).length≤1048576):Ew (CK (Gb m))=(m,0,0):=by
 have hF:=XL hE hN
 obtain⟨st,hst,hg⟩:=mO hF
 have hok:=mK hF
 have hln: ∀p∈toks m,JD (rY p) p.2∧(∀c∈rY p,c.toNat<128∧c≠10):=by
  intro p hp
  obtain⟨hw,_⟩:=hok p hp
  have h2: ∀c∈(if p.1=true then [32,32] else([]:List UInt8)),c=32:=by
   intro c hc
   split at hc
   ·simpa using hc
   ·cases hc
  constructor
  ·exact Yp (fun c hc=>by rw [h2 c hc];decide) (TG fun w hw'=>(hw w hw').word)
  ·intro c hc
   have hj: ∀l:List (List UInt8),(∀w∈l,Pq w)→ ∀c∈Lib.join l [32],c=32∨(33≤c.toNat∧c.toNat≤126):=by
    intro l hl c hc
    cases l with
    | nil=>cases hc
    | cons a l=>
     rw [Lib.join_cons] at hc
     rcases List.mem_append.1 hc with hc | hc
     ·exact .inr ((hl a (List.mem_cons_self ..)).2 c hc)
     ·unfold Lib.joinTail at hc
      obtain⟨w,hw,hc⟩:=List.mem_flatten.1 hc
      obtain⟨v,hv,rfl⟩:=List.mem_map.1 hw
      rcases List.mem_append.1 hc with hc | hc
      ·exact .inl (by simpa using hc)
      ·exact .inr ((hl v (List.mem_cons_of_mem _ hv)).2 c hc)
   have:c=32∨(33≤c.toNat∧c.toNat≤126):=(List.mem_append.1 hc).elim (fun h=> .inl (h2 c h)) (hj p.2 hw c)
   rcases this with rfl | h
   ·exact⟨by decide,by decide⟩
   ·exact⟨by omega,fun e=>by subst e;exact absurd h.1 (by decide)⟩
 have hp:Gb m=((toks m).map rY).flatMap (· ++ [10]):=by rw [Yw,List.flatMap_map]
 refine gX (st:=st) (by show(List.toArray _).size≤_;rw [List.size_toArray];exact hs) ?_ hst hE
 rw [hp,Yq _ (fun l hl c hc=>by obtain⟨p,hp,rfl⟩:=List.mem_map.1 hl;exact((hln p hp).2 c hc).2),List.map_append,List.map_append,List.map_map,List.map_map]
 have e1:(toks m).map (DN∘CK∘rY)=(toks m).map (fun p=>p.2.map CK):=
  List.map_congr_left fun p hp=>lM (fun c hc=>((hln p hp).2 c hc).1) (hln p hp).1
 have e2:DN (CK [])= []:=by kernel_rfl
 rw [show(DN∘CK)∘rY=DN∘CK∘rY from rfl,e1,LV _ _ _ _ hg]
 show R8 [DN (CK [])] _=_
 rw [e2]
 rfl
theorem dn: ∀(k u:Nat),u<10^(k+1)→(Lib.decDigits u).length≤k+1
 | 0,u,h=>by rw [Lib.decDigits,dif_pos (by omega)];simp
 | k+1,u,h=>by
  by_cases h10:u<10
  ·rw [Lib.decDigits,dif_pos h10];simp
  ·rw [Lib.decDigits,dif_neg h10,List.length_append]
   have:=dn k (u/10) (by rw [Nat.pow_succ] at h;omega)
   simp
   omega
theorem xu (u:Nat):u<128^(enc u).length:=by
 induction u using Nat.strongRecOn with
 | _ u ih=>
  by_cases h:u<128
  ·rw [Jz u h];simpa using h
  ·rw [M0 u h,List.length_cons,Nat.pow_succ]
   have:=ih (u/128) (by omega)
   omega
theorem XO {u v:Nat} (h:u≤v):(Lib.decDigits u).length≤3*(enc v).length:=by
 have h1:=xu v
 have h0:=EW v
 have h2:128^(enc v).length≤(10^3)^(enc v).length:=Nat.pow_le_pow_left (by decide) _
 rw [←Nat.pow_mul] at h2
 have h3:=dn (3*(enc v).length-1) u (by rw [show 3*(enc v).length-1+1=3*(enc v).length by omega];omega)
 omega
theorem KO {n:Int} (h:0≤n):(Lib.itoa n).length≤3*(enc n.toNat).length:=by
 unfold Lib.itoa
 rw [if_neg (by omega)]
 exact XO (Nat.le_refl _)
theorem WQ (n:Int):(Lib.itoa n).length≤1+3*(enc (folded n)).length:=by
 unfold Lib.itoa
 split
 ·rename_i h
  have:=XO (u:=n.natAbs) (v:=folded n) (by unfold folded;rw [if_pos h];omega)
  rw [List.length_cons];omega
 ·rename_i h
  have:=XO (u:=n.toNat) (v:=folded n) (by unfold folded;rw [if_neg h];omega)
  omega
theorem I8 {α:Type} {f g:α→List UInt8}: ∀ {l:List α},(∀x∈l,(f x).length≤16*(g x).length)→(l.flatMap f).length≤16*(l.flatMap g).length
 | [],_=>Nat.zero_le _
 | x::l,h=>by
  have h1:=h x (List.mem_cons_self ..)
  have h2:=I8 (fun y hy=>h y (List.mem_cons_of_mem _ hy)) (l:=l)
  rw [List.flatMap_cons,List.flatMap_cons,List.length_append,List.length_append]
  omega
theorem Uq (s:ByteArray):(Fq s).length≤1+s.data.toList.length:=by
 unfold Fq
 split
 ·simp
 ·omega
theorem Qr (s:ByteArray):1+s.data.toList.length≤(EX s).length:=by
 unfold EX
 rw [List.length_append]
 have:=EW s.size
 omega
theorem KP:KG.length=6∧S_.length=4∧MU.length=6∧JK.length=6∧JL.length=6∧WC.length=4∧Yf.length=4∧Qm.length=6:=by decide
theorem sD (x:DI):(Bv [S_,Vm x]).length≤16*(R3 x).length:=by
 have h1:=Uq x.p
 have h2:=Uq x.r
 have h3:=Qr x.p
 have h4:=Qr x.r
 rw [WG]
 unfold Vm R3
 simp only [List.length_append,List.length_cons,List.length_nil,KP.2.1]
 omega
theorem mP {t:Int} (h:0≤t):(Bv [MU,Lib.itoa t]).length≤16*(enc t.toNat).length:=by
 have h1:=KO h
 have h2:=EW t.toNat
 rw [WG]
 simp only [List.length_append,List.length_cons,List.length_nil,KP.2.2.1]
 omega
theorem mQ (x:EJ):(JH x).length≤16*(Jj x).length:=by
 have h1:=WQ (BK x)
 have h2:=EW (folded (BK x))
 have h3:(if x.m then TT else KZ).length≤5:=by cases x.m<;>decide
 unfold JH Jj
 rw [aG]
 simp only [List.length_append,List.length_cons,List.length_nil,KP.2.2.2.1]
 omega
theorem sF:EB.all (fun r=>decide (r.word.data.toList.length≤12))=true:=by kernel_rfl
theorem sG {x:DL} (h:Ai x=0) (hl: ∀n∈x.l,Rd.ER n):(Bv [[32,32]++R4 x]).length≤16*(Iw x).length:=by
 obtain⟨r,hr,hm,hop⟩:=XM h
 have hw:=of_decide_eq_true (List.all_eq_true.1 sF r hm)
 have JE:=h
 unfold Ai at JE
 rw [hr] at JE
 simp only at JE
 have hb:(Aw r).1≤x.a∧x.a≤(Aw r).2:=by
  refine Decidable.byContradiction fun hn=> ?_
  rw [if_pos hn] at JE;cases JE
 rw [if_neg (fun hn=>hn hb)] at JE
 rw [WE]
 unfold R4 Iw
 have e1:MS x.op.toNat=r.word.data.toList:=by unfold MS;rw [hr]
 have e2:Jk x.op.toNat=r.takes:=by unfold Jk;rw [hr]
 rw [e1,e2,hr]
 simp only [List.length_append,List.length_cons,List.length_nil]
 by_cases h3:r.takes=3
 ·rw [if_neg (fun h=>h.2 h3),if_neg (by omega),if_neg (by omega),if_pos h3,List.length_append]
  rw [if_neg (fun hn=>hn h3)] at JE
  have hq: ¬(x.l.length<1∨16<x.l.length):=fun hn=>by rw [if_pos hn] at JE;cases JE
  have hq2:x.l.all (fun n=>decide (0≤n∧n≤2147483647))=true:=by
   refine Decidable.byContradiction fun hn=> ?_
   rw [if_neg hq,if_neg hn] at JE;cases JE
  have hf:=I8 (f:=fun n:Int=>32::Lib.itoa n) (g:=fun n:Int=>enc n.toNat) (l:=x.l) (fun n hn=>by
   have h1:=KO (of_decide_eq_true (List.all_eq_true.1 hq2 n hn)).1
   have h2:=EW n.toNat
   rw [List.length_cons];omega)
  have hp:=EW x.l.length
  simp only [List.length_nil]
  omega
 ·rw [if_pos h3] at JE
  have hl0:x.l= []:=by
   refine List.eq_nil_of_length_eq_zero ?_
   refine Decidable.byContradiction fun hn=> ?_
   rw [if_pos (by omega)] at JE;cases JE
  rw [hl0,List.flatMap_nil,List.length_nil]
  by_cases h0:r.takes=0
  ·rw [if_neg (fun h=>h.1 h0),if_pos h0]
   simp only [List.length_nil]
   omega
  ·rw [if_pos ⟨h0,h3⟩,if_neg h0]
   by_cases h8:r.takes=8
   ·rw [if_pos h8,List.length_cons]
    have h1:=WQ x.a
    have h2:=EW (folded x.a)
    omega
   ·rw [if_neg h8,if_neg h3,List.length_cons]
    have ha:0≤x.a:=by
     have:=hb.1
     unfold Aw at this
     split at this
     ·exact this
     ·split at this
      ·exact this
      ·first | exact this | (rw [if_neg h8] at this;exact this)
    have h1:=KO ha
    have h2:=EW x.a.toNat
    omega
theorem xw {f:GR} (ht:0≤f.t) (hc: ∀x∈f.code,Ai x=0∧Rd.ER x.a∧ ∀n∈x.l,Rd.ER n):(Zw f).length≤16*(XF f).length:=by
 have h1:=KO ht
 have h2:=EW f.t.toNat
 have h3:=Uq f.loc
 have h4:=Qr f.loc
 have h5:=I8 (f:=fun x=>Bv [[32,32]++R4 x]) (g:=Iw) (l:=f.code) (fun x hx=>sG (hc x hx).1 (hc x hx).2.2)
 unfold Zw XF
 rw [List.length_append,MV]
 simp only [List.length_append,List.length_cons,List.length_nil,KP.2.2.2.2.2.1] at*
 omega
theorem dx: ∀b:List UInt8,(KJ b).length=2*b.length
 | []=>rfl
 | c::b=>by
  have:=dx b
  show(OP (c.toNat/16)::OP (c.toNat%16)::KJ b).length=_
  simp only [List.length_cons]
  omega
theorem mR {d:EU} (h:0≤d.at_):(R5 d).length≤16*(M5 d).length:=by
 have h1:=KO h
 have h2:=EW d.at_.toNat
 have h3:=EW d.b.length
 have h4:=dx d.b
 unfold R5 M5
 rw [MV]
 simp only [List.length_append,List.length_cons,List.length_nil,KP.2.2.2.2.2.2.1]
 omega
theorem sH {x:Jy} (h:0≤x.f):(R6 x).length≤16*(Pp x).length:=by
 have h1:=KO h
 have h2:=EW x.f.toNat
 have h3:=Qr x.n
 unfold R6 Pp
 rw [MV]
 simp only [List.length_append,List.length_cons,List.length_nil,KP.2.2.2.2.2.2.2]
 omega
structure Pos0 (m:AP):Prop where
 hosts: ∀t∈m.hosts,0≤t
 first:0≤m.first
 most:0≤m.most
 fns: ∀f∈m.fns,0≤f.t
 dat: ∀d∈m.dat,0≤d.at_
 AU: ∀x∈m.AU,0≤x.f
theorem x9 {m:AP} (hE:GU m=0):Pos0 m∧(LU m).length≤65536:=by
 obtain⟨hp,hz⟩:=AQ hE
 refine⟨?_,of_decide_eq_true (BX (by decide) hz)⟩
 obtain⟨hh,hb⟩:=AQ hp
 obtain⟨_,hh⟩:=AQ hh
 obtain⟨hho,hh⟩:=AQ hh
 obtain⟨_,hpg⟩:=AQ hh
 obtain⟨hf,hb⟩:=AQ hb
 obtain⟨hd,he⟩:=AQ hb
 have hPg:=of_decide_eq_true (BX (by decide) hpg)
 refine⟨fun t ht=> ?_,by omega,by omega,fun f hf'=> ?_,fun d hd'=> ?_,fun x hx=> ?_⟩
 ·obtain⟨k,hk,hx⟩:=at_mem ht
  have h1:=Ca (AQ hho).2 k hk
  unfold Ji at h1
  rw [hx] at h1
  exact(of_decide_eq_true (BX (by decide) h1)).1
 ·obtain⟨k,hk,hx⟩:=at_mem hf'
  have h1:=Ca (AQ hf).2 k hk
  unfold Ye at h1
  rw [hx] at h1
  exact(of_decide_eq_true (BX (by decide) (AQ h1).1)).1
 ·obtain⟨k,hk,hx⟩:=at_mem hd'
  have h1:=Ca (AQ hd).2 k hk
  unfold Nh at h1
  rw [hx] at h1
  exact(of_decide_eq_true (BX (by decide) (AQ h1).1)).1
 ·obtain⟨k,hk,hx'⟩:=at_mem hx
  have h1:=Ca (AQ he).2 k hk
  unfold Po at h1
  rw [hx'] at h1
  exact(of_decide_eq_true (BX (by decide) (AQ (AQ h1).2).2)).1
theorem WR {m:AP} (hE:GU m=0) (hN:Kc m):(Gb m).length≤1048576:=by
 have hF:=XL hE hN
 obtain⟨hP,hL⟩:=x9 hE
 have h1:=I8 (f:=fun x=>Bv [S_,Vm x]) (g:=R3) (l:=m.types) (fun x _=>sD x)
 have h2:=I8 (f:=fun t=>Bv [MU,Lib.itoa t]) (g:=fun t:Int=>enc t.toNat) (l:=m.hosts) (fun t ht=>mP (hP.hosts t ht))
 have h3:=I8 (f:=JH) (g:=Jj) (l:=m.globs) (fun x _=>mQ x)
 have h4:=I8 (f:=Zw) (g:=XF) (l:=m.fns) (fun f hf=>xw (hP.fns f hf) (hF.fns f hf).2.2)
 have h5:=I8 (f:=R5) (g:=M5) (l:=m.dat) (fun d hd=>mR (hP.dat d hd))
 have h6:=I8 (f:=R6) (g:=Pp) (l:=m.AU) (fun x hx=>sH (hP.AU x hx))
 have h7:=KO hP.first
 have h8:=KO hP.most
 have h9:=EW m.first.toNat
 have h10:=EW m.most.toNat
 unfold Gb dM dN
 unfold LU Li Oe Ob Oc Od KY at hL
 rw [WE,MV]
 simp only [List.length_append,List.length_cons,List.length_nil,KP.1,KP.2.2.2.2.1] at*
 omega
theorem TI {m:AP} (hE:GU m=0) (hN:Kc m):Ew (CK (Gb m))=(m,0,0):=Y0 hE hN (WR hE hN)
def kM:AP:=⟨[⟨⟨#[119]⟩,⟨#[]⟩⟩],[],[],1,2,[⟨0,⟨#[108]⟩,[⟨9,0,[0,1]⟩,⟨6,0,[]⟩]⟩],[],[]⟩
def kT:ByteArray:=⟨#[102,108,97,103,111,110,10,116,121,112,101,32,119,32,45,62,32,45,10,109,101,109,111,114,121,32,49,32,50,10,102,117,110,99,32,48,32,108,10,32,32,98,114,116,97,98,108,101,32,48,32,49,10,32,32,101,110,100,10]⟩
def kB:ByteArray:=⟨#[102,108,97,103,111,110,10,101,120,116,101,114,110]⟩
theorem yA:Kc kM:=⟨by decide,by decide,by decide,by decide,(by decide: ∀f∈kM.fns,f.t<9223372036854775808∧ ∀x∈f.code,(-9223372036854775808≤x.a∧x.a<9223372036854775808)∧ ∀n∈x.l,n<9223372036854775808),by decide,by decide⟩
theorem yB:GU kM=0:=by decide+kernel
theorem AAr:CK (Gb kM)=kT:=by decide+kernel
theorem mU:Ew kT=(kM,0,0):=by rw [←AAr];exact TI yB yA
theorem mV:Ew kB=(Br,22,2):=by kernel_rfl
end Go.Proofs.YtejbcledkhioeaaGreatDoor
