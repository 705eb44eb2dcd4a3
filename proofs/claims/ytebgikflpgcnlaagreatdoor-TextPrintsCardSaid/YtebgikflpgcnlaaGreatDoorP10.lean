/- Part 10 of the proof: PrsS PrsL BlkP BlkL Rof0 Rof2 Rof1 RofD R6A Ld Ldn -/
import Derived.Deep.WholeRow
import Derived.Test.YtebgikflpgcnlaaGreatDoorP09
namespace Go.Proofs.YtebgikflpgcnlaaGreatDoor
set_option linter.unusedVariables false
set_option linter.unusedSimpArgs false
set_option maxRecDepth 100000
set_option maxHeartbeats 4000000
open Go.RowKit Tryz
def Ui (l:List (List UInt8)):Prop:=(∀w∈l,RY w)∧ ∃w ws,l=w::ws∧(w.head?==some 59)=false
theorem Ui.skip {l:List (List UInt8)} (h:Ui l):JQ (l.map BA)=false:=by
 obtain⟨_,w,ws,rfl,h⟩:=h
 show((BA w).data.toList.head?==some 59)=false
 rw [LG]
 exact h
theorem TD {l:List ByteArray} {t:List (List ByteArray)} {r r':Nb} (hs:JQ l=false) (h:Ai r l=some r'):Ub (l::t) r=Ub t r':=by
 show(if JQ l=true then _ else(Ai r l).bind (Ub t))=_
 rw [if_neg (by rw [hs];exact Bool.false_ne_true),h]
 rfl
theorem RF {α:Type} (tok:α→List ByteArray) (p:Nat) (put:AQ→α→AQ) (ok:α→Prop) (hp:BD p p=true)
 (AAy: ∀x,ok x→JQ (tok x)=false) (hstep: ∀m st x,ok x→BD p st=true→Ai ⟨m,st⟩ (tok x)=some ⟨put m x,p⟩):
 ∀(l:List α) (m:AQ) (st:Nat),(∀x∈l,ok x)→BD p st=true→Ub (l.map tok) ⟨m,st⟩=some ⟨l.foldl put m,if l= [] then st else p⟩
 | [],m,st,_,_=>rfl
 | x::l,m,st,h,hst=>by
  rw [List.map_cons,TD (AAy x (h x (List.mem_cons_self ..))) (hstep m st x (h x (List.mem_cons_self ..)) hst),
   RF tok p put ok hp AAy hstep l _ p (fun y hy=>h y (List.mem_cons_of_mem _ hy)) hp,List.foldl_cons,if_neg (List.cons_ne_nil _ _)]
  by_cases hl:l= []
  ·rw [if_pos hl]
  ·rw [if_neg hl]
theorem JR {m:AQ} {st p:Nat} {w:ByteArray} {ws:List ByteArray} {m':AQ} (hk:EX w=p) (h0:p≠0) (ho:BD p st=true) (hr:Ar p m ws=some m'):Ai ⟨m,st⟩ (w::ws)=some ⟨m',p⟩:=by
 show(if EX w=0 then _ else if BD (EX w) st=true then(Ar (EX w) m ws).map (fun m'=>(⟨m',EX w⟩:Nb)) else none)=_
 rw [hk,if_neg h0,if_pos ho,hr]
 rfl
theorem rV:EX (BA Mi)=1:=by kernel_rfl
theorem ABh:EX (BA Sn)=2:=by kernel_rfl
theorem rW:EX (BA Nj)=3:=by kernel_rfl
theorem rX:EX (BA Ji)=4:=by kernel_rfl
theorem rY:EX (BA Ik)=5:=by kernel_rfl
theorem ABi:EX (BA QY)=6:=by kernel_rfl
theorem ABj:EX (BA Yq)=7:=by kernel_rfl
theorem rZ:EX (BA RB)=8:=by kernel_rfl
theorem XD (s:ByteArray):BA (EW s)=DI s:=by
 unfold EW DI
 by_cases h:s.size=0
 ·have h0:s.data.toList= []:=List.eq_nil_of_length_eq_zero (by rw [←Lib.size_eq];exact h)
  have:s=none_:=rF (by show s.data.toList=_;rw [h0];rfl)
  rw [if_pos h,if_pos this];rfl
 ·have:s≠none_:=fun e=>h (by rw [e];rfl)
  rw [if_neg h,if_neg this,O6]
theorem yK {m:AQ} {st:Nat} {x:Dl} (h:aO x.p x.r=true) (ho:BD 2 st=true):Ai ⟨m,st⟩ ((Oi x).map BA)=some ⟨{m with types:=m.types++ [x]},2⟩:=by
 refine JR ABh (by decide) ho ?_
 have hj:JO ([EW x.p,[45,62],EW x.r].map BA)=DI x.p++arrow++DI x.r:=by
  apply rF
  rw [Wy,Wy,←XD,←XD]
  unfold JO bl
  simp only [List.map_cons,List.map_nil,LG]
  simp [Lib.join,List.intercalate,arrow]
 have hw:MR x.p x.r=(JO ([EW x.p,[45,62],EW x.r].map BA),0):=by rw [hj];unfold MR;rw [if_pos h]
 have hr:=lg hw
 show(if(Gy (JO ([EW x.p,[45,62],EW x.r].map BA))).2.2=0 then _ else _)=_
 rw [hr,if_pos rfl]
theorem yL {m:AQ} {st:Nat} {t:Int} (h:Rd.Ej t) (ho:BD 3 st=true):Ai ⟨m,st⟩ ((QB t).map BA)=some ⟨{m with hosts:=m.hosts++ [t]},3⟩:=by
 refine JR rW (by decide) ho ?_
 show(CK (BA (Lib.itoa t))).map _=_
 rw [Jp h]
 rfl
theorem gM {x:Ep} (h1:Qh x.l.toNat=true) (h2:JL x.v x.l.toNat=true) (h3:x.v<18446744073709551616):MS (BA [x.l]) (BA (if x.m then UZ else Ma)) (Au x)=some x:=by
 obtain⟨l,b,v⟩:=x
 have hb:(BA (if b then UZ else Ma)=Qd∨BA (if b then UZ else Ma)=Kn)∧decide (BA (if b then UZ else Ma)=Qd)=b:=by
  cases b
  ·exact⟨Or.inr rfl,by decide⟩
  ·exact⟨Or.inl rfl,by decide⟩
 unfold Qh at h1
 simp only [Bool.or_eq_true,beq_iff_eq] at h1
 unfold MS
 simp only at hb h2 h3⊢
 rcases h1 with h1 | h1
 ·have hl:l=119:=by rw [←UInt8.toNat_inj];exact h1
  subst hl
  have hv:v<4294967296:=by unfold JL at h2;simpa using h2
  have e1:BA [(119:UInt8)]=wW:=rfl
  have hs:Au ⟨119,b,v⟩=if 2147483648≤v then(v:Int)-4294967296 else v:=by
   unfold Au
   by_cases h:2147483648≤v
   ·rw [if_pos ⟨rfl,h⟩,if_pos h]
   ·rw [if_neg (by simp only;omega),if_neg h,if_pos (by simp only;omega)]
  rw [e1,if_pos ⟨Or.inl rfl,hb.1⟩,if_pos rfl,hb.2,hs,if_pos (by split<;>omega)]
  congr 2
  split<;>omega
 ·have hl:l=108:=by rw [←UInt8.toNat_inj];exact h1
  subst hl
  have e1:BA [(108:UInt8)]=lW:=rfl
  have hne:lW≠wW:=by decide
  have hs:Au ⟨108,b,v⟩=if v<9223372036854775808 then(v:Int) else(v:Int)-18446744073709551616:=by
   unfold Au
   rw [if_neg (by simp only;intro h;exact absurd h.1 (by decide))]
  rw [e1,if_pos ⟨Or.inr rfl,hb.1⟩,if_neg hne,hb.2,hs]
  congr 2
  split<;>omega
theorem yM {m:AQ} {st:Nat} {x:Ep} (h1:Qh x.l.toNat=true) (h2:JL x.v x.l.toNat=true) (h3:x.v<18446744073709551616) (ho:BD 4 st=true):
 Ai ⟨m,st⟩ ((QC x).map BA)=some ⟨{m with globs:=m.globs++ [x]},4⟩:=by
 refine JR rX (by decide) ho ?_
 have hs:=OC h3 h2
 show(CK (BA (Lib.itoa (Au x)))).bind _=_
 rw [Jp hs]
 show(MS (BA [x.l]) (BA (if x.m then UZ else Ma)) (Au x)).map _=_
 rw [gM h1 h2 h3]
 rfl
theorem ABk {m:AQ} {st:Nat} {a b:Int} (ha:Rd.Ej a) (hb:Rd.Ej b) (ho:BD 5 st=true):
 Ai ⟨m,st⟩ ([Ik,Lib.itoa a,Lib.itoa b].map BA)=some ⟨{m with first:=a,most:=b},5⟩:=by
 refine JR rY (by decide) ho ?_
 show(CK (BA (Lib.itoa a))).bind (fun x=>(CK (BA (Lib.itoa b))).map _)=_
 rw [Jp ha,Jp hb]
 rfl
theorem ru {s:ByteArray} (h:s.data.toList.all Rk=true):Ua (BA (EW s))=s:=by
 rw [XD]
 unfold Ua DI
 by_cases hs:s=none_
 ·rw [if_pos hs,if_pos rfl,hs]
 ·rw [if_neg hs,if_neg]
  rintro rfl
  exact absurd h (by decide)
theorem ADt {m:AQ} {st:Nat} {f:FL} (h:f.loc.data.toList.all Rk=true) (ht:Rd.Ej f.t) (ho:BD 6 st=true):
 Ai ⟨m,st⟩ ((rR f).map BA)=some ⟨{m with fns:=m.fns++ [⟨f.t,f.loc,[]⟩]},6⟩:=by
 refine JR ABi (by decide) ho ?_
 show(CK (BA (Lib.itoa f.t))).map _=_
 rw [Jp ht]
 show some ({m with fns:=m.fns++ [(⟨f.t,Ua (BA (EW f.loc)),[]⟩:FL)]}:AQ)=_
 rw [ru h]
theorem ABl {m:AQ} {st:Nat} {d:EZ} (h:Rd.Ej d.at_) (ho:BD 7 st=true):Ai ⟨m,st⟩ ((R3 d).map BA)=some ⟨{m with dat:=m.dat++ [d]},7⟩:=by
 refine JR ABj (by decide) ho ?_
 show(CK (BA (Lib.itoa d.at_))).bind (fun n=>(K3 (BA (KX d.b)).data.toList).map _)=_
 rw [Jp h,LG,bT]
 rfl
theorem ABm {m:AQ} {st:Nat} {x:LA} (h:Rd.Ej x.f) (ho:BD 8 st=true):Ai ⟨m,st⟩ ((Ug x).map BA)=some ⟨{m with AO:=m.AO++ [x]},8⟩:=by
 refine JR rZ (by decide) ho ?_
 show(CK (BA (Lib.itoa x.f))).map _=_
 rw [Jp h,O6]
 rfl
theorem ABn {m:AQ} {x:Av} (h:Aa x=0) (ha:Rd.Ej x.a) (hl: ∀n∈x.l,Rd.Ej n):Ai ⟨m,6⟩ ((O7 x).map BA)=some ⟨{m with fns:=Im m.fns x},6⟩:=by
 obtain⟨r,hr,hm,hop⟩:=WQ h
 obtain⟨hk,_,_⟩:=XC hm
 have hw:Na x.op.toNat=r.word.data.toList:=by unfold Na;rw [hr]
 have ht:KS x.op.toNat=r.takes:=by unfold KS;rw [hr]
 have hf:=rU r hm
 have ho:UInt8.ofNat r.op=x.op:=by rw [hop];simp
 have K4:=h
 unfold Aa at K4
 rw [hr] at K4
 simp only at K4
 have hb:(Ah r).1≤x.a∧x.a≤(Ah r).2:=by
  refine Decidable.byContradiction fun hn=> ?_
  rw [if_pos hn] at K4;cases K4
 rw [if_neg (fun hn=>hn hb)] at K4
 have hi:Qe r (((if r.takes≠0∧r.takes≠3 then [Lib.itoa x.a] else [])++x.l.map Lib.itoa).map BA)=some x:=by
  obtain⟨op,a,l⟩:=x
  simp only at*
  unfold Qe
  by_cases h0:r.takes=0
  ·have hb0:Ah r=(0,0):=by
    unfold Ah
    rw [h0];rfl
   rw [hb0] at hb
   have:a=0:=by simp only at hb;omega
   subst this
   rw [if_pos (by omega)] at K4
   have:l= []:=by
    refine List.eq_nil_of_length_eq_zero ?_
    refine Decidable.byContradiction fun hn=> ?_
    rw [if_pos (by omega)] at K4;cases K4
   subst this
   rw [if_pos h0,if_neg (by omega),ho]
   rfl
  ·rw [if_neg h0]
   by_cases h3:r.takes=3
   ·have hb0:Ah r=(0,0):=by
     unfold Ah
     rw [h3];rfl
    rw [hb0] at hb
    have:a=0:=by simp only at hb;omega
    subst this
    rw [if_pos h3,if_neg (by omega),List.nil_append,bV hl,ho]
    rfl
   ·rw [if_pos h3] at K4
    have:l= []:=by
     refine List.eq_nil_of_length_eq_zero ?_
     refine Decidable.byContradiction fun hn=> ?_
     rw [if_pos (by omega)] at K4;cases K4
    subst this
    rw [if_neg h3,if_pos ⟨h0,h3⟩]
    show(CK (BA (Lib.itoa a))).map _=_
    rw [Jp ha,ho]
    rfl
 unfold O7
 rw [hw,ht,List.map_cons,O6]
 show(if EX r.word=0 then(if(6:Nat)=6 then(N_ r.word).bind fun o=>(Qe o _).map _ else none) else _)=_
 rw [if_pos hk,if_pos rfl,hf]
 show(Qe r _).map _=_
 rw [hi]
 rfl
theorem bW:Ui [Mi]:=⟨fun w hw=>by rw [List.mem_singleton] at hw;subst hw;exact Md (by decide),_,_,rfl,by decide⟩
theorem Ol {w:List UInt8} {ws:List (List UInt8)} (h1:RY w) (h2:(w.head?==some 59)=false) (h: ∀x∈ws,RY x):Ui (w::ws):=
 ⟨fun x hx=>(List.mem_cons.1 hx).elim (fun e=>e▸h1) (h x),w,ws,rfl,h2⟩
theorem all1 {a:List UInt8} (ha:RY a): ∀x∈ [a],RY x:=fun x hx=>by rw [List.mem_singleton] at hx;exact hx▸ha
theorem all2 {a:List UInt8} {l:List (List UInt8)} (ha:RY a) (hl: ∀x∈l,RY x): ∀x∈a::l,RY x:=fun x hx=>(List.mem_cons.1 hx).elim (fun e=>e▸ha) (hl x)
theorem jk {x:Dl} (h1:x.p.data.toList.all Rk=true) (h2:x.r.data.toList.all Rk=true):Ui (Oi x):=
 Ol (Md (by decide)) (by decide) (all2 (Qt h1) (all2 (Md (by decide)) (all1 (Qt h2))))
theorem jl (t:Int):Ui (QB t):=Ol (Md (by decide)) (by decide) (all1 (LP t))
theorem jm {x:Ep} (h:Qh x.l.toNat=true):Ui (QC x):=by
 refine Ol (Md (by decide)) (by decide) (all2 ⟨List.cons_ne_nil _ _,fun c hc=> ?_⟩ (all2 ?_ (all1 (LP _))))
 ·rw [List.mem_singleton] at hc
  subst hc
  unfold Qh at h
  simp at h
  omega
 ·cases x.m
  ·exact Md (by decide)
  ·exact Md (by decide)
theorem r9 (a b:Int):Ui [Ik,Lib.itoa a,Lib.itoa b]:=Ol (Md (by decide)) (by decide) (all2 (LP a) (all1 (LP b)))
theorem AAz {f:FL} (h:f.loc.data.toList.all Rk=true):Ui (rR f):=Ol (Md (by decide)) (by decide) (all2 (LP _) (all1 (Qt h)))
theorem r_ {d:EZ} (h:d.b≠ []):Ui (R3 d):=Ol (Md (by decide)) (by decide) (all2 (LP _) (all1 (yH h)))
theorem sD {x:LA} (h:x.n.data.toList≠ []∧ ∀c∈x.n.data.toList,33≤c.toNat∧c.toNat≤126):Ui (Ug x):=Ol (Md (by decide)) (by decide) (all2 h (all1 (LP _)))
theorem sF {x:Av} (h:Aa x=0):Ui (O7 x):=by
 obtain⟨r,hr,hm,hop⟩:=WQ h
 obtain⟨_,h1,h2⟩:=XC hm
 have hw:Na x.op.toNat=r.word.data.toList:=by unfold Na;rw [hr]
 unfold O7
 rw [hw]
 refine Ol h1 h2 fun w hw=> ?_
 rcases List.mem_append.1 hw with hw | hw
 ·split at hw
  ·rw [List.mem_singleton] at hw;subst hw;exact LP _
  ·cases hw
 ·obtain⟨n,_,rfl⟩:=List.mem_map.1 hw
  exact LP n
theorem sG {m:AQ} (h:yJ m): ∀p∈toks m,Ui p.2:=by
 intro p hp
 unfold toks WL WM at hp
 simp only [List.cons_append,List.mem_cons,List.mem_append,List.mem_map,List.mem_flatMap,List.not_mem_nil,or_false] at hp
 rcases hp with rfl | (⟨x,hx,rfl⟩ | ⟨x,hx,rfl⟩ | ⟨x,hx,rfl⟩ | rfl) | ⟨f,hf,hp⟩ | ⟨x,hx,rfl⟩ | ⟨x,hx,rfl⟩
 ·exact bW
 ·exact jk (h.types x hx).2.1 (h.types x hx).2.2
 ·exact jl x
 ·exact jm (h.globs x hx).1
 ·exact r9 _ _
 ·unfold Uh at hp
  rcases List.mem_cons.1 hp with rfl | hp
  ·exact AAz (h.fns f hf).1
  ·obtain⟨x,hx,rfl⟩:=List.mem_map.1 hp
   exact sF ((h.fns f hf).2.2 x hx).1
 ·exact r_ (h.dat x hx).1
 ·exact sD ⟨(h.AO x hx).1,(h.AO x hx).2.1⟩
theorem XE: ∀(l:List Dl) (m:AQ),l.foldl (fun m x=> {m with types:=m.types++ [x]}) m= {m with types:=m.types++l}
 | [],m=>by simp
 | x::l,m=>by rw [List.foldl_cons,XE l];simp
theorem XF: ∀(l:List Int) (m:AQ),l.foldl (fun m x=> {m with hosts:=m.hosts++ [x]}) m= {m with hosts:=m.hosts++l}
 | [],m=>by simp
 | x::l,m=>by rw [List.foldl_cons,XF l];simp
theorem XG: ∀(l:List Ep) (m:AQ),l.foldl (fun m x=> {m with globs:=m.globs++ [x]}) m= {m with globs:=m.globs++l}
 | [],m=>by simp
 | x::l,m=>by rw [List.foldl_cons,XG l];simp
theorem bX: ∀(l:List EZ) (m:AQ),l.foldl (fun m x=> {m with dat:=m.dat++ [x]}) m= {m with dat:=m.dat++l}
 | [],m=>by simp
 | x::l,m=>by rw [List.foldl_cons,bX l];simp
theorem Yy: ∀(l:List LA) (m:AQ),l.foldl (fun m x=> {m with AO:=m.AO++ [x]}) m= {m with AO:=m.AO++l}
 | [],m=>by simp
 | x::l,m=>by rw [List.foldl_cons,Yy l];simp
theorem sH (fns:List FL) (f:FL) (x:Av):Im (fns++ [f]) x=fns++ [{f with code:=f.code++ [x]}]:=by
 unfold Im
 rw [List.getLast?_concat,List.dropLast_concat]
theorem Yz: ∀(l:List Av) (m:AQ) (fns:List FL) (f:FL),m.fns=fns++ [f]→
 l.foldl (fun m x=> {m with fns:=Im m.fns x}) m= {m with fns:=fns++ [{f with code:=f.code++l}]}
 | [],m,fns,f,h=>by
  rw [List.foldl_nil,List.append_nil,←h]
 | x::l,m,fns,f,h=>by
  rw [List.foldl_cons,Yz l _ fns {f with code:=f.code++ [x]} (by rw [h,sH])]
  simp
theorem ABo {f:FL} (hl:f.loc.data.toList.all Rk=true) (ht:Rd.Ej f.t) (hc: ∀x∈f.code,Aa x=0∧Rd.Ej x.a∧ ∀n∈x.l,Rd.Ej n) (m:AQ) {st:Nat} (ho:BD 6 st=true):
 Ub ((Uh f).map (fun p=>p.2.map BA)) ⟨m,st⟩=some ⟨{m with fns:=m.fns++ [f]},6⟩:=by
 unfold Uh
 rw [List.map_cons,TD (AAz hl).skip (ADt hl ht ho),List.map_map]
 have hg: ∀(l:List Av) (m:AQ),(∀x∈l,Aa x=0∧Rd.Ej x.a∧ ∀n∈x.l,Rd.Ej n)→
  Ub (l.map fun x=>(O7 x).map BA) ⟨m,6⟩=some ⟨l.foldl (fun m x=> {m with fns:=Im m.fns x}) m,6⟩:=by
  intro l
  induction l with
  | nil=>intro m _;rfl
  | cons x l ih=>
   intro m h
   obtain⟨h1,h2,h3⟩:=h x (List.mem_cons_self ..)
   rw [List.map_cons,TD (sF h1).skip (ABn h1 h2 h3),ih _ (fun y hy=>h y (List.mem_cons_of_mem _ hy)),List.foldl_cons]
 have:=hg f.code {m with fns:=m.fns++ [⟨f.t,f.loc,[]⟩]} hc
 rw [show((fun p:Bool×List (List UInt8)=>p.2.map BA)∘fun x=>(true,O7 x))=fun x=>(O7 x).map BA from rfl,this]
 rw [Yz f.code _ m.fns ⟨f.t,f.loc,[]⟩ rfl]
 simp
theorem jo: ∀(l:List FL),(∀f∈l,f.loc.data.toList.all Rk=true∧Rd.Ej f.t∧ ∀x∈f.code,Aa x=0∧Rd.Ej x.a∧ ∀n∈x.l,Rd.Ej n)→ ∀(m:AQ) (st:Nat),BD 6 st=true→
 ∃st',(st'=st∨st'=6)∧Ub ((l.flatMap Uh).map (fun p=>p.2.map BA)) ⟨m,st⟩=some ⟨{m with fns:=m.fns++l},st'⟩
 | [],_,m,st,_=>⟨st,.inl rfl,by simp [Ub]⟩
 | f::l,h,m,st,ho=>by
  obtain⟨h1,h2,h3⟩:=h f (List.mem_cons_self ..)
  obtain⟨st',hs,he⟩:=jo l (fun g hg=>h g (List.mem_cons_of_mem _ hg)) {m with fns:=m.fns++ [f]} 6 (by decide)
  refine⟨st',.inr (hs.elim id id),?_⟩
  rw [List.flatMap_cons,List.map_append,Nk _ _ _ _ (ABo h1 h2 h3 m ho),he]
  simp
theorem sI {m:AQ} (h:yJ m): ∃st,5≤st∧Ub ((toks m).map (fun p=>p.2.map BA)) yD=some ⟨m,st⟩:=by
 obtain⟨ty,ho,gl,fi,mo,fn,da,ex⟩:=m
 obtain⟨hty,hgl,hfn,hda,hex,hho,hfi,hmo⟩:=h
 simp only at hty hgl hfn hda hex hho hfi hmo
 have e0:Ai yD [BA Mi]=some ⟨Dn,1⟩:=JR rV (by decide) (by decide) rfl
 have e2:=RF (fun x=>(Oi x).map BA) 2 (fun m x=> {m with types:=m.types++ [x]}) (fun x=>aO x.p x.r=true∧x.p.data.toList.all Rk=true∧x.r.data.toList.all Rk=true) (by decide)
  (fun x hx=>(jk hx.2.1 hx.2.2).skip) (fun m st x hx ho=>yK hx.1 ho) ty Dn 1 hty (by decide)
 rw [XE] at e2
 obtain⟨s2,hs2,e2⟩: ∃s,(s=1∨s=2)∧Ub (ty.map fun x=>(Oi x).map BA) ⟨Dn,1⟩=some ⟨{Dn with types:=Dn.types++ty},s⟩:=⟨_,by split;exact .inl rfl;exact .inr rfl,e2⟩
 have e3:=RF (fun x=>(QB x).map BA) 3 (fun m x=> {m with hosts:=m.hosts++ [x]}) Rd.Ej (by decide)
  (fun x hx=>(jl x).skip) (fun m st x hx ho=>yL hx ho) ho {Dn with types:=Dn.types++ty} s2 hho (by rcases hs2 with rfl | rfl<;>decide)
 rw [XF] at e3
 obtain⟨s3,hs3,e3⟩: ∃s,(s=1∨s=2∨s=3)∧Ub (ho.map fun x=>(QB x).map BA) ⟨{Dn with types:=Dn.types++ty},s2⟩=some ⟨{Dn with types:=Dn.types++ty,hosts:=Dn.hosts++ho},s⟩:=
  ⟨_,by rcases hs2 with rfl | rfl<;>(split<;>simp),e3⟩
 have e4:=RF (fun x=>(QC x).map BA) 4 (fun m x=> {m with globs:=m.globs++ [x]}) (fun x=>Qh x.l.toNat=true∧JL x.v x.l.toNat=true∧x.v<18446744073709551616) (by decide)
  (fun x hx=>(jm hx.1).skip) (fun m st x hx ho=>yM hx.1 hx.2.1 hx.2.2 ho) gl {Dn with types:=Dn.types++ty,hosts:=Dn.hosts++ho} s3 hgl (by rcases hs3 with rfl | rfl | rfl<;>decide)
 rw [XG] at e4
 obtain⟨s4,hs4,e4⟩: ∃s,(s=1∨s=2∨s=3∨s=4)∧Ub (gl.map fun x=>(QC x).map BA) ⟨{Dn with types:=Dn.types++ty,hosts:=Dn.hosts++ho},s3⟩=some ⟨{Dn with types:=Dn.types++ty,hosts:=Dn.hosts++ho,globs:=Dn.globs++gl},s⟩:=
  ⟨_,by rcases hs3 with rfl | rfl | rfl<;>(split<;>simp),e4⟩
 have e5:Ai ⟨{Dn with types:=Dn.types++ty,hosts:=Dn.hosts++ho,globs:=Dn.globs++gl},s4⟩ [BA Ik,BA (Lib.itoa fi),BA (Lib.itoa mo)]=some ⟨{Dn with types:=Dn.types++ty,hosts:=Dn.hosts++ho,globs:=Dn.globs++gl,first:=fi,most:=mo},5⟩:=
  ABk hfi hmo (by rcases hs4 with rfl | rfl | rfl | rfl<;>decide)
 obtain⟨s6,hs6,e6⟩:=jo fn hfn {Dn with types:=Dn.types++ty,hosts:=Dn.hosts++ho,globs:=Dn.globs++gl,first:=fi,most:=mo} 5 (by decide)
 have e7:=RF (fun x=>(R3 x).map BA) 7 (fun m x=> {m with dat:=m.dat++ [x]}) (fun d=>d.b≠ []∧Rd.Ej d.at_) (by decide)
  (fun x hx=>(r_ hx.1).skip) (fun m st x hx ho=>ABl hx.2 ho) da {Dn with types:=Dn.types++ty,hosts:=Dn.hosts++ho,globs:=Dn.globs++gl,first:=fi,most:=mo,fns:=Dn.fns++fn} s6 hda (by rcases hs6 with rfl | rfl<;>decide)
 rw [bX] at e7
 obtain⟨s7,hs7,e7⟩: ∃s,(s=5∨s=6∨s=7)∧Ub (da.map fun x=>(R3 x).map BA) ⟨{Dn with types:=Dn.types++ty,hosts:=Dn.hosts++ho,globs:=Dn.globs++gl,first:=fi,most:=mo,fns:=Dn.fns++fn},s6⟩=
  some ⟨{Dn with types:=Dn.types++ty,hosts:=Dn.hosts++ho,globs:=Dn.globs++gl,first:=fi,most:=mo,fns:=Dn.fns++fn,dat:=Dn.dat++da},s⟩:=
  ⟨_,by rcases hs6 with rfl | rfl<;>(split<;>simp),e7⟩
 have e8:=RF (fun x=>(Ug x).map BA) 8 (fun m x=> {m with AO:=m.AO++ [x]}) (fun x=>x.n.data.toList≠ []∧(∀c∈x.n.data.toList,33≤c.toNat∧c.toNat≤126)∧Rd.Ej x.f) (by decide)
  (fun x hx=>(sD ⟨hx.1,hx.2.1⟩).skip) (fun m st x hx ho=>ABm hx.2.2 ho) ex {Dn with types:=Dn.types++ty,hosts:=Dn.hosts++ho,globs:=Dn.globs++gl,first:=fi,most:=mo,fns:=Dn.fns++fn,dat:=Dn.dat++da} s7 hex (by rcases hs7 with rfl | rfl | rfl<;>decide)
 rw [Yy] at e8
 refine⟨if ex= [] then s7 else 8,by split<;>omega,?_⟩
 unfold toks WL WM rQ
 simp only [List.map_append,List.map_cons,List.map_nil,List.map_map,List.cons_append,List.append_assoc]
 rw [TD (show JQ [BA Mi]=false from bW.skip) e0]
 rw [show((fun p:Bool×List (List UInt8)=>p.2.map BA)∘fun x=>(false,Oi x))=fun x=>(Oi x).map BA from rfl,Nk _ _ _ _ e2]
 rw [show((fun p:Bool×List (List UInt8)=>p.2.map BA)∘fun x=>(false,QB x))=fun x=>(QB x).map BA from rfl,Nk _ _ _ _ e3]
 rw [show((fun p:Bool×List (List UInt8)=>p.2.map BA)∘fun x=>(false,QC x))=fun x=>(QC x).map BA from rfl,Nk _ _ _ _ e4]
 rw [TD (show JQ [BA Ik,BA (Lib.itoa fi),BA (Lib.itoa mo)]=false from(r9 fi mo).skip) e5,List.nil_append,Nk _ _ _ _ e6]
 rw [show((fun p:Bool×List (List UInt8)=>p.2.map BA)∘fun x=>(false,R3 x))=fun x=>(R3 x).map BA from rfl,Nk _ _ _ _ e7]
 rw [show((fun p:Bool×List (List UInt8)=>p.2.map BA)∘fun x=>(false,Ug x))=fun x=>(Ug x).map BA from rfl,e8]
 rfl
theorem bY {m:AQ} (hE:FM m=0) (hN:LM m) (hs:(Il m).length≤1048576):JC (BA (Il m))=(m,0,0):=by
 have hF:=WO hE hN
 obtain⟨st,hst,hg⟩:=sI hF
 have hok:=sG hF
 have hln: ∀p∈toks m,KU (yI p) p.2∧(∀c∈yI p,c.toNat<128∧c≠10):=by
  intro p hp
  obtain⟨hw,_⟩:=hok p hp
  have h2: ∀c∈(if p.1=true then [32,32] else([]:List UInt8)),c=32:=by
   intro c hc
   split at hc
   ·simpa using hc
   ·cases hc
  constructor
  ·exact bD (fun c hc=>by rw [h2 c hc];decide) (VD fun w hw'=>(hw w hw').word)
  ·intro c hc
   have hj: ∀l:List (List UInt8),(∀w∈l,RY w)→ ∀c∈Lib.join l [32],c=32∨(33≤c.toNat∧c.toNat≤126):=by
    intro l hl c hc
    cases l with
    | nil=>cases hc
    | cons a l=>
     rw [Lib.join_cons] at hc
     rcases List.mem_append.1 hc with hc | hc
     ·exact .inr ((hl a (List.mem_cons_self ..)).2 c hc)
     ·unfold Lib.joinTail at hc
      obtain⟨w,hw,hc⟩:=List.mem_flatten.1 hc
      obtain⟨v,hv,rfl⟩:=List.mem_map.1 hw
      rcases List.mem_append.1 hc with hc | hc
      ·exact .inl (by simpa using hc)
      ·exact .inr ((hl v (List.mem_cons_of_mem _ hv)).2 c hc)
   have:c=32∨(33≤c.toNat∧c.toNat≤126):=(List.mem_append.1 hc).elim (fun h=> .inl (h2 c h)) (hj p.2 hw c)
   rcases this with rfl | h
   ·exact⟨by decide,by decide⟩
   ·exact⟨by omega,fun e=>by subst e;exact absurd h.1 (by decide)⟩
 have hp:Il m=((toks m).map yI).flatMap (· ++ [10]):=by rw [bU,List.flatMap_map]
 refine lV (st:=st) (by show(List.toArray _).size≤_;rw [List.size_toArray];exact hs) ?_ hst hE
 rw [hp,bF _ (fun l hl c hc=>by obtain⟨p,hp,rfl⟩:=List.mem_map.1 hl;exact((hln p hp).2 c hc).2),List.map_append,List.map_append,List.map_map,List.map_map]
 have e1:(toks m).map (EP∘BA∘yI)=(toks m).map (fun p=>p.2.map BA):=
  List.map_congr_left fun p hp=>rE (fun c hc=>((hln p hp).2 c hc).1) (hln p hp).1
 have e2:EP (BA [])= []:=by kernel_rfl
 rw [show(EP∘BA)∘yI=EP∘BA∘yI from rfl,e1,Nk _ _ _ _ hg]
 show Ub [EP (BA [])] _=_
 rw [e2]
 rfl
theorem WR: ∀(k u:Nat),u<10^(k+1)→(Lib.decDigits u).length≤k+1
 | 0,u,h=>by rw [Lib.decDigits,dif_pos (by omega)];simp
 | k+1,u,h=>by
  by_cases h10:u<10
  ·rw [Lib.decDigits,dif_pos h10];simp
  ·rw [Lib.decDigits,dif_neg h10,List.length_append]
   have:=WR k (u/10) (by rw [Nat.pow_succ] at h;omega)
   simp
   omega
theorem ABp (u:Nat):u<128^(enc u).length:=by
 induction u using Nat.strongRecOn with
 | _ u ih=>
  by_cases h:u<128
  ·rw [Kt u h];simpa using h
  ·rw [PK u h,List.length_cons,Nat.pow_succ]
   have:=ih (u/128) (by omega)
   omega
theorem Ze {u v:Nat} (h:u≤v):(Lib.decDigits u).length≤3*(enc v).length:=by
 have h1:=ABp v
 have h0:=Dv v
 have h2:128^(enc v).length≤(10^3)^(enc v).length:=Nat.pow_le_pow_left (by decide) _
 rw [←Nat.pow_mul] at h2
 have h3:=WR (3*(enc v).length-1) u (by rw [show 3*(enc v).length-1+1=3*(enc v).length by omega];omega)
 omega
theorem M0 {n:Int} (h:0≤n):(Lib.itoa n).length≤3*(enc n.toNat).length:=by
 unfold Lib.itoa
 rw [if_neg (by omega)]
 exact Ze (Nat.le_refl _)
theorem Y0 (n:Int):(Lib.itoa n).length≤1+3*(enc (folded n)).length:=by
 unfold Lib.itoa
 split
 ·rename_i h
  have:=Ze (u:=n.natAbs) (v:=folded n) (by unfold folded;rw [if_pos h];omega)
  rw [List.length_cons];omega
 ·rename_i h
  have:=Ze (u:=n.toNat) (v:=folded n) (by unfold folded;rw [if_neg h];omega)
  omega
theorem Jq {α:Type} {f g:α→List UInt8}: ∀ {l:List α},(∀x∈l,(f x).length≤16*(g x).length)→(l.flatMap f).length≤16*(l.flatMap g).length
 | [],_=>Nat.zero_le _
 | x::l,h=>by
  have h1:=h x (List.mem_cons_self ..)
  have h2:=Jq (fun y hy=>h y (List.mem_cons_of_mem _ hy)) (l:=l)
  rw [List.flatMap_cons,List.flatMap_cons,List.length_append,List.length_append]
  omega
theorem XH (s:ByteArray):(EW s).length≤1+s.data.toList.length:=by
 unfold EW
 split
 ·simp
 ·omega
theorem TF (s:ByteArray):1+s.data.toList.length≤(JH s).length:=by
 unfold JH
 rw [List.length_append]
 have:=Dv s.size
 omega
theorem M4:Mi.length=6∧Sn.length=4∧Nj.length=6∧Ji.length=6∧Ik.length=6∧QY.length=4∧Yq.length=4∧RB.length=6:=by decide
theorem yN (x:Dl):(Cg [Sn,UY x]).length≤16*(O4 x).length:=by
 have h1:=XH x.p
 have h2:=XH x.r
 have h3:=TF x.p
 have h4:=TF x.r
 rw [PS]
 unfold UY O4
 simp only [List.length_append,List.length_cons,List.length_nil,M4.2.1]
 omega
theorem sJ {t:Int} (h:0≤t):(Cg [Nj,Lib.itoa t]).length≤16*(enc t.toNat).length:=by
 have h1:=M0 h
 have h2:=Dv t.toNat
 rw [PS]
 simp only [List.length_append,List.length_cons,List.length_nil,M4.2.2.1]
 omega
theorem sK (x:Ep):(FN x).length≤16*(JI x).length:=by
 have h1:=Y0 (Au x)
 have h2:=Dv (folded (Au x))
 have h3:(if x.m then UZ else Ma).length≤5:=by cases x.m<;>decide
 unfold FN JI
 rw [Wu]
 simp only [List.length_append,List.length_cons,List.length_nil,M4.2.2.2.1]
 omega
theorem jq:Dj.all (fun r=>decide (r.word.data.toList.length≤12))=true:=by kernel_rfl
theorem yO {x:Av} (h:Aa x=0) (hl: ∀n∈x.l,Rd.Ej n):(Cg [[32,32]++PO x]).length≤16*(Kl x).length:=by
 obtain⟨r,hr,hm,hop⟩:=WQ h
 have hw:=of_decide_eq_true (List.all_eq_true.1 jq r hm)
 have K4:=h
 unfold Aa at K4
 rw [hr] at K4
 simp only at K4
 have hb:(Ah r).1≤x.a∧x.a≤(Ah r).2:=by
  refine Decidable.byContradiction fun hn=> ?_
  rw [if_pos hn] at K4;cases K4
 rw [if_neg (fun hn=>hn hb)] at K4
 rw [RD]
 unfold PO Kl
 have e1:Na x.op.toNat=r.word.data.toList:=by unfold Na;rw [hr]
 have e2:KS x.op.toNat=r.takes:=by unfold KS;rw [hr]
 rw [e1,e2,hr]
 simp only [List.length_append,List.length_cons,List.length_nil]
 by_cases h3:r.takes=3
 ·rw [if_neg (fun h=>h.2 h3),if_neg (by omega),if_neg (by omega),if_pos h3,List.length_append]
  rw [if_neg (fun hn=>hn h3)] at K4
  have hq: ¬(x.l.length<1∨16<x.l.length):=fun hn=>by rw [if_pos hn] at K4;cases K4
  have hq2:x.l.all (fun n=>decide (0≤n∧n≤2147483647))=true:=by
   refine Decidable.byContradiction fun hn=> ?_
   rw [if_neg hq,if_neg hn] at K4;cases K4
  have hf:=Jq (f:=fun n:Int=>32::Lib.itoa n) (g:=fun n:Int=>enc n.toNat) (l:=x.l) (fun n hn=>by
   have h1:=M0 (of_decide_eq_true (List.all_eq_true.1 hq2 n hn)).1
   have h2:=Dv n.toNat
   rw [List.length_cons];omega)
  have hp:=Dv x.l.length
  simp only [List.length_nil]
  omega
 ·rw [if_pos h3] at K4
  have hl0:x.l= []:=by
   refine List.eq_nil_of_length_eq_zero ?_
   refine Decidable.byContradiction fun hn=> ?_
   rw [if_pos (by omega)] at K4;cases K4
  rw [hl0,List.flatMap_nil,List.length_nil]
  by_cases h0:r.takes=0
  ·rw [if_neg (fun h=>h.1 h0),if_pos h0]
   simp only [List.length_nil]
   omega
  ·rw [if_pos ⟨h0,h3⟩,if_neg h0]
   by_cases h8:r.takes=8
   ·rw [if_pos h8,List.length_cons]
    have h1:=Y0 x.a
    have h2:=Dv (folded x.a)
    omega
   ·rw [if_neg h8,if_neg h3,List.length_cons]
    have ha:0≤x.a:=by
     have:=hb.1
     unfold Ah at this
     split at this
     ·exact this
     ·split at this
      ·exact this
      ·first | exact this | (rw [if_neg h8] at this;exact this)
    have h1:=M0 ha
    have h2:=Dv x.a.toNat
    omega
theorem ABq {f:FL} (ht:0≤f.t) (hc: ∀x∈f.code,Aa x=0∧Rd.Ej x.a∧ ∀n∈x.l,Rd.Ej n):(Sc f).length≤16*(Wt f).length:=by
 have h1:=M0 ht
 have h2:=Dv f.t.toNat
 have h3:=XH f.loc
 have h4:=TF f.loc
 have h5:=Jq (f:=fun x=>Cg [[32,32]++PO x]) (g:=Kl) (l:=f.code) (fun x hx=>yO (hc x hx).1 (hc x hx).2.2)
 unfold Sc Wt
 rw [List.length_append,Er]
 simp only [List.length_append,List.length_cons,List.length_nil,M4.2.2.2.2.2.1] at*
 omega
theorem jr: ∀b:List UInt8,(KX b).length=2*b.length
 | []=>rfl
 | c::b=>by
  have:=jr b
  show(OX (c.toNat/16)::OX (c.toNat%16)::KX b).length=_
  simp only [List.length_cons]
  omega
theorem sM {d:EZ} (h:0≤d.at_):(Lm d).length≤16*(Mv d).length:=by
 have h1:=M0 h
 have h2:=Dv d.at_.toNat
 have h3:=Dv d.b.length
 have h4:=jr d.b
 unfold Lm Mv
 rw [Er]
 simp only [List.length_append,List.length_cons,List.length_nil,M4.2.2.2.2.2.2.1]
 omega
theorem yP {x:LA} (h:0≤x.f):(NA x).length≤16*(Ni x).length:=by
 have h1:=M0 h
 have h2:=Dv x.f.toNat
 have h3:=TF x.n
 unfold NA Ni
 rw [Er]
 simp only [List.length_append,List.length_cons,List.length_nil,M4.2.2.2.2.2.2.2]
 omega
structure Pos0 (m:AQ):Prop where
 hosts: ∀t∈m.hosts,0≤t
 first:0≤m.first
 most:0≤m.most
 fns: ∀f∈m.fns,0≤f.t
 dat: ∀d∈m.dat,0≤d.at_
 AO: ∀x∈m.AO,0≤x.f
theorem ABr {m:AQ} (hE:FM m=0):Pos0 m∧(OW m).length≤65536:=by
 obtain⟨hp,hz⟩:=AL hE
 refine⟨?_,of_decide_eq_true (Di (by decide) hz)⟩
 obtain⟨hh,hb⟩:=AL hp
 obtain⟨_,hh⟩:=AL hh
 obtain⟨hho,hh⟩:=AL hh
 obtain⟨_,hpg⟩:=AL hh
 obtain⟨hf,hb⟩:=AL hb
 obtain⟨hd,he⟩:=AL hb
 have hPg:=of_decide_eq_true (Di (by decide) hpg)
 refine⟨fun t ht=> ?_,by omega,by omega,fun f hf'=> ?_,fun d hd'=> ?_,fun x hx=> ?_⟩
 ·obtain⟨k,hk,hx⟩:=at_mem ht
  have h1:=Aw (AL hho).2 k hk
  unfold LD at h1
  rw [hx] at h1
  exact(of_decide_eq_true (Di (by decide) h1)).1
 ·obtain⟨k,hk,hx⟩:=at_mem hf'
  have h1:=Aw (AL hf).2 k hk
  unfold YK at h1
  rw [hx] at h1
  exact(of_decide_eq_true (Di (by decide) (AL h1).1)).1
 ·obtain⟨k,hk,hx⟩:=at_mem hd'
  have h1:=Aw (AL hd).2 k hk
  unfold Oz at h1
  rw [hx] at h1
  exact(of_decide_eq_true (Di (by decide) (AL h1).1)).1
 ·obtain⟨k,hk,hx'⟩:=at_mem hx
  have h1:=Aw (AL he).2 k hk
  unfold Rx at h1
  rw [hx'] at h1
  exact(of_decide_eq_true (Di (by decide) (AL (AL h1).2).2)).1
theorem Uj {m:AQ} (hE:FM m=0) (hN:LM m):(Il m).length≤1048576:=by
 have hF:=WO hE hN
 obtain⟨hP,hL⟩:=ABr hE
 have h1:=Jq (f:=fun x=>Cg [Sn,UY x]) (g:=O4) (l:=m.types) (fun x _=>yN x)
 have h2:=Jq (f:=fun t=>Cg [Nj,Lib.itoa t]) (g:=fun t:Int=>enc t.toNat) (l:=m.hosts) (fun t ht=>sJ (hP.hosts t ht))
 have h3:=Jq (f:=FN) (g:=JI) (l:=m.globs) (fun x _=>sK x)
 have h4:=Jq (f:=Sc) (g:=Wt) (l:=m.fns) (fun f hf=>ABq (hP.fns f hf) (hF.fns f hf).2.2)
 have h5:=Jq (f:=Lm) (g:=Mv) (l:=m.dat) (fun d hd=>sM (hP.dat d hd))
 have h6:=Jq (f:=NA) (g:=Ni) (l:=m.AO) (fun x hx=>yP (hP.AO x hx))
 have h7:=M0 hP.first
 have h8:=M0 hP.most
 have h9:=Dv m.first.toNat
 have h10:=Dv m.most.toNat
 unfold Il jZ jc
 unfold OW Qs U9 Qp Qq Qr Py at hL
 rw [RD,Er]
 simp only [List.length_append,List.length_cons,List.length_nil,M4.1,M4.2.2.2.2.1] at*
 omega
theorem bZ {m:AQ} (hE:FM m=0) (hN:LM m):JC (BA (Il m))=(m,0,0):=bY hE hN (Uj hE hN)
theorem SL (s:ByteArray):s.data.toList.length=s.size:=by simp
def blk (n:Nat):List UInt8:=match n%4 with
 | 0=> []
 | 1=> [32]
 | 2=> [9]
 | _=> [13,32,9]
def wl (ws:List (List UInt8)):Nat:=Ak (fun w=>w.length+4) ws
section
attribute [local irreducible] CG
set_option maxHeartbeats 40000000
theorem RU {W:World} {g:Nat} {y0 y1 y2 y3 y4 y5:Value} (h:AV W g 183 [y0,y1,y2,y3,y4,y5]):(loadVar 183 ⟨g,0,none⟩).run prog W= .ok (.agg #[y0,y1,y2,y3,y4,y5]) W:=
 run_loadVar_row W g 183 183 #[y0,y1,y2,y3,y4,y5] (0,0) _ h underlying183 rfl (by kernel_rfl)
theorem AEx (w:World): ∀r∈Dj.take 30,Calls prog 136 #[.int .u8 (r.op:Nat)] w fun e w'=>Below w.heap.size w w'∧e= .returned (.tuple #[.agg (opC r),.bool true]):=by
 simp only [Dj,List.drop_succ_cons,List.drop_zero,List.take_succ_cons,List.take_zero]
 iterate 30
  refine List.forall_mem_cons.2 ⟨?_,?_⟩
  ·simp only [Int.cast_ofNat_Int]
   go_enter func136,ntmps136
   go_wp2_with fail
   exact bodyPost_ret (I9 rfl rfl rfl (RU (AV.new w 183 [_,_,_,_,_,_]))) rfl ⟨(Below.refl _ _).alloc (Nat.le_refl _) _,rfl⟩
 exact fun _ h=>by cases h
end
section
attribute [local irreducible] CG
set_option maxHeartbeats 40000000
theorem AEz (w:World): ∀r∈Dj.drop 60,Calls prog 136 #[.int .u8 (r.op:Nat)] w fun e w'=>Below w.heap.size w w'∧e= .returned (.tuple #[.agg (opC r),.bool true]):=by
 simp only [Dj,List.drop_succ_cons,List.drop_zero,List.take_succ_cons,List.take_zero]
 iterate 30
  refine List.forall_mem_cons.2 ⟨?_,?_⟩
  ·simp only [Int.cast_ofNat_Int]
   go_enter func136,ntmps136
   go_wp2_with fail
   exact bodyPost_ret (I9 rfl rfl rfl (RU (AV.new w 183 [_,_,_,_,_,_]))) rfl ⟨(Below.refl _ _).alloc (Nat.le_refl _) _,rfl⟩
 exact fun _ h=>by cases h
end
section
attribute [local irreducible] CG
set_option maxHeartbeats 40000000
theorem AEy (w:World): ∀r∈(Dj.drop 30).take 30,Calls prog 136 #[.int .u8 (r.op:Nat)] w fun e w'=>Below w.heap.size w w'∧e= .returned (.tuple #[.agg (opC r),.bool true]):=by
 simp only [Dj,List.drop_succ_cons,List.drop_zero,List.take_succ_cons,List.take_zero]
 iterate 30
  refine List.forall_mem_cons.2 ⟨?_,?_⟩
  ·simp only [Int.cast_ofNat_Int]
   go_enter func136,ntmps136
   go_wp2_with fail
   exact bodyPost_ret (I9 rfl rfl rfl (RU (AV.new w 183 [_,_,_,_,_,_]))) rfl ⟨(Below.refl _ _).alloc (Nat.le_refl _) _,rfl⟩
 exact fun _ h=>by cases h
end
section
attribute [local irreducible] CG
set_option maxHeartbeats 4000000
theorem AAI (w:World): ∀r∈Dj,Calls prog 136 #[.int .u8 (r.op:Nat)] w fun e w'=>Below w.heap.size w w'∧e= .returned (.tuple #[.agg (opC r),.bool true]):=by
 intro r hr
 rw [←List.take_append_drop 30 Dj,←List.take_append_drop 30 (Dj.drop 30),List.drop_drop] at hr
 rcases List.mem_append.1 hr with h | h
 ·exact AEx w r h
 rcases List.mem_append.1 h with h | h
 ·exact AEy w r h
 ·exact AEz w r h
theorem vX: ∀ {n:Nat},CG n=none→ ∀r∈Dj,((n:Int)==(r.op:Int))=false:=by
 intro n h r hr
 have:=List.find?_eq_none.1 (by unfold CG at h;exact h) r hr
 rw [beq_eq_false_iff_ne]
 simp at this
 omega
theorem vY (op:Nat) (w:World) (hn:CG op=none):Calls prog 136 #[.int .u8 op] w fun e w'=>Below w.heap.size w w'∧e= .returned (.tuple #[.agg mX,.bool false]):=by
 have hno:=vX hn
 clear hn
 simp only [Dj,List.forall_mem_cons] at hno
 obtain⟨d0,d1,d2,d3,d4,d5,d6,d7,d8,d9,d10,d11,d12,d13,d14,d15,d16,d17,d18,d19,d20,d21,d22,d23,d24,d25,d26,d27,d28,d29,d30,d31,d32,d33,d34,d35,d36,d37,d38,d39,d40,d41,d42,d43,d44,d45,d46,d47,d48,d49,d50,d51,d52,d53,d54,d55,d56,d57,d58,d59,d60,d61,d62,d63,d64,d65,d66,d67,d68,d69,d70,d71,d72,d73,d74,d75,d76,d77,d78,d79,d80,d81,d82,d83,d84,d85,d86,d87,d88,d89,_⟩:=hno
 go_enter func136,ntmps136
 go_wp2_with fail
 exact bodyPost_ret (I9 rfl rfl rfl (RU (AV.new w 183 mX.toList))) rfl ⟨(Below.refl _ _).alloc (Nat.le_refl _) _,rfl⟩
theorem Xz (op:Nat) (w:World) (hop:op<256):Calls prog 136 #[.int .u8 op] w fun e w'=>Below w.heap.size w w'∧e= .returned (Eh op):=by
 cases hr:CG op with
 | none=>
  have ha:Eh op= .tuple #[.agg mX,.bool false]:=by unfold Eh;rw [hr]
  rw [ha]
  exact vY op w hr
 | some r=>
  have ha:Eh op= .tuple #[.agg (opC r),.bool true]:=by unfold Eh;rw [hr]
  obtain⟨hm,rfl⟩:=Jh hr
  rw [ha]
  exact AAI w r hm
end
theorem iy: ∀(u:Nat) (s:List UInt8),s.length≤(K9 u s).length:=by
 intro u
 induction u using Nat.strongRecOn with
 | _ u ih=>
  intro s
  by_cases h:u=0
  ·subst h;rw [Qi];exact Nat.le_refl _
  ·rw [Rs h]
   have:=ih (u/10) (by omega) (UInt8.ofNat (48+u%10)::s)
   rw [List.length_cons] at this
   omega
def ACi (D:List UInt8) (w:World) (U S:Value) (wr:World):Prop:= ∃(u:Nat) (s:ByteArray),U= .int .u64 (u:Int)∧S= .string s∧u<18446744073709551616∧K9 u s.data.toList=D∧Below w.heap.size w wr
theorem Dc (n:Int) (hb:Rd.Ej n):(Lib.itoa n).length≤20:=by
 unfold Rd.Ej at hb
 unfold Lib.itoa
 split
 ·have:=WR 18 n.natAbs (by omega)
  rw [List.length_cons];omega
 ·have:=WR 18 n.toNat (by omega)
  omega
theorem Xy (x:Int):IntKind.u64.wrap x=x%18446744073709551616:=by rfl
theorem Iq (n:Int) (hb:Rd.Ej n) (w:World):Calls prog 40 #[.int .i64 n] w fun e w'=>Below w.heap.size w w'∧e= .returned (.string (BA (Lib.itoa n))):=by
 by_cases h0:n=0
 ·subst h0
  go_enter func40,ntmps40
  go_wp2_with fail
  go_ret
  refine⟨Below.refl _ _,?_⟩
  rw [show Lib.itoa 0= [48] from WZ]
  rfl
 obtain⟨u,hu,hu0,hu63⟩: ∃u:Nat,n.natAbs=u∧0<u∧u≤9223372036854775808:=⟨n.natAbs,rfl,by omega,by unfold Rd.Ej at hb;omega⟩
 have AEw:=AA (Dc n hb)
 have q0:(n==0)=false:=by rw [beq_eq_false_iff_ne];omega
 by_cases h:n<0
 case' pos=>
  have HD:Hid (Lib.itoa n= [45]++K9 u []):=AA (by rw [Yj u [] (by omega),List.append_nil];unfold Lib.itoa;rw [if_pos h,hu];rfl)
  obtain rfl:n= -(u:Int):=by omega
  have q1:decide (-(u:Int)<0)=true:=decide_eq_true h
  have hwr:IntKind.u64.wrap (-IntKind.u64.wrap (-(u:Int)))=(u:Int):=by rw [Xy,Xy];omega
  have HP:Hid (Lib.itoa (-(u:Int))= [45]++K9 u []):=HD
 case' neg=>
  have HD:Hid (Lib.itoa n=K9 u []):=AA (by rw [Yj u [] (by omega),List.append_nil];unfold Lib.itoa;rw [if_neg h];congr 1;omega)
  obtain rfl:n=(u:Int):=by omega
  have q1:decide ((u:Int)<0)=false:=decide_eq_false h
  have hwr:IntKind.u64.wrap (u:Int)=(u:Int):=by rw [Xy];omega
 all_goals
  have HDL:Hid ((K9 u []).length≤20):=AA (by have:=AEw.out;rw [HD.out] at this;first | exact this | (rw [List.length_append] at this;omega))
  have HU:Hid (u<18446744073709551616):=AA (by omega)
  clear hb hu h h0 hu63 AEw
  go_enter func40,ntmps40
  go_wp2_with fail
  go_loopw [3,4] (fun U S wr=>ACi (K9 u []) w U S wr) (fun U _ _=>(intOf U).toNat)
  case atStart=>exact⟨u,ByteArray.empty,by first | rfl | rw [hwr],rfl,HU.out,rfl,Below.refl _ _⟩
  case round=>
   obtain⟨v,s,rfl,rfl,hv,hR,hb⟩:=hrel
   have hs20:s.size≤20:=by
    have h1:=iy v s.data.toList
    rw [hR,SL] at h1
    have:=HDL.out
    omega
   have HR:=AA hR;have HB:=AA hb
   clear hR hb
   by_cases hv0:v=0
   ·subst hv0
    go_wp2_with fail
    go_ret
    refine⟨HB.out,?_⟩
    rw [HD.out,←HR.out,Qi]
    first | (rw [O6];rfl) | congr 2
   ·have hvp:(0:Int)<v:=by omega
    obtain⟨d,hd⟩: ∃d:UInt8,UInt8.ofNat (48+v%10)=d:=⟨_,rfl⟩
    have HDD:=AA hd
    have e:bv d= .int .u8 (48+(v:Int)%10):=by
     rw [←hd]
     show Value.int .u8 ((UInt8.ofNat (48+v%10)).toNat:Int)=_
     rw [MV (Nat.mod_lt _ (by decide))]
     congr 1
    have hcv:(convert 41 9 (.slice (some ⟨wr.heap.size,0,none⟩) 1 1)).run prog (wr.alloc (.cells #[.int .u8 (48+(v:Int)%10)] 5))= .ok (.string ⟨#[d]⟩) (wr.alloc (.cells #[.int .u8 (48+(v:Int)%10)] 5)):=by
     rw [←e]
     exact Ki _ _ _ underlying41 underlying5 underlying9 _ _ _ 1 1 [d] rfl (row_one wr _ _)
    have HV0:=AA hv0
    clear e hv0 hd
    go_wp2_with fail
    refine⟨⟨v/10,⟨#[d]⟩++s,by go_num,rfl,by omega,?_,HB.out.alloc HB.out.size _⟩,by simp [intOf];omega⟩
    rw [←HR.out,Rs HV0.out,HDD.out]
    congr 1
theorem ACR {P:Program} {ops:Array Oper} {rest:List Oper} {o:Oper} {a:Act} {w:World} {Q:Exit→Act→World→Prop} {g:Nat} {t:TypeId} {xs:List Value} (hb:AV w g t xs) {d:TypeDesc} (hu:P.underlying t=some d) (hd:(match d with | .struct _ | .array _ _=>true | _=>false)=true) (hi:(P.info? t).map (·.size)=some xs.length)
 (hgd:o.guard=none) (x:Operand) (ho:o.op= .load t x) (hx:a.eval x= .pointer (some ⟨g,0,none⟩)) (h:wpList P ops Q rest (a.put o.dst (.agg xs.toArray)) w):wpList P ops Q (o::rest) a w:=
 wpList_load_row hgd t x ho g hx t xs.toArray (0,0) d hb hu hd (by simpa using hi) h
section
variable {ops:Array Oper} {rest:List Oper} {o:Oper} {a:Act} {w:World} {Q:Exit→Act→World→Prop} {g:Nat}
theorem ldM {a0 a1 a2 a3 a4 a5 a6 a7:Value} (hb:AV w g 29 [a0,a1,a2,a3,a4,a5,a6,a7]) (hgd:o.guard=none) (x:Operand) (ho:o.op= .load 29 x) (hx:a.eval x= .pointer (some ⟨g,0,none⟩))
 (h:wpList prog ops Q rest (a.put o.dst (.agg #[a0,a1,a2,a3,a4,a5,a6,a7])) w):wpList prog ops Q (o::rest) a w:=
 ACR hb underlying29 rfl (by kernel_rfl) hgd x ho hx h
end
theorem Uv {W:World} {lo hi:Nat} {cs:List Value} {m:AQ} (h:IZ.R W lo hi cs m):LM m:=by
 obtain⟨v1,v2,v3,v4,v5,v6,rfl,_,h1,h2,h3,h4,h5,h6,h7⟩:=DF.1 h
 obtain⟨A2,c2,rfl⟩:=AU h2
 obtain⟨A5,c5,rfl⟩:=AU h5
 obtain⟨A6,c6,rfl⟩:=AU h6
 obtain⟨A7,c7,rfl⟩:=AU h7
 obtain⟨A1,c1,rfl⟩:=AU h1
 refine⟨fun t ht=>(Rd.qg h1 t ht).2,fun x hx=> ?_,h3.2,h4.2,fun f hf=> ?_,fun d hd=> ?_,fun x hx=> ?_⟩
 ·obtain⟨k,hk⟩:=List.getElem?_of_mem hx
  obtain⟨_,_,_,_,_,_,_,_,hb⟩:=K_ h2 hk
  exact hb
 ·obtain⟨k,hk⟩:=List.getElem?_of_mem hf
  obtain⟨_,_,_,_,_,_,_,_,_,_,hb,_,hc⟩:=Oy h5 hk
  refine⟨hb.2,fun x hx=> ?_⟩
  obtain⟨j,hj⟩:=List.getElem?_of_mem hx
  obtain⟨_,_,_,_,_,_,_,_,_,_,ha,hl⟩:=Nf hc hj
  exact⟨ha,fun n hn=>(Rd.qg hl n hn).2⟩
 ·obtain⟨k,hk⟩:=List.getElem?_of_mem hd
  obtain⟨_,_,_,_,_,_,_,_,_,hb,_⟩:=Jd h6 hk
  exact hb.2
 ·obtain⟨k,hk⟩:=List.getElem?_of_mem hx
  obtain⟨_,_,_,_,_,_,_,_,hb⟩:=LB h7 hk
  exact hb.2
theorem uz {P:Program} {ops:Array Oper} {rest:List Oper} {o:Oper} {a:Act} {w:World} {Q:Exit→Act→World→Prop} {g:Nat} {t:TypeId} {xs:List Value} (hb:AV w g t xs) {d:TypeDesc} (hu:P.underlying t=some d) (hd:(match d with | .struct _ | .array _ _=>true | _=>false)=true) (hi:(P.info? t).map (·.size)=some xs.length)
 (hg:Region.wanted o (yielded ops a.tmps)=true) (x:Operand) (ho:o.op= .load t x) (hx:a.eval x= .pointer (some ⟨g,0,none⟩)) (h:wpList P ops Q rest (a.put o.dst (.agg xs.toArray)) w):wpList P ops Q (o::rest) a w:=
 BigFrame.wpList_want hg fun _ hK=>wp_load_row t x ho g hx t xs.toArray (0,0) d hb hu hd (by simpa using hi) (hK _ _ h)
section
variable {ops:Array Oper} {rest:List Oper} {o:Oper} {a:Act} {w:World} {Q:Exit→Act→World→Prop} {g:Nat}
theorem u_ {a0 a1 a2 a3 a4 a5 a6 a7:Value} (hb:AV w g 29 [a0,a1,a2,a3,a4,a5,a6,a7]) (hg:Region.wanted o (yielded ops a.tmps)=true) (x:Operand) (ho:o.op= .load 29 x) (hx:a.eval x= .pointer (some ⟨g,0,none⟩))
 (h:wpList prog ops Q rest (a.put o.dst (.agg #[a0,a1,a2,a3,a4,a5,a6,a7])) w):wpList prog ops Q (o::rest) a w:=
 uz hb underlying29 rfl (by kernel_rfl) hg x ho hx h
end
end Go.Proofs.YtebgikflpgcnlaaGreatDoor
