/- Part 10 of the proof: PrsR PrsS -/
import Derived.Test.YtebgikflpgcnlaaGreatDoorT08
import Derived.Test.YtebgikflpgcnlaaGreatDoorT09
namespace Go.Proofs.YtebgikflpgcnlaaGreatDoor
set_option linter.unusedVariables false
set_option linter.unusedSimpArgs false
set_option maxRecDepth 100000
set_option maxHeartbeats 4000000
open Go.RowKit Tryz
def TokT (w:List UInt8):Prop:=w≠ []∧ ∀c∈w,33≤c.toNat∧c.toNat≤126
theorem TokT.word {w:List UInt8} (h:TokT w):WordT w:=by
 refine⟨h.1,fun c hc=> ?_⟩
 have:=(h.2 c hc).1
 unfold isB blankR
 simp
 omega
theorem tok_of {w:List UInt8} (h:(!w.isEmpty&&w.all (fun c=>decide (33≤c.toNat∧c.toNat≤126)))=true):TokT w:=by
 rw [Bool.and_eq_true] at h
 refine⟨fun e=>by rw [e] at h;exact absurd h.1 (by decide),fun c hc=> ?_⟩
 exact of_decide_eq_true (List.all_eq_true.1 h.2 c hc)
theorem tok_itoa (n:Int):TokT (Lib.itoa n):=by
 unfold Lib.itoa
 split
 ·refine⟨List.cons_ne_nil _ _,fun c hc=> ?_⟩
  rcases List.mem_cons.1 hc with rfl | hc
  ·decide
  ·have:=dec_digit _ c hc;omega
 ·exact⟨dec_ne_nil _,fun c hc=>by have:=dec_digit _ c hc;omega⟩
theorem tok_letters {s:ByteArray} (h:s.data.toList.all isL=true):TokT (sideT s):=by
 unfold sideT
 split
 ·exact tok_of (by decide)
 ·rename_i hs
  refine⟨fun e=>hs (by rw [Lib.size_eq,e];rfl),fun c hc=> ?_⟩
  have:=List.all_eq_true.1 h c hc
  unfold isL isN at this
  simp at this
  omega
theorem hexD_val {n:Nat} (h:n<16):48≤(hexD n).toNat∧(hexD n).toNat≤102∧hexV (hexD n)=some n:=by
 have: ∀k:Fin 16,48≤(hexD k.1).toNat∧(hexD k.1).toNat≤102∧hexV (hexD k.1)=some k.1:=by decide
 exact this ⟨n,h⟩
theorem hex_back: ∀b:List UInt8,hexR (hexT b)=some b
 | []=>rfl
 | c::b=>by
  have hc:c.toNat<256:=c.toNat_lt
  have h1:=(hexD_val (n:=c.toNat/16) (by omega)).2.2
  have h2:=(hexD_val (n:=c.toNat%16) (by omega)).2.2
  show hexR (hexD (c.toNat/16)::hexD (c.toNat%16)::hexT b)=_
  simp only [hexR,h1,h2,hex_back b,Option.map_some]
  congr 2
  rw [show 16*(c.toNat/16)+c.toNat%16=c.toNat by omega]
  simp
theorem tok_hex {b:List UInt8} (h:b≠ []):TokT (hexT b):=by
 refine⟨?_,fun c hc=> ?_⟩
 ·cases b with
  | nil=>exact absurd rfl h
  | cons c b=>exact List.cons_ne_nil _ _
 ·obtain⟨d,_,hd⟩:=List.mem_flatMap.1 hc
  have hlt:d.toNat<256:=d.toNat_lt
  rcases List.mem_cons.1 hd with rfl | hd
  ·have:=hexD_val (n:=d.toNat/16) (by omega);omega
  ·rw [List.mem_singleton] at hd
   subst hd
   have:=hexD_val (n:=d.toNat%16) (by omega);omega
def typeTok (x:SigV):List (List UInt8):= [typeT,sideT x.p,[45,62],sideT x.r]
def hostTok (t:Int):List (List UInt8):= [externT,Lib.itoa t]
def globTok (x:GlobV):List (List UInt8):= [globalT,[x.l],if x.m then varT else constT,Lib.itoa (signB x)]
def memTok (m:ModV):List (List UInt8):= [memoryT,Lib.itoa m.first,Lib.itoa m.most]
def fnTok (f:FnV):List (List UInt8):= [funcT,Lib.itoa f.t,sideT f.loc]
def insTok (x:InsV):List (List UInt8):=wordT x.op.toNat::((if takesT x.op.toNat≠0∧takesT x.op.toNat≠3 then [Lib.itoa x.a] else [])++x.l.map Lib.itoa)
def datTok (d:DatV):List (List UInt8):= [dataT,Lib.itoa d.at_,hexT d.b]
def expTok (x:ExpV):List (List UInt8):= [exportT,x.n.data.toList,Lib.itoa x.f]
def headTok (m:ModV):List (Bool×List (List UInt8)):=(false,[flagonT])::(m.types.map (fun x=>(false,typeTok x))++(m.hosts.map (fun x=>(false,hostTok x))++(m.globs.map (fun x=>(false,globTok x))++ [(false,memTok m)])))
def fnToks (f:FnV):List (Bool×List (List UInt8)):=(false,fnTok f)::f.code.map fun x=>(true,insTok x)
def bodyTok (m:ModV):List (Bool×List (List UInt8)):=m.fns.flatMap fnToks++(m.dat.map (fun x=>(false,datTok x))++m.exps.map (fun x=>(false,expTok x)))
def toks (m:ModV):List (Bool×List (List UInt8)):=headTok m++bodyTok m
def lnT (p:Bool×List (List UInt8)):List UInt8:=(if p.1 then [32,32] else [])++Lib.join p.2 [32]
theorem join_flat {α:Type} (w:List UInt8) (l:List α) (f:α→List UInt8):Lib.join (w::l.map f) [32]=w++l.flatMap fun x=>32::f x:=by
 rw [Lib.join_cons]
 unfold Lib.joinTail
 rw [List.map_map,List.flatMap_def]
 rfl
theorem ins_join (x:InsV):Lib.join (insTok x) [32]=insT x:=by
 unfold insTok insT
 by_cases h:takesT x.op.toNat≠0∧takesT x.op.toNat≠3
 ·rw [if_pos h,if_pos h]
  have:=join_flat (wordT x.op.toNat) (x.a::x.l) Lib.itoa
  simpa using this
 ·rw [if_neg h,if_neg h]
  have:=join_flat (wordT x.op.toNat) x.l Lib.itoa
  simpa using this
theorem flatMap_ext {α β:Type} {f g:α→List β}: ∀ {l:List α},(∀x∈l,f x=g x)→l.flatMap f=l.flatMap g
 | [],_=>rfl
 | x::l,h=>by rw [List.flatMap_cons,List.flatMap_cons,h x (List.mem_cons_self ..),flatMap_ext (fun y hy=>h y (List.mem_cons_of_mem _ hy))]
theorem printT_toks (m:ModV):printT m=(toks m).flatMap fun p=>lnT p++ [10]:=by
 have hE: ∀ws,lnT (false,ws)++ [10]=lineT ws:=fun ws=>rfl
 unfold printT headT bodyT toks headTok bodyTok
 simp only [List.flatMap_append,List.flatMap_cons,List.flatMap_nil,List.append_nil,List.flatMap_map,hE,List.append_assoc]
 congr 1
 congr 1
 ·refine flatMap_ext fun x _=> ?_
  unfold lineT typeTok sigT
  simp [Lib.join,List.intercalate]
 congr 1
 congr 1
 congr 1
 congr 1
 rw [List.flatMap_assoc]
 refine flatMap_ext fun f _=> ?_
 unfold fnT fnToks
 rw [List.flatMap_cons,hE,List.flatMap_map]
 congr 1
 refine flatMap_ext fun x _=> ?_
 unfold lineT lnT
 rw [Lib.join_one,ins_join]
 rfl
theorem askE_zeroP {b:Bool} {e:Int} (he:e≠0) (h:askE b e=0):b=true:=by
 unfold askE at h
 split at h
 ·assumption
 ·exact absurd h he
theorem letErr_zeroP {s:ByteArray} {k:Int} (h:letErr s k=0):(s.size:Int)≤k∧s.data.toList.all isL=true:=by
 have:=orE_zero h
 refine⟨of_decide_eq_true (askE_zeroP (by decide) this.1),?_⟩
 have h2:=askE_zeroP (by decide) this.2
 unfold letS letB at h2
 rw [Bool.and_eq_true] at h2
 exact h2.2
structure Fine (m:ModV):Prop where
 types: ∀x∈m.types,sgB x.p x.r=true∧x.p.data.toList.all isL=true∧x.r.data.toList.all isL=true
 globs: ∀x∈m.globs,isN x.l.toNat=true∧fitN x.v x.l.toNat=true∧x.v<18446744073709551616
 fns: ∀f∈m.fns,f.loc.data.toList.all isL=true∧Rd.B63 f.t∧ ∀x∈f.code,insChk x=0∧Rd.B63 x.a∧ ∀n∈x.l,Rd.B63 n
 dat: ∀d∈m.dat,d.b≠ []∧Rd.B63 d.at_
 exps: ∀x∈m.exps,x.n.data.toList≠ []∧(∀c∈x.n.data.toList,33≤c.toNat∧c.toNat≤126)∧Rd.B63 x.f
 hosts: ∀t∈m.hosts,Rd.B63 t
 first:Rd.B63 m.first
 most:Rd.B63 m.most
theorem at_mem {α:Type} {l:List α} {x:α} (h:x∈l): ∃k,k<l.length∧l[k]?=some x:=by
 obtain⟨k,hk,e⟩:=List.mem_iff_getElem.1 h
 exact⟨k,hk,by rw [List.getElem?_eq_getElem hk,e]⟩
theorem fine_of {m:ModV} (hE:modE m=0) (hN:ModNum m):Fine m:=by
 obtain⟨hp,_⟩:=orE_zero hE
 obtain⟨hh,hb⟩:=orE_zero hp
 obtain⟨ht,hh⟩:=orE_zero hh
 obtain⟨hho,hh⟩:=orE_zero hh
 obtain⟨hg,hpg⟩:=orE_zero hh
 obtain⟨hf,hb⟩:=orE_zero hb
 obtain⟨hd,he⟩:=orE_zero hb
 have hT:=(orE_zero ht).2
 have hH:=(orE_zero hho).2
 have hF:=(orE_zero hf).2
 have hD:=(orE_zero hd).2
 have hX:=(orE_zero he).2
 have hlt:=of_decide_eq_true (askE_zeroP (by decide) (orE_zero ht).1)
 have hlf:=of_decide_eq_true (askE_zeroP (by decide) (orE_zero hf).1)
 have hPg:=of_decide_eq_true (askE_zeroP (by decide) hpg)
 refine⟨fun x hx=> ?_,fun x hx=> ?_,fun f hf=> ?_,fun d hd=> ?_,fun x hx=> ?_,fun t ht=> ?_,?_,?_⟩
 ·obtain⟨k,hk,hx⟩:=at_mem hx
  have h1:=firstE_zero hT k hk
  unfold tyE at h1
  rw [hx] at h1
  obtain⟨h1,h2⟩:=orE_zero h1
  obtain⟨h2,_⟩:=orE_zero h2
  obtain⟨a1,a2⟩:=letErr_zeroP h1
  obtain⟨b1,b2⟩:=letErr_zeroP h2
  refine⟨?_,a2,b2⟩
  rw [sig_iff]
  unfold letB bl
  rw [Bool.and_eq_true,Bool.and_eq_true]
  refine⟨⟨decide_eq_true ?_,a2⟩,decide_eq_true ?_,b2⟩
  ·rw [←Lib.size_eq];omega
  ·rw [←Lib.size_eq];omega
 ·obtain⟨k,hk,hx'⟩:=at_mem hx
  obtain⟨h1,h2⟩:=globE_fit (orE_zero hg).2 k x hk hx'
  exact⟨h1,h2,hN.globs x hx⟩
 ·obtain⟨k,hk,hx⟩:=at_mem hf
  have h1:=firstE_zero hF k hk
  unfold fnE at h1
  rw [hx] at h1
  obtain⟨h1,h2⟩:=orE_zero h1
  obtain⟨h2,h3⟩:=orE_zero h2
  obtain⟨_,h3⟩:=orE_zero h3
  obtain⟨_,h3⟩:=orE_zero h3
  have ht:=of_decide_eq_true (askE_zeroP (by decide) h1)
  refine⟨(letErr_zeroP h2).2,⟨by omega,(hN.fns f hf).1⟩,fun x hx=> ?_⟩
  obtain⟨j,hj,hx'⟩:=at_mem hx
  have h4:=firstE_zero h3 j hj
  unfold codeE at h4
  rw [hx'] at h4
  have hc:insChk x=0:=h4
  obtain⟨q1,q2⟩:=(hN.fns f hf).2 x hx
  refine⟨hc,q1,fun n hn=>⟨?_,q2 n hn⟩⟩
  unfold insChk at hc
  split at hc
  ·cases hc
  ·rename_i r hr
   split at hc
   ·cases hc
   ·split at hc
    ·split at hc
     ·cases hc
     ·rename_i hl
      have:x.l= []:=List.eq_nil_of_length_eq_zero (by omega)
      rw [this] at hn;cases hn
    ·split at hc
     ·cases hc
     ·split at hc
      ·rename_i hall
       have:=of_decide_eq_true (List.all_eq_true.1 hall n hn)
       omega
      ·cases hc
 ·obtain⟨k,hk,hx⟩:=at_mem hd
  have h1:=firstE_zero hD k hk
  unfold datE at h1
  rw [hx] at h1
  obtain⟨h1,h2⟩:=orE_zero h1
  obtain⟨_,h3⟩:=orE_zero h2
  obtain⟨_,h4⟩:=orE_zero h3
  have ha:=of_decide_eq_true (askE_zeroP (by decide) h1)
  have hb:=of_decide_eq_true (askE_zeroP (by decide) h4)
  refine⟨fun e=>by rw [e] at hb;exact absurd hb (by decide),by omega,hN.dat d hd⟩
 ·obtain⟨k,hk,hx'⟩:=at_mem hx
  have h1:=firstE_zero hX k hk
  unfold expE at h1
  rw [hx'] at h1
  obtain⟨h1,h2⟩:=orE_zero h1
  obtain⟨_,h3⟩:=orE_zero h2
  unfold nameE at h1
  obtain⟨_,h1⟩:=orE_zero h1
  obtain⟨h1,h4⟩:=orE_zero h1
  have hs:=of_decide_eq_true (askE_zeroP (by decide) h1)
  have hc:=askE_zeroP (by decide) h4
  have ht:=of_decide_eq_true (askE_zeroP (by decide) h3)
  refine⟨fun e=>by rw [Lib.size_eq,e] at hs;exact absurd hs (by decide),fun c hc'=> ?_,by omega,by omega⟩
  have:=List.all_eq_true.1 hc c hc'
  unfold chE at this
  have:=of_decide_eq_true this
  omega
 ·obtain⟨k,hk,hx⟩:=at_mem ht
  have h1:=firstE_zero hH k hk
  unfold hostE at h1
  rw [hx] at h1
  have ht':=of_decide_eq_true (askE_zeroP (by decide) h1)
  exact⟨by omega,hN.hosts t ht⟩
 ·exact⟨by omega,by omega⟩
 ·exact⟨by omega,by omega⟩
theorem find_all: ∀r∈opTab,opFind r.word=some r:=by
 unfold opTab
 repeat (refine List.forall_mem_cons.2 ⟨by kernel_rfl,?_⟩)
 exact fun _ h=>by cases h
theorem words_all:opTab.all (fun r=>decide (kindW r.word=0)&&((!r.word.data.toList.isEmpty&&r.word.data.toList.all (fun c=>decide (33≤c.toNat∧c.toNat≤126)))&& !(r.word.data.toList.head?==some 59)))=true:=by kernel_rfl
theorem toks_words {r:OpV} (h:r∈opTab):kindW r.word=0∧TokT r.word.data.toList∧(r.word.data.toList.head?==some 59)=false:=by
 have:=List.all_eq_true.1 words_all r h
 rw [Bool.and_eq_true,Bool.and_eq_true] at this
 exact⟨of_decide_eq_true this.1,tok_of this.2.1,by simpa using this.2.2⟩
theorem ins_row {x:InsV} (h:insChk x=0): ∃r,opRow x.op.toNat=some r∧r∈opTab∧r.op=x.op.toNat:=by
 unfold insChk at h
 split at h
 ·cases h
 ·rename_i r hr
  exact⟨r,hr,(opRow_mem hr).1,(opRow_mem hr).2⟩
theorem numW_itoa {n:Int} (h:Rd.B63 n):numW (bOf (Lib.itoa n))=some n:=by
 unfold numW
 rw [bOf_data]
 exact numTxt_itoa h.1 (by have:=h.2;omega)
theorem numW_all: ∀ {l:List Int},(∀n∈l,Rd.B63 n)→((l.map Lib.itoa).map bOf).mapM numW=some l
 | [],_=>rfl
 | n::l,h=>by
  have ih:=numW_all (l:=l) (fun k hk=>h k (List.mem_cons_of_mem _ hk))
  rw [List.map_cons,List.map_cons,List.mapM_cons,numW_itoa (h n (List.mem_cons_self ..)),ih]
  rfl
def okLn (l:List (List UInt8)):Prop:=(∀w∈l,TokT w)∧ ∃w ws,l=w::ws∧(w.head?==some 59)=false
theorem okLn.skip {l:List (List UInt8)} (h:okLn l):skipW (l.map bOf)=false:=by
 obtain⟨_,w,ws,rfl,h⟩:=h
 show((bOf w).data.toList.head?==some 59)=false
 rw [bOf_data]
 exact h
theorem goW_one {l:List ByteArray} {t:List (List ByteArray)} {r r':RdV} (hs:skipW l=false) (h:lineV r l=some r'):goW (l::t) r=goW t r':=by
 show(if skipW l=true then _ else(lineV r l).bind (goW t))=_
 rw [if_neg (by rw [hs];exact Bool.false_ne_true),h]
 rfl
theorem goW_sec {α:Type} (tok:α→List ByteArray) (p:Nat) (put:ModV→α→ModV) (ok:α→Prop) (hp:okSt p p=true)
 (hskip: ∀x,ok x→skipW (tok x)=false) (hstep: ∀m st x,ok x→okSt p st=true→lineV ⟨m,st⟩ (tok x)=some ⟨put m x,p⟩):
 ∀(l:List α) (m:ModV) (st:Nat),(∀x∈l,ok x)→okSt p st=true→goW (l.map tok) ⟨m,st⟩=some ⟨l.foldl put m,if l= [] then st else p⟩
 | [],m,st,_,_=>rfl
 | x::l,m,st,h,hst=>by
  rw [List.map_cons,goW_one (hskip x (h x (List.mem_cons_self ..))) (hstep m st x (h x (List.mem_cons_self ..)) hst),
   goW_sec tok p put ok hp hskip hstep l _ p (fun y hy=>h y (List.mem_cons_of_mem _ hy)) hp,List.foldl_cons,if_neg (List.cons_ne_nil _ _)]
  by_cases hl:l= []
  ·rw [if_pos hl]
  ·rw [if_neg hl]
theorem lineV_kind {m:ModV} {st p:Nat} {w:ByteArray} {ws:List ByteArray} {m':ModV} (hk:kindW w=p) (h0:p≠0) (ho:okSt p st=true) (hr:readK p m ws=some m'):lineV ⟨m,st⟩ (w::ws)=some ⟨m',p⟩:=by
 show(if kindW w=0 then _ else if okSt (kindW w) st=true then(readK (kindW w) m ws).map (fun m'=>(⟨m',kindW w⟩:RdV)) else none)=_
 rw [hk,if_neg h0,if_pos ho,hr]
 rfl
theorem k_flagon:kindW (bOf flagonT)=1:=by kernel_rfl
theorem k_type:kindW (bOf typeT)=2:=by kernel_rfl
theorem k_extern:kindW (bOf externT)=3:=by kernel_rfl
theorem k_global:kindW (bOf globalT)=4:=by kernel_rfl
theorem k_memory:kindW (bOf memoryT)=5:=by kernel_rfl
theorem k_func:kindW (bOf funcT)=6:=by kernel_rfl
theorem k_data:kindW (bOf dataT)=7:=by kernel_rfl
theorem k_export:kindW (bOf exportT)=8:=by kernel_rfl
theorem sideT_eq (s:ByteArray):bOf (sideT s)=sideS s:=by
 unfold sideT sideS
 by_cases h:s.size=0
 ·have h0:s.data.toList= []:=List.eq_nil_of_length_eq_zero (by rw [←Lib.size_eq];exact h)
  have:s=none_:=bl_inj (by show s.data.toList=_;rw [h0];rfl)
  rw [if_pos h,if_pos this];rfl
 ·have:s≠none_:=fun e=>h (by rw [e];rfl)
  rw [if_neg h,if_neg this,bOf_of]
theorem st_type {m:ModV} {st:Nat} {x:SigV} (h:sgB x.p x.r=true) (ho:okSt 2 st=true):lineV ⟨m,st⟩ ((typeTok x).map bOf)=some ⟨{m with types:=m.types++ [x]},2⟩:=by
 refine lineV_kind k_type (by decide) ho ?_
 have hj:joinW ([sideT x.p,[45,62],sideT x.r].map bOf)=sideS x.p++arrow++sideS x.r:=by
  apply bl_inj
  rw [bl_app,bl_app,←sideT_eq,←sideT_eq]
  unfold joinW bl
  simp only [List.map_cons,List.map_nil,bOf_data]
  simp [Lib.join,List.intercalate,arrow]
 have hw:wordS x.p x.r=(joinW ([sideT x.p,[45,62],sideT x.r].map bOf),0):=by rw [hj];unfold wordS;rw [if_pos h]
 have hr:=word_read hw
 show(if(readS (joinW ([sideT x.p,[45,62],sideT x.r].map bOf))).2.2=0 then _ else _)=_
 rw [hr,if_pos rfl]
theorem st_host {m:ModV} {st:Nat} {t:Int} (h:Rd.B63 t) (ho:okSt 3 st=true):lineV ⟨m,st⟩ ((hostTok t).map bOf)=some ⟨{m with hosts:=m.hosts++ [t]},3⟩:=by
 refine lineV_kind k_extern (by decide) ho ?_
 show(numW (bOf (Lib.itoa t))).map _=_
 rw [numW_itoa h]
 rfl
theorem globR_back {x:GlobV} (h1:isN x.l.toNat=true) (h2:fitN x.v x.l.toNat=true) (h3:x.v<18446744073709551616):globR (bOf [x.l]) (bOf (if x.m then varT else constT)) (signB x)=some x:=by
 obtain⟨l,b,v⟩:=x
 have hb:(bOf (if b then varT else constT)=varW∨bOf (if b then varT else constT)=constW)∧decide (bOf (if b then varT else constT)=varW)=b:=by
  cases b
  ·exact⟨Or.inr rfl,by decide⟩
  ·exact⟨Or.inl rfl,by decide⟩
 unfold isN at h1
 simp only [Bool.or_eq_true,beq_iff_eq] at h1
 unfold globR
 simp only at hb h2 h3⊢
 rcases h1 with h1 | h1
 ·have hl:l=119:=by rw [←UInt8.toNat_inj];exact h1
  subst hl
  have hv:v<4294967296:=by unfold fitN at h2;simpa using h2
  have e1:bOf [(119:UInt8)]=wW:=rfl
  have hs:signB ⟨119,b,v⟩=if 2147483648≤v then(v:Int)-4294967296 else v:=by
   unfold signB
   by_cases h:2147483648≤v
   ·rw [if_pos ⟨rfl,h⟩,if_pos h]
   ·rw [if_neg (by simp only;omega),if_neg h,if_pos (by simp only;omega)]
  rw [e1,if_pos ⟨Or.inl rfl,hb.1⟩,if_pos rfl,hb.2,hs,if_pos (by split<;>omega)]
  congr 2
  split<;>omega
 ·have hl:l=108:=by rw [←UInt8.toNat_inj];exact h1
  subst hl
  have e1:bOf [(108:UInt8)]=lW:=rfl
  have hne:lW≠wW:=by decide
  have hs:signB ⟨108,b,v⟩=if v<9223372036854775808 then(v:Int) else(v:Int)-18446744073709551616:=by
   unfold signB
   rw [if_neg (by simp only;intro h;exact absurd h.1 (by decide))]
  rw [e1,if_pos ⟨Or.inr rfl,hb.1⟩,if_neg hne,hb.2,hs]
  congr 2
  split<;>omega
theorem st_glob {m:ModV} {st:Nat} {x:GlobV} (h1:isN x.l.toNat=true) (h2:fitN x.v x.l.toNat=true) (h3:x.v<18446744073709551616) (ho:okSt 4 st=true):
 lineV ⟨m,st⟩ ((globTok x).map bOf)=some ⟨{m with globs:=m.globs++ [x]},4⟩:=by
 refine lineV_kind k_global (by decide) ho ?_
 have hs:=signB_lt h3 h2
 show(numW (bOf (Lib.itoa (signB x)))).bind _=_
 rw [numW_itoa hs]
 show(globR (bOf [x.l]) (bOf (if x.m then varT else constT)) (signB x)).map _=_
 rw [globR_back h1 h2 h3]
 rfl
theorem st_mem {m:ModV} {st:Nat} {a b:Int} (ha:Rd.B63 a) (hb:Rd.B63 b) (ho:okSt 5 st=true):
 lineV ⟨m,st⟩ ([memoryT,Lib.itoa a,Lib.itoa b].map bOf)=some ⟨{m with first:=a,most:=b},5⟩:=by
 refine lineV_kind k_memory (by decide) ho ?_
 show(numW (bOf (Lib.itoa a))).bind (fun x=>(numW (bOf (Lib.itoa b))).map _)=_
 rw [numW_itoa ha,numW_itoa hb]
 rfl
theorem loc_back {s:ByteArray} (h:s.data.toList.all isL=true):locR (bOf (sideT s))=s:=by
 rw [sideT_eq]
 unfold locR sideS
 by_cases hs:s=none_
 ·rw [if_pos hs,if_pos rfl,hs]
 ·rw [if_neg hs,if_neg]
  rintro rfl
  exact absurd h (by decide)
theorem st_fn {m:ModV} {st:Nat} {f:FnV} (h:f.loc.data.toList.all isL=true) (ht:Rd.B63 f.t) (ho:okSt 6 st=true):
 lineV ⟨m,st⟩ ((fnTok f).map bOf)=some ⟨{m with fns:=m.fns++ [⟨f.t,f.loc,[]⟩]},6⟩:=by
 refine lineV_kind k_func (by decide) ho ?_
 show(numW (bOf (Lib.itoa f.t))).map _=_
 rw [numW_itoa ht]
 show some ({m with fns:=m.fns++ [(⟨f.t,locR (bOf (sideT f.loc)),[]⟩:FnV)]}:ModV)=_
 rw [loc_back h]
theorem st_dat {m:ModV} {st:Nat} {d:DatV} (h:Rd.B63 d.at_) (ho:okSt 7 st=true):lineV ⟨m,st⟩ ((datTok d).map bOf)=some ⟨{m with dat:=m.dat++ [d]},7⟩:=by
 refine lineV_kind k_data (by decide) ho ?_
 show(numW (bOf (Lib.itoa d.at_))).bind (fun n=>(hexR (bOf (hexT d.b)).data.toList).map _)=_
 rw [numW_itoa h,bOf_data,hex_back]
 rfl
theorem st_exp {m:ModV} {st:Nat} {x:ExpV} (h:Rd.B63 x.f) (ho:okSt 8 st=true):lineV ⟨m,st⟩ ((expTok x).map bOf)=some ⟨{m with exps:=m.exps++ [x]},8⟩:=by
 refine lineV_kind k_export (by decide) ho ?_
 show(numW (bOf (Lib.itoa x.f))).map _=_
 rw [numW_itoa h,bOf_of]
 rfl
theorem st_ins {m:ModV} {x:InsV} (h:insChk x=0) (ha:Rd.B63 x.a) (hl: ∀n∈x.l,Rd.B63 n):lineV ⟨m,6⟩ ((insTok x).map bOf)=some ⟨{m with fns:=putIns m.fns x},6⟩:=by
 obtain⟨r,hr,hm,hop⟩:=ins_row h
 obtain⟨hk,_,_⟩:=toks_words hm
 have hw:wordT x.op.toNat=r.word.data.toList:=by unfold wordT;rw [hr]
 have ht:takesT x.op.toNat=r.takes:=by unfold takesT;rw [hr]
 have hf:=find_all r hm
 have ho:UInt8.ofNat r.op=x.op:=by rw [hop];simp
 have hchk:=h
 unfold insChk at hchk
 rw [hr] at hchk
 simp only at hchk
 have hb:(boundsOf r).1≤x.a∧x.a≤(boundsOf r).2:=by
  refine Decidable.byContradiction fun hn=> ?_
  rw [if_pos hn] at hchk;cases hchk
 rw [if_neg (fun hn=>hn hb)] at hchk
 have hi:insR r (((if r.takes≠0∧r.takes≠3 then [Lib.itoa x.a] else [])++x.l.map Lib.itoa).map bOf)=some x:=by
  obtain⟨op,a,l⟩:=x
  simp only at*
  unfold insR
  by_cases h0:r.takes=0
  ·have hb0:boundsOf r=(0,0):=by
    unfold boundsOf
    rw [h0];rfl
   rw [hb0] at hb
   have:a=0:=by simp only at hb;omega
   subst this
   rw [if_pos (by omega)] at hchk
   have:l= []:=by
    refine List.eq_nil_of_length_eq_zero ?_
    refine Decidable.byContradiction fun hn=> ?_
    rw [if_pos (by omega)] at hchk;cases hchk
   subst this
   rw [if_pos h0,if_neg (by omega),ho]
   rfl
  ·rw [if_neg h0]
   by_cases h3:r.takes=3
   ·have hb0:boundsOf r=(0,0):=by
     unfold boundsOf
     rw [h3];rfl
    rw [hb0] at hb
    have:a=0:=by simp only at hb;omega
    subst this
    rw [if_pos h3,if_neg (by omega),List.nil_append,numW_all hl,ho]
    rfl
   ·rw [if_pos h3] at hchk
    have:l= []:=by
     refine List.eq_nil_of_length_eq_zero ?_
     refine Decidable.byContradiction fun hn=> ?_
     rw [if_pos (by omega)] at hchk;cases hchk
    subst this
    rw [if_neg h3,if_pos ⟨h0,h3⟩]
    show(numW (bOf (Lib.itoa a))).map _=_
    rw [numW_itoa ha,ho]
    rfl
 unfold insTok
 rw [hw,ht,List.map_cons,bOf_of]
 show(if kindW r.word=0 then(if(6:Nat)=6 then(opFind r.word).bind fun o=>(insR o _).map _ else none) else _)=_
 rw [if_pos hk,if_pos rfl,hf]
 show(insR r _).map _=_
 rw [hi]
 rfl
theorem tok_none:okLn [flagonT]:=⟨fun w hw=>by rw [List.mem_singleton] at hw;subst hw;exact tok_of (by decide),_,_,rfl,by decide⟩
theorem okLn_of {w:List UInt8} {ws:List (List UInt8)} (h1:TokT w) (h2:(w.head?==some 59)=false) (h: ∀x∈ws,TokT x):okLn (w::ws):=
 ⟨fun x hx=>(List.mem_cons.1 hx).elim (fun e=>e▸h1) (h x),w,ws,rfl,h2⟩
theorem all1 {a:List UInt8} (ha:TokT a): ∀x∈ [a],TokT x:=fun x hx=>by rw [List.mem_singleton] at hx;exact hx▸ha
theorem all2 {a:List UInt8} {l:List (List UInt8)} (ha:TokT a) (hl: ∀x∈l,TokT x): ∀x∈a::l,TokT x:=fun x hx=>(List.mem_cons.1 hx).elim (fun e=>e▸ha) (hl x)
theorem ln_type {x:SigV} (h1:x.p.data.toList.all isL=true) (h2:x.r.data.toList.all isL=true):okLn (typeTok x):=
 okLn_of (tok_of (by decide)) (by decide) (all2 (tok_letters h1) (all2 (tok_of (by decide)) (all1 (tok_letters h2))))
theorem ln_host (t:Int):okLn (hostTok t):=okLn_of (tok_of (by decide)) (by decide) (all1 (tok_itoa t))
theorem ln_glob {x:GlobV} (h:isN x.l.toNat=true):okLn (globTok x):=by
 refine okLn_of (tok_of (by decide)) (by decide) (all2 ⟨List.cons_ne_nil _ _,fun c hc=> ?_⟩ (all2 ?_ (all1 (tok_itoa _))))
 ·rw [List.mem_singleton] at hc
  subst hc
  unfold isN at h
  simp at h
  omega
 ·cases x.m
  ·exact tok_of (by decide)
  ·exact tok_of (by decide)
theorem ln_mem (a b:Int):okLn [memoryT,Lib.itoa a,Lib.itoa b]:=okLn_of (tok_of (by decide)) (by decide) (all2 (tok_itoa a) (all1 (tok_itoa b)))
theorem ln_fn {f:FnV} (h:f.loc.data.toList.all isL=true):okLn (fnTok f):=okLn_of (tok_of (by decide)) (by decide) (all2 (tok_itoa _) (all1 (tok_letters h)))
theorem ln_dat {d:DatV} (h:d.b≠ []):okLn (datTok d):=okLn_of (tok_of (by decide)) (by decide) (all2 (tok_itoa _) (all1 (tok_hex h)))
theorem ln_exp {x:ExpV} (h:x.n.data.toList≠ []∧ ∀c∈x.n.data.toList,33≤c.toNat∧c.toNat≤126):okLn (expTok x):=okLn_of (tok_of (by decide)) (by decide) (all2 h (all1 (tok_itoa _)))
theorem ln_ins {x:InsV} (h:insChk x=0):okLn (insTok x):=by
 obtain⟨r,hr,hm,hop⟩:=ins_row h
 obtain⟨_,h1,h2⟩:=toks_words hm
 have hw:wordT x.op.toNat=r.word.data.toList:=by unfold wordT;rw [hr]
 unfold insTok
 rw [hw]
 refine okLn_of h1 h2 fun w hw=> ?_
 rcases List.mem_append.1 hw with hw | hw
 ·split at hw
  ·rw [List.mem_singleton] at hw;subst hw;exact tok_itoa _
  ·cases hw
 ·obtain⟨n,_,rfl⟩:=List.mem_map.1 hw
  exact tok_itoa n
theorem lines_ok {m:ModV} (h:Fine m): ∀p∈toks m,okLn p.2:=by
 intro p hp
 unfold toks headTok bodyTok at hp
 simp only [List.cons_append,List.mem_cons,List.mem_append,List.mem_map,List.mem_flatMap,List.not_mem_nil,or_false] at hp
 rcases hp with rfl | (⟨x,hx,rfl⟩ | ⟨x,hx,rfl⟩ | ⟨x,hx,rfl⟩ | rfl) | ⟨f,hf,hp⟩ | ⟨x,hx,rfl⟩ | ⟨x,hx,rfl⟩
 ·exact tok_none
 ·exact ln_type (h.types x hx).2.1 (h.types x hx).2.2
 ·exact ln_host x
 ·exact ln_glob (h.globs x hx).1
 ·exact ln_mem _ _
 ·unfold fnToks at hp
  rcases List.mem_cons.1 hp with rfl | hp
  ·exact ln_fn (h.fns f hf).1
  ·obtain⟨x,hx,rfl⟩:=List.mem_map.1 hp
   exact ln_ins ((h.fns f hf).2.2 x hx).1
 ·exact ln_dat (h.dat x hx).1
 ·exact ln_exp ⟨(h.exps x hx).1,(h.exps x hx).2.1⟩
theorem fold_types: ∀(l:List SigV) (m:ModV),l.foldl (fun m x=> {m with types:=m.types++ [x]}) m= {m with types:=m.types++l}
 | [],m=>by simp
 | x::l,m=>by rw [List.foldl_cons,fold_types l];simp
theorem fold_hosts: ∀(l:List Int) (m:ModV),l.foldl (fun m x=> {m with hosts:=m.hosts++ [x]}) m= {m with hosts:=m.hosts++l}
 | [],m=>by simp
 | x::l,m=>by rw [List.foldl_cons,fold_hosts l];simp
theorem fold_globs: ∀(l:List GlobV) (m:ModV),l.foldl (fun m x=> {m with globs:=m.globs++ [x]}) m= {m with globs:=m.globs++l}
 | [],m=>by simp
 | x::l,m=>by rw [List.foldl_cons,fold_globs l];simp
theorem fold_dat: ∀(l:List DatV) (m:ModV),l.foldl (fun m x=> {m with dat:=m.dat++ [x]}) m= {m with dat:=m.dat++l}
 | [],m=>by simp
 | x::l,m=>by rw [List.foldl_cons,fold_dat l];simp
theorem fold_exps: ∀(l:List ExpV) (m:ModV),l.foldl (fun m x=> {m with exps:=m.exps++ [x]}) m= {m with exps:=m.exps++l}
 | [],m=>by simp
 | x::l,m=>by rw [List.foldl_cons,fold_exps l];simp
theorem put_last (fns:List FnV) (f:FnV) (x:InsV):putIns (fns++ [f]) x=fns++ [{f with code:=f.code++ [x]}]:=by
 unfold putIns
 rw [List.getLast?_concat,List.dropLast_concat]
theorem fold_code: ∀(l:List InsV) (m:ModV) (fns:List FnV) (f:FnV),m.fns=fns++ [f]→
 l.foldl (fun m x=> {m with fns:=putIns m.fns x}) m= {m with fns:=fns++ [{f with code:=f.code++l}]}
 | [],m,fns,f,h=>by
  rw [List.foldl_nil,List.append_nil,←h]
 | x::l,m,fns,f,h=>by
  rw [List.foldl_cons,fold_code l _ fns {f with code:=f.code++ [x]} (by rw [h,put_last])]
  simp
theorem goW_fn {f:FnV} (hl:f.loc.data.toList.all isL=true) (ht:Rd.B63 f.t) (hc: ∀x∈f.code,insChk x=0∧Rd.B63 x.a∧ ∀n∈x.l,Rd.B63 n) (m:ModV) {st:Nat} (ho:okSt 6 st=true):
 goW ((fnToks f).map (fun p=>p.2.map bOf)) ⟨m,st⟩=some ⟨{m with fns:=m.fns++ [f]},6⟩:=by
 unfold fnToks
 rw [List.map_cons,goW_one (ln_fn hl).skip (st_fn hl ht ho),List.map_map]
 have hg: ∀(l:List InsV) (m:ModV),(∀x∈l,insChk x=0∧Rd.B63 x.a∧ ∀n∈x.l,Rd.B63 n)→
  goW (l.map fun x=>(insTok x).map bOf) ⟨m,6⟩=some ⟨l.foldl (fun m x=> {m with fns:=putIns m.fns x}) m,6⟩:=by
  intro l
  induction l with
  | nil=>intro m _;rfl
  | cons x l ih=>
   intro m h
   obtain⟨h1,h2,h3⟩:=h x (List.mem_cons_self ..)
   rw [List.map_cons,goW_one (ln_ins h1).skip (st_ins h1 h2 h3),ih _ (fun y hy=>h y (List.mem_cons_of_mem _ hy)),List.foldl_cons]
 have:=hg f.code {m with fns:=m.fns++ [⟨f.t,f.loc,[]⟩]} hc
 rw [show((fun p:Bool×List (List UInt8)=>p.2.map bOf)∘fun x=>(true,insTok x))=fun x=>(insTok x).map bOf from rfl,this]
 rw [fold_code f.code _ m.fns ⟨f.t,f.loc,[]⟩ rfl]
 simp
theorem goW_fns: ∀(l:List FnV),(∀f∈l,f.loc.data.toList.all isL=true∧Rd.B63 f.t∧ ∀x∈f.code,insChk x=0∧Rd.B63 x.a∧ ∀n∈x.l,Rd.B63 n)→ ∀(m:ModV) (st:Nat),okSt 6 st=true→
 ∃st',(st'=st∨st'=6)∧goW ((l.flatMap fnToks).map (fun p=>p.2.map bOf)) ⟨m,st⟩=some ⟨{m with fns:=m.fns++l},st'⟩
 | [],_,m,st,_=>⟨st,.inl rfl,by simp [goW]⟩
 | f::l,h,m,st,ho=>by
  obtain⟨h1,h2,h3⟩:=h f (List.mem_cons_self ..)
  obtain⟨st',hs,he⟩:=goW_fns l (fun g hg=>h g (List.mem_cons_of_mem _ hg)) {m with fns:=m.fns++ [f]} 6 (by decide)
  refine⟨st',.inr (hs.elim id id),?_⟩
  rw [List.flatMap_cons,List.map_append,goW_app _ _ _ _ (goW_fn h1 h2 h3 m ho),he]
  simp
theorem goW_toks {m:ModV} (h:Fine m): ∃st,5≤st∧goW ((toks m).map (fun p=>p.2.map bOf)) rd0=some ⟨m,st⟩:=by
 obtain⟨ty,ho,gl,fi,mo,fn,da,ex⟩:=m
 obtain⟨hty,hgl,hfn,hda,hex,hho,hfi,hmo⟩:=h
 simp only at hty hgl hfn hda hex hho hfi hmo
 have e0:lineV rd0 [bOf flagonT]=some ⟨mod0,1⟩:=lineV_kind k_flagon (by decide) (by decide) rfl
 have e2:=goW_sec (fun x=>(typeTok x).map bOf) 2 (fun m x=> {m with types:=m.types++ [x]}) (fun x=>sgB x.p x.r=true∧x.p.data.toList.all isL=true∧x.r.data.toList.all isL=true) (by decide)
  (fun x hx=>(ln_type hx.2.1 hx.2.2).skip) (fun m st x hx ho=>st_type hx.1 ho) ty mod0 1 hty (by decide)
 rw [fold_types] at e2
 obtain⟨s2,hs2,e2⟩: ∃s,(s=1∨s=2)∧goW (ty.map fun x=>(typeTok x).map bOf) ⟨mod0,1⟩=some ⟨{mod0 with types:=mod0.types++ty},s⟩:=⟨_,by split;exact .inl rfl;exact .inr rfl,e2⟩
 have e3:=goW_sec (fun x=>(hostTok x).map bOf) 3 (fun m x=> {m with hosts:=m.hosts++ [x]}) Rd.B63 (by decide)
  (fun x hx=>(ln_host x).skip) (fun m st x hx ho=>st_host hx ho) ho {mod0 with types:=mod0.types++ty} s2 hho (by rcases hs2 with rfl | rfl<;>decide)
 rw [fold_hosts] at e3
 obtain⟨s3,hs3,e3⟩: ∃s,(s=1∨s=2∨s=3)∧goW (ho.map fun x=>(hostTok x).map bOf) ⟨{mod0 with types:=mod0.types++ty},s2⟩=some ⟨{mod0 with types:=mod0.types++ty,hosts:=mod0.hosts++ho},s⟩:=
  ⟨_,by rcases hs2 with rfl | rfl<;>(split<;>simp),e3⟩
 have e4:=goW_sec (fun x=>(globTok x).map bOf) 4 (fun m x=> {m with globs:=m.globs++ [x]}) (fun x=>isN x.l.toNat=true∧fitN x.v x.l.toNat=true∧x.v<18446744073709551616) (by decide)
  (fun x hx=>(ln_glob hx.1).skip) (fun m st x hx ho=>st_glob hx.1 hx.2.1 hx.2.2 ho) gl {mod0 with types:=mod0.types++ty,hosts:=mod0.hosts++ho} s3 hgl (by rcases hs3 with rfl | rfl | rfl<;>decide)
 rw [fold_globs] at e4
 obtain⟨s4,hs4,e4⟩: ∃s,(s=1∨s=2∨s=3∨s=4)∧goW (gl.map fun x=>(globTok x).map bOf) ⟨{mod0 with types:=mod0.types++ty,hosts:=mod0.hosts++ho},s3⟩=some ⟨{mod0 with types:=mod0.types++ty,hosts:=mod0.hosts++ho,globs:=mod0.globs++gl},s⟩:=
  ⟨_,by rcases hs3 with rfl | rfl | rfl<;>(split<;>simp),e4⟩
 have e5:lineV ⟨{mod0 with types:=mod0.types++ty,hosts:=mod0.hosts++ho,globs:=mod0.globs++gl},s4⟩ [bOf memoryT,bOf (Lib.itoa fi),bOf (Lib.itoa mo)]=some ⟨{mod0 with types:=mod0.types++ty,hosts:=mod0.hosts++ho,globs:=mod0.globs++gl,first:=fi,most:=mo},5⟩:=
  st_mem hfi hmo (by rcases hs4 with rfl | rfl | rfl | rfl<;>decide)
 obtain⟨s6,hs6,e6⟩:=goW_fns fn hfn {mod0 with types:=mod0.types++ty,hosts:=mod0.hosts++ho,globs:=mod0.globs++gl,first:=fi,most:=mo} 5 (by decide)
 have e7:=goW_sec (fun x=>(datTok x).map bOf) 7 (fun m x=> {m with dat:=m.dat++ [x]}) (fun d=>d.b≠ []∧Rd.B63 d.at_) (by decide)
  (fun x hx=>(ln_dat hx.1).skip) (fun m st x hx ho=>st_dat hx.2 ho) da {mod0 with types:=mod0.types++ty,hosts:=mod0.hosts++ho,globs:=mod0.globs++gl,first:=fi,most:=mo,fns:=mod0.fns++fn} s6 hda (by rcases hs6 with rfl | rfl<;>decide)
 rw [fold_dat] at e7
 obtain⟨s7,hs7,e7⟩: ∃s,(s=5∨s=6∨s=7)∧goW (da.map fun x=>(datTok x).map bOf) ⟨{mod0 with types:=mod0.types++ty,hosts:=mod0.hosts++ho,globs:=mod0.globs++gl,first:=fi,most:=mo,fns:=mod0.fns++fn},s6⟩=
  some ⟨{mod0 with types:=mod0.types++ty,hosts:=mod0.hosts++ho,globs:=mod0.globs++gl,first:=fi,most:=mo,fns:=mod0.fns++fn,dat:=mod0.dat++da},s⟩:=
  ⟨_,by rcases hs6 with rfl | rfl<;>(split<;>simp),e7⟩
 have e8:=goW_sec (fun x=>(expTok x).map bOf) 8 (fun m x=> {m with exps:=m.exps++ [x]}) (fun x=>x.n.data.toList≠ []∧(∀c∈x.n.data.toList,33≤c.toNat∧c.toNat≤126)∧Rd.B63 x.f) (by decide)
  (fun x hx=>(ln_exp ⟨hx.1,hx.2.1⟩).skip) (fun m st x hx ho=>st_exp hx.2.2 ho) ex {mod0 with types:=mod0.types++ty,hosts:=mod0.hosts++ho,globs:=mod0.globs++gl,first:=fi,most:=mo,fns:=mod0.fns++fn,dat:=mod0.dat++da} s7 hex (by rcases hs7 with rfl | rfl | rfl<;>decide)
 rw [fold_exps] at e8
 refine⟨if ex= [] then s7 else 8,by split<;>omega,?_⟩
 unfold toks headTok bodyTok memTok
 simp only [List.map_append,List.map_cons,List.map_nil,List.map_map,List.cons_append,List.append_assoc]
 rw [goW_one (show skipW [bOf flagonT]=false from tok_none.skip) e0]
 rw [show((fun p:Bool×List (List UInt8)=>p.2.map bOf)∘fun x=>(false,typeTok x))=fun x=>(typeTok x).map bOf from rfl,goW_app _ _ _ _ e2]
 rw [show((fun p:Bool×List (List UInt8)=>p.2.map bOf)∘fun x=>(false,hostTok x))=fun x=>(hostTok x).map bOf from rfl,goW_app _ _ _ _ e3]
 rw [show((fun p:Bool×List (List UInt8)=>p.2.map bOf)∘fun x=>(false,globTok x))=fun x=>(globTok x).map bOf from rfl,goW_app _ _ _ _ e4]
 rw [goW_one (show skipW [bOf memoryT,bOf (Lib.itoa fi),bOf (Lib.itoa mo)]=false from(ln_mem fi mo).skip) e5,List.nil_append,goW_app _ _ _ _ e6]
 rw [show((fun p:Bool×List (List UInt8)=>p.2.map bOf)∘fun x=>(false,datTok x))=fun x=>(datTok x).map bOf from rfl,goW_app _ _ _ _ e7]
 rw [show((fun p:Bool×List (List UInt8)=>p.2.map bOf)∘fun x=>(false,expTok x))=fun x=>(expTok x).map bOf from rfl,e8]
 rfl
theorem print_parse {m:ModV} (hE:modE m=0) (hN:ModNum m) (hs:(printT m).length≤1048576):parseV (bOf (printT m))=(m,0,0):=by
 have hF:=fine_of hE hN
 obtain⟨st,hst,hg⟩:=goW_toks hF
 have hok:=lines_ok hF
 have hln: ∀p∈toks m,Spaced (lnT p) p.2∧(∀c∈lnT p,c.toNat<128∧c≠10):=by
  intro p hp
  obtain⟨hw,_⟩:=hok p hp
  have h2: ∀c∈(if p.1=true then [32,32] else([]:List UInt8)),c=32:=by
   intro c hc
   split at hc
   ·simpa using hc
   ·cases hc
  constructor
  ·exact spaced_lead (fun c hc=>by rw [h2 c hc];decide) (spaced_join fun w hw'=>(hw w hw').word)
  ·intro c hc
   have hj: ∀l:List (List UInt8),(∀w∈l,TokT w)→ ∀c∈Lib.join l [32],c=32∨(33≤c.toNat∧c.toNat≤126):=by
    intro l hl c hc
    cases l with
    | nil=>cases hc
    | cons a l=>
     rw [Lib.join_cons] at hc
     rcases List.mem_append.1 hc with hc | hc
     ·exact .inr ((hl a (List.mem_cons_self ..)).2 c hc)
     ·unfold Lib.joinTail at hc
      obtain⟨w,hw,hc⟩:=List.mem_flatten.1 hc
      obtain⟨v,hv,rfl⟩:=List.mem_map.1 hw
      rcases List.mem_append.1 hc with hc | hc
      ·exact .inl (by simpa using hc)
      ·exact .inr ((hl v (List.mem_cons_of_mem _ hv)).2 c hc)
   have:c=32∨(33≤c.toNat∧c.toNat≤126):=(List.mem_append.1 hc).elim (fun h=> .inl (h2 c h)) (hj p.2 hw c)
   rcases this with rfl | h
   ·exact⟨by decide,by decide⟩
   ·exact⟨by omega,fun e=>by subst e;exact absurd h.1 (by decide)⟩
 have hp:printT m=((toks m).map lnT).flatMap (· ++ [10]):=by rw [printT_toks,List.flatMap_map]
 refine parseV_ok (st:=st) (by show(List.toArray _).size≤_;rw [List.size_toArray];exact hs) ?_ hst hE
 rw [hp,linesV_flat _ (fun l hl c hc=>by obtain⟨p,hp,rfl⟩:=List.mem_map.1 hl;exact((hln p hp).2 c hc).2),List.map_append,List.map_append,List.map_map,List.map_map]
 have e1:(toks m).map (wdsV∘bOf∘lnT)=(toks m).map (fun p=>p.2.map bOf):=
  List.map_congr_left fun p hp=>wds_line (fun c hc=>((hln p hp).2 c hc).1) (hln p hp).1
 have e2:wdsV (bOf [])= []:=by kernel_rfl
 rw [show(wdsV∘bOf)∘lnT=wdsV∘bOf∘lnT from rfl,e1,goW_app _ _ _ _ hg]
 show goW [wdsV (bOf [])] _=_
 rw [e2]
 rfl
end Go.Proofs.YtebgikflpgcnlaaGreatDoor
