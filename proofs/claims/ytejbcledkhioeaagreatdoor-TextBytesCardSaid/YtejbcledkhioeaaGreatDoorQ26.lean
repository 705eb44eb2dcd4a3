/- Part 26 of the proof: BldA WireD DecC DecF -/
import Derived.Lib.Builder
import Derived.Lib.FrozenHead
import Derived.Test.YtejbcledkhioeaaGreatDoorQ08
import Derived.Test.YtejbcledkhioeaaGreatDoorQ10
import Derived.Test.YtejbcledkhioeaaGreatDoorQ19
namespace Go.Proofs.YtejbcledkhioeaaGreatDoor
set_option linter.unusedVariables false
set_option linter.unusedSimpArgs false
set_option maxRecDepth 100000
set_option maxHeartbeats 4000000
open Go.RowKit Tryz
structure Bld (B b:Nat) (w:World) (l:List UInt8) (p v:Value):Prop where
 blk:AL w b 71 [p,v]
 ptr:p= .pointer none∨p= .pointer (some ⟨b,0,none⟩)
 own:w.ownsRow B 5 1 v l.length (l.map bv)
 low:B≤b
theorem Bld.ne {B b:Nat} {w:World} {l:List UInt8} {p v:Value} (h:Bld B b w l p v):v.ownBlock≠some b:=by
 intro hv
 rcases h.own.2 with⟨rfl,_⟩ | ⟨g,cap,cur,rfl,_,hg,_⟩
 ·cases hv
 ·have e:g=b:=by injection hv
  subst e
  have:=h.blk
  unfold AL at this
  rw [this] at hg
  injection hg with hg
  injection hg with _ hg
  exact absurd hg (by decide)
theorem Bld.below {B b:Nat} {w w':World} {l:List UInt8} {p v:Value} (h:Bld B b w l p v) (hb:Below w.heap.size w w'):Bld B b w' l p v:=
 ⟨h.blk.below hb h.blk.lt,h.ptr,BI h.own hb,h.low⟩
def Mg (B b:Nat) (w:World) (l:List UInt8):Prop:= ∃p v,Bld B b w l p v
theorem Mg.below {B b:Nat} {w w':World} {l:List UInt8} (h:Mg B b w l) (hb:Below w.heap.size w w'):Mg B b w' l:=by
 obtain⟨p,v,h⟩:=h
 exact⟨p,v,h.below hb⟩
theorem Mg.new (w:World):Mg w.heap.size w.heap.size (w.alloc (.cells #[.pointer none,.slice none 0 0] 71)) []:=
 ⟨_,_,AL.new w 71 [.pointer none,.slice none 0 0],.inl rfl,World.ownsRow_nil _ _ _ _,Nat.le_refl _⟩
theorem Xk (l:List UInt8):Lib.byteCells l=l.map bv:=rfl
theorem oW:(prog.info? 71).map (·.size)=some 2:=by kernel_rfl
theorem jd (b:Nat) (p v:Value) (w:World) (h:AL w b 71 [p,v]) (hp:p= .pointer none∨p= .pointer (some ⟨b,0,none⟩)):
 Calls prog 73 #[.pointer (some ⟨b,0,none⟩)] w fun e w'=>e= .returned (.tuple #[])∧AL w' b 71 [.pointer (some ⟨b,0,none⟩),v]∧Keep (fun k=>k≠b) w w':=by
 obtain⟨j,hj,hjs⟩:=Option.map_eq_some_iff.1 oW
 rcases hp with rfl | rfl
 ·have h0:=h.q 0 rfl
  have hfz:=h.frozen 0
  have hsh:w.shape? b=some (71,2):=by unfold World.shape?;rw [show w.heap[b]?=_ from h];rfl
  have H:=AA h
  clear h
  go_enter func73,ntmps73
  go_wp2
  rw [Lib.run_to_unsafe w ⟨b,0,none⟩ underlying69 underlying175 hj (by rw [hjs];decide) hsh (Nat.zero_lt_succ 1)]
  simp only [Result.andThen]
  rw [Oper.upon_value]
  go_wp2
  rw [run_callFunc_extern func126 (by kernel_rfl) (by kernel_rfl) (by kernel_rfl) (e:=Extern.AbiNoEscape.same) (by kernel_rfl)]
  rw [Lib.run_noEscape]
  simp only [Result.andThen]
  rw [Oper.upon_value]
  go_wp2
  rw [Lib.run_from_unsafe w ⟨b,0,none⟩ underlying175 underlying69 hj hsh (by kernel_rfl)]
  simp only [Result.andThen]
  rw [Oper.upon_value]
  go_wp2
  go_end0
  exact⟨rfl,H.out.set 0 _,(Keep.refl _ w).setCell (p:=⟨b,0,none⟩) (by simp) _⟩
 ·have h0:=h.q 0 rfl
  have H:=AA h
  clear h
  go_enter func73,ntmps73
  go_wp2
  rw [Lib.run_neq_ptr_same w _ underlying69 hj]
  go_wp2
  go_end0
  exact⟨rfl,H.out,Keep.refl _ _⟩
theorem VK {w:World} {base:Nat} {e:TypeId} {v:Value} {n:Nat} {xs:List Value} (h:w.ownsRow base e 1 v n xs): ∃A c,v= .slice A n c:=by
 rcases h.2 with⟨rfl,rfl⟩ | ⟨g,cap,cur,rfl,_⟩
 ·exact⟨_,_,rfl⟩
 ·exact⟨_,_,rfl⟩
def TQ (b:Nat) (w w':World):Prop:= ∀k,k<w.heap.size→k≠b→(∀cur,w.heap[k]?≠some (.cells cur 5))→w'.heap[k]?=w.heap[k]?
theorem TQ.blk {b g:Nat} {w w':World} {t:TypeId} {xs:List Value} (h:TQ b w w') (hb:AL w g t xs) (hg:g≠b) (ht:t≠5):AL w' g t xs:=by
 refine(h g hb.lt hg (fun cur e=>ht ?_)).trans hb
 have:w.heap[g]?=some (.cells xs.toArray t):=hb
 rw [this] at e
 injection e with e
 injection e with _ e
theorem TQ.below {b:Nat} {w w' w'':World} (h:TQ b w' w'') (hb:Below w.heap.size w w'):TQ b w w'':=fun k hk hkb hn=>(h k (Nat.lt_of_lt_of_le hk hb.size) hkb (fun cur e=>hn cur ((hb.block k hk).symm.trans e))).trans (hb.block k hk)
theorem Tc (B b:Nat) (l:List UInt8) (s:ByteArray) (w:World) (h:Mg B b w l) (hlen:l.length+s.size≤140737488355328) (hB:B≤w.heap.size):
 Calls prog 29 #[.pointer (some ⟨b,0,none⟩),.string s] w fun e w'=>e= .returned (.tuple #[.int .i64 s.size,.nilIface])∧Mg B b w' (l++s.data.toList)∧Below B w w'∧TQ b w w':=by
 obtain⟨p,v,h⟩:=h
 obtain⟨i0,hi,hz,hs',hby⟩:=info_parts Jl
 have hne:=h.ne
 have HC:=AA (jd b p v w h.blk h.ptr)
 have HO:=AA h.own;have HL:=AA h.low;have qm:=AA hne
 clear h hne
 go_enter func29,ntmps29
 go_wp2_with fail
 refine HC.out.mono ?_
 rintro e w1 ⟨rfl,hb1,hk1⟩
 clear HC
 have HB1:=AA hb1
 have fC:=AA hk1
 have ho1:=BD HO.out hk1 (fun k hk e=>qm.out (by rw [hk,e]))
 have HO1:=AA ho1
 have hsz:=hk1.size
 have c1:=hb1.q 1 rfl
 clear hb1 hk1 ho1 HO
 obtain⟨A,c,rfl⟩:=VK HO1.out
 go_wp2_with (at_builtin;refine Lib.wpList_append_own_string _ rfl _ _ 41 9 rfl B 5 i0 underlying41 underlying9 hi hz hs' hby _ _ _ rfl HO1.out s rfl ?c3 ?c4 ?c5 ?_)
 case c3=>unfold maxLen;omega
 case c4=>omega
 case c5=>omega
 intro v' w2 hown' hgrow _
 obtain⟨A',c',rfl⟩:=VK hown'
 have hb2:AL w2 b 71 [.pointer (some ⟨b,0,none⟩),.slice A l.length c]:=(hgrow.block b HB1.out.lt (fun e=>qm.out e.symm)).trans HB1.out
 have d0:=hb2.q 0 rfl
 have d1:=hb2.q 1 rfl
 have f1:=hb2.frozen 1
 have HB2:=AA hb2;have kS:=AA hown';have HG:=AA hgrow
 clear hb2 hown' hgrow
 go_wp2
 go_ret2
 have hbl:Below B w w2:=((fC.out.mono (K':=fun k=>k<B) (fun k hk=>by have:=HL.out;omega)).grown HG.out (by intro k hk e;have:=(HO1.out.lt k hk).1;omega)).below hB (fun k h=>h)
 refine⟨rfl,⟨_,_,HB2.out.set 1 _,.inr rfl,?_,HL.out⟩,hbl.setCell (p:=⟨b,1,none⟩) HL.out _,fun k hk hkb hnu=> ?_⟩
 rotate_left
 ·have k1:w1.heap[k]?=w.heap[k]?:=fC.out.block k hk hkb
  have k2:w2.heap[k]?=w1.heap[k]?:=HG.out.block k (Nat.lt_of_lt_of_le hk fC.out.size) (fun e=>by
   rcases HO1.out.2 with⟨hv,_⟩ | ⟨g,cap,cur,hv,_,hg,_⟩
   ·rw [hv] at e;cases e
   ·rw [hv] at e
    have e:k=g:=by injection e
    subst e
    exact hnu _ (k1.symm.trans hg))
  have k3:=((Keep.refl (fun j=>j≠b) w2).setCell (p:=⟨b,1,none⟩) (fun e=>e rfl) (.slice A' (l.length+s.size) c')).block k (by rw [←Nat.not_le];intro h9;have:=fC.out.size;have:=HG.out.size;omega) hkb
  exact k3.trans (k2.trans k1)
 have ho:w2.ownsRow B 5 1 (.slice A' (l.length+s.size) c') (l++s.data.toList).length ((l++s.data.toList).map bv):=by
  have h1:(l++s.data.toList).length=l.length+s.size:=by rw [List.length_append];rfl
  rw [h1,List.map_append]
  exact kS.out
 refine IU ho ?_ _
 intro e
 rcases ho.2 with⟨hv,_⟩ | ⟨g,cap,cur,hv,_,hg,_⟩
 ·rw [hv] at e;cases e
 ·rw [hv] at e
  have e:g=b:=by injection e
  subst e
  have:=HB2.out
  unfold AL at this
  rw [this] at hg
  injection hg with hg
  injection hg with _ hg
  exact absurd hg (by decide)
theorem V5 (A:Option Addr) (n cap B:Nat) (p most:Int) (w:World) (l:List UInt8) (hn:n=l.length) (hcap:n≤cap) (h47:n≤140737488351232) (hr:Row w B A (l.map bv)) (hm:most<9223372036854775808):
 Calls prog 155 #[.slice A n cap,.int .i64 p,.int .i64 most] w fun e w'=>w=w'∧e= .returned (.tuple #[.string ⟨(txt l p most).1.toArray⟩,.int .i64 (txt l p most).2.1,.int .i64 (txt l p most).2.2]):=by
 have HC:=Lib.hid (Xv A n cap B p most 13 w l hn h47 hr hm)
 have hf:=gN l p most 13 hm (by omega)
 unfold txt
 generalize cnt l p most 13=r at*
 obtain⟨v,nx,e⟩:=r
 simp only at HC hf⊢
 obtain⟨f1,f2,f3⟩:=hf
 have Hr:=Lib.hid hr;clear hr
 have Hn:=Lib.hid hn;clear hn
 rw [←Hn.out] at f2⊢
 by_cases he:e=0
 ·subst he
  rw [if_neg (by omega)]
  by_cases hlt:n<v+nx
  ·rw [if_pos hlt]
   go_enter func155,ntmps155
   go_wp2_with (go_at_call 196;refine HC.out.mono ?_;rintro e w' ⟨rfl,rfl⟩)
   go_ret3
   exact⟨rfl,dJ rfl rfl rfl⟩
  ·rw [if_neg hlt]
   have hsub:v=((l.drop nx).take v).length:=by rw [List.length_take,List.length_drop,←Hn.out];omega
   have Hs:=Lib.hid hsub;clear hsub
   by_cases hv:v=0
   ·subst hv
    have hcv:=fun(w:World) (A:Option Addr) (c:Nat)=>Jv (P:=prog) 41 5 9 underlying41 underlying5 underlying9 w 0 A 0 c [] rfl (Row.nil _ _ _)
    go_enter func155,ntmps155
    go_wp2_with (go_at_call 196;refine HC.out.mono ?_;rintro e w' ⟨rfl,rfl⟩)
    all_goals
     go_ret3
     exact⟨rfl,dJ (by simp) (by simp) rfl⟩
   ·have hne: ¬cap=nx:=by omega
    have hcv:=Jv (P:=prog) 41 5 9 underlying41 underlying5 underlying9 w B (Option.map (fun x=>x.add nx) A) v (cap-nx) ((l.drop nx).take v) Hs.out
     (by have:=(Hr.out.drop nx).cut v;rw [List.map_take,List.map_drop];exact this)
    go_enter func155,ntmps155
    go_wp2_with (go_at_call 196;refine HC.out.mono ?_;rintro e w' ⟨rfl,rfl⟩)
    go_ret3
    exact⟨rfl,dJ rfl (by simp) rfl⟩
 ·have e0:((e:Int) !=0)=true:=by simp;omega
  rw [if_pos he]
  go_enter func155,ntmps155
  go_wp2_with (go_at_call 196;refine HC.out.mono ?_;rintro e w' ⟨rfl,rfl⟩)
  go_ret3
  exact⟨rfl,dJ rfl rfl rfl⟩
def Zn (e:Ending):Prop:= ∃en at_:Int,en≠0∧e= .panicked (thrown en at_)
theorem Ends.OW {err at_:Int} {e:Ending} (h:Ends err at_ e):(err=0∧e= .returned (.tuple #[]))∨Zn e:=by
 rcases h with h | ⟨h,he⟩
 ·exact .inl h
 ·exact .inr ⟨_,_,h,he⟩
def Rg (W:World) (rg og:Nat) (all:Int) (A:Option Addr) (n c:Nat) (p:Int):Prop:=AL W rg 121 [.pointer (some ⟨og,0,none⟩),.int .i64 all,.slice A n c,.int .i64 p]
structure UJ (W:World) (B:Nat) (l:List UInt8) (A:Option Addr) (n c:Nat):Prop where
 len:n=l.length
 le:l.length≤65536
 cap:n≤c
 row:Row W B A (l.map bv)
theorem Sg {l:List UInt8} {A:Option Addr} {n c B rg og:Nat} {all:Int} {p:Nat} {w:World} {N:FuncId} {cap:Array Value} (hI:UJ w B l A n c) (hb:Rg w rg og all A n c p)
 (hN: ∀args W,(callFunc N args).run prog W= .ok (.enter N args) W) (K:Nat→Prop) (P:Nat→World→Prop)
 (hf: ∀u,u<18446744073709551616→Calls prog N (#[.int .u64 (u:Int),.int .i64 p]++cap) w.drew (fun e w'=>(e= .returned (.tuple #[])∧P u w')∨(Zn e∧Keep K w w')))
 (hP: ∀u w',P u w'→ ∃all',Rg w' rg og all' A n c p):
 Calls prog 99 #[.pointer (some ⟨rg,0,none⟩),.func (.func N) #[] cap] w (fun e w'=>(∃u q w1,Ef l p=(u,q,0)∧P u w1∧w'=w1.setCell ⟨rg,3,none⟩ (.int .i64 (q:Int))∧e= .returned (.int .i64 (wrap64 (u:Int))))∨(Zn e∧Keep K w w')):=by
 have HC:=AA (fun W (hr:Row W B A (l.map bv))=>KH A n c B p W l hI.len (by have:=hI.le;have:=hI.len;omega) hr)
 have HR:=AA hI.row;have HB:=AA hb;have HF:=AA hf;have HP:=AA hP
 have c2:w.cell? ⟨rg,2,none⟩=some (.slice A n c):=AL.cell hb 2
 have c3:w.cell? ⟨rg,3,none⟩=some (.int .i64 p):=AL.cell hb 3
 have HU:Hid ((Ef l p).1<18446744073709551616):=AA (IG l p).1
 have HUE:Hid (∀u q,Ef l p=(u,q,0)→(u,q)=((Ef l p).1,(Ef l p).2.1)):=AA (fun u q h=>by rw [h])
 clear hI hb hf hP
 generalize huv:Ef l p=uv at HC HU HUE⊢
 obtain⟨u,q,en⟩:=uv
 have Huv:=AA huv;clear huv
 simp only at HC HU
 go_enter func99,ntmps99
 go_wp2_with fail
 go_region_held3 (fun w'=>w'.cell? ⟨rg,2,none⟩=some (.slice A n c)∧w'.cell? ⟨rg,3,none⟩=some (.int .i64 p)) (first | exact⟨c2,c3⟩)
  (first | (go_at_call 150;refine(HC.out w.drew HR.out).mono ?_;rintro e w' ⟨rfl,rfl⟩))
 by_cases hen:en=0
 case neg=>
  have hd:((en:Int)==0)=false:=beq_eq_false_iff_ne.2 (by omega)
  have Z9:Hid ((en:Int)≠0):=AA (by omega)
  clear hen
  go_wp2_with fail
  refine(Ah _ _ _).mono ?_
  rintro e w' ⟨rfl,rfl⟩
  go_wp2_with fail
  exact⟨rfl,.inr ⟨⟨_,_,Z9.out,rfl⟩,(Keep.refl _ _).drew⟩⟩
 have hd:((en:Int)==0)=true:=beq_iff_eq.2 (by omega)
 have Z9:=AA hen
 clear hen
 go_wp2_with fail
 refine(Af _ _ _).mono ?_
 rintro e w' ⟨rfl,rfl⟩
 go_wp2_with fail
 refine(HF.out u HU.out).mono ?_
 rintro e w' (⟨rfl,hp⟩ | ⟨⟨e1,a1,h1,rfl⟩,hk⟩)
 case inr=>
  have H1:=AA h1;have HK:=AA hk;clear h1 hk
  go_wp2_with fail
  exact⟨rfl,.inr ⟨⟨_,_,H1.out,rfl⟩,HK.out⟩⟩
 obtain⟨all',hb'⟩:=HP.out u w' hp
 have NT:=AA hp;clear hp
 have f3:=AL.frozen hb' 3
 have d3:w'.cell? ⟨rg,3,none⟩=some (.int .i64 p):=AL.cell hb' 3
 clear hb'
 go_wp2_with fail
 go_ret
 refine .inl ⟨u,q,w',?_,NT.out,rfl,rfl⟩
 rw [Z9.out]
def kX (l:List UInt8) (w:World) (rg og:Nat) (all:Int) (A:Option Addr) (n c p:Nat) (R:Value→List UInt8→Prop) (e:Ending) (w':World):Prop:=
 Keep (fun k=>k≠rg) w w'∧((∃v bs q,e= .returned v∧R v bs∧K_ l p bs q∧Rg w' rg og all A n c q)∨Zn e)
section
variable {l:List UInt8} {A:Option Addr} {n c B rg og:Nat} {all:Int} {p:Nat} {w:World}
theorem UJ.keep {W W':World} {rg:Nat} (h:UJ W B l A n c) (hk:Keep (fun k=>k≠rg) W W') (hB:B≤rg) (hlt:rg<W.heap.size):UJ W' B l A n c:=
 ⟨h.len,h.le,h.cap,h.row.below (hk.below (by omega) (fun k hk=>by omega))⟩
theorem Rg.Ej (h:Rg w rg og all A n c p) {W:World} (hb:Below w.heap.size w W):Rg W rg og all A n c p:=AL.keep h (Keep.Aq (K:=fun _=>True) hb) trivial
theorem Rg.go (h:Rg w rg og all A n c p) (q:Nat):Rg (w.setCell ⟨rg,3,none⟩ (.int .i64 (q:Int))) rg og all A n c q:=AL.set h 3 _
theorem O_ {N:FuncId} {cap:Array Value} (hI:UJ w B l A n c) (hb:Rg w rg og all A n c p) (hN: ∀args W,(callFunc N args).run prog W= .ok (.enter N args) W) (Q:Nat→Prop) (hQ: ∀u,Q u→u<9223372036854775808)
 (hf: ∀u,u<18446744073709551616→Calls prog N (#[.int .u64 (u:Int),.int .i64 p]++cap) w.drew (fun e w'=>w'=w.drew∧((e= .returned (.tuple #[])∧Q u)∨Zn e))):
 Calls prog 99 #[.pointer (some ⟨rg,0,none⟩),.func (.func N) #[] cap] w (kX l w rg og all A n c p fun v bs=> ∃u:Nat,v= .int .i64 u∧bs=enc u∧Q u):=by
 refine(Sg hI hb hN (fun k=>k≠rg) (fun u w'=>w'=w.drew∧Q u) (fun u hu=>(hf u hu).mono ?_) (fun u w' h=>⟨all,by rw [h.1];exact hb⟩)).mono ?_
 ·rintro e w' ⟨rfl,⟨h1,h2⟩ | h⟩
  ·exact .inl ⟨h1,rfl,h2⟩
  ·exact .inr ⟨h,(Keep.refl _ _).drew⟩
 ·rintro e w' (⟨u,q,w1,hu,⟨rfl,h2⟩,rfl,rfl⟩ | ⟨h,hk⟩)
  ·refine⟨((Keep.refl _ _).drew).setCell (fun h=>h rfl) _,.inl ⟨_,_,q,rfl,⟨u,?_,rfl,h2⟩,NP hu,?_⟩⟩
   ·rw [show wrap64 (u:Int)=u by have:=hQ u h2;unfold wrap64;omega]
   ·exact Rg.go (w:=w.drew) hb q
  ·exact⟨hk,.inr h⟩
theorem vB (args:Array Value) (W:World):(callFunc 151 args).run prog W= .ok (.enter 151 args) W:=by kernel_rfl
theorem qB (args:Array Value) (W:World):(callFunc 152 args).run prog W= .ok (.enter 152 args) W:=by kernel_rfl
theorem N9 (most e0:Int) (w:World):Calls prog 100 #[.int .i64 most,.int .i64 e0] w (fun e w'=>w'=(w.alloc (.cells #[.int .i64 most] 3)).alloc (.cells #[.int .i64 e0] 33)∧e= .returned (.func (.func 151) #[] #[.pointer (some ⟨w.heap.size,0,none⟩),.pointer (some ⟨w.heap.size+1,0,none⟩)])):=by
 go_enter func100,ntmps100
 go_wp2_with fail
 go_ret
 exact⟨rfl,rfl⟩
theorem qC (u:Nat) (hu:u<18446744073709551616) (pl most e0:Int) (he:e0≠0) (hm:0≤most) (hm2:most<9223372036854775808) (a b:Addr) (W:World) (ha:W.cell? a=some (.int .i64 most)) (hb:W.cell? b=some (.int .i64 e0)):
 Calls prog 151 #[.int .u64 (u:Int),.int .i64 pl,.pointer (some a),.pointer (some b)] W (fun e w'=>w'=W∧((e= .returned (.tuple #[])∧(u:Int)≤most)∨Zn e)):=by
 have hw:IntKind.u64.wrap most=most:=by rw [IntKind.wrap_u64];omega
 have HE:=AA he;clear he
 go_enter func151,ntmps151
 go_wp2_with fail
 refine(DT _ e0 pl HE.out _).mono ?_
 rintro e w' ⟨rfl,⟨h0,rfl⟩ | ⟨h0,rfl⟩⟩
 ·have h1:=of_decide_eq_true (Bw HE.out h0)
  have H1:=AA h1;clear h0 h1
  go_wp2_with fail
  go_end0
  exact⟨rfl,.inl ⟨rfl,H1.out⟩⟩
 ·have H1:=AA h0;clear h0
  go_wp2_with fail
  exact⟨rfl,rfl,.inr ⟨_,_,H1.out,rfl⟩⟩
theorem Lx {a b:Addr} {most e0:Int} (hI:UJ w B l A n c) (hb:Rg w rg og all A n c p) (he:e0≠0) (hm:0≤most) (hm2:most<9223372036854775808) (h1:w.cell? a=some (.int .i64 most)) (h2:w.cell? b=some (.int .i64 e0)):
 Calls prog 99 #[.pointer (some ⟨rg,0,none⟩),.func (.func 151) #[] #[.pointer (some a),.pointer (some b)]] w (kX l w rg og all A n c p fun v bs=> ∃u:Nat,v= .int .i64 u∧bs=enc u∧(u:Int)≤most):=
 O_ hI hb vB (fun u=>(u:Int)≤most) (fun u h=>by omega) (fun u hu=>qC u hu p most e0 he hm hm2 a b w.drew h1 h2)
theorem j6 (u:Nat) (hu:u<18446744073709551616) (pl:Int) (below:Nat) (hm2:below<9223372036854775808) (a:Addr) (W:World) (ha:W.cell? a=some (.int .i64 below)):
 Calls prog 152 #[.int .u64 (u:Int),.int .i64 pl,.pointer (some a)] W (fun e w'=>w'=W∧((e= .returned (.tuple #[])∧u<below)∨Zn e)):=by
 have hw:IntKind.u64.wrap (below:Int)=below:=by rw [IntKind.wrap_u64];omega
 go_enter func152,ntmps152
 go_wp2_with fail
 refine(DT _ 30 pl (by decide) _).mono ?_
 rintro e w' ⟨rfl,⟨h0,rfl⟩ | ⟨h0,rfl⟩⟩
 ·have h1:=of_decide_eq_true (Bw (by decide) h0)
  have H1:Hid (u<below):=AA (by omega);clear h0 h1
  go_wp2_with fail
  go_end0
  exact⟨rfl,.inl ⟨rfl,H1.out⟩⟩
 ·have H1:=AA h0;clear h0
  go_wp2_with fail
  exact⟨rfl,rfl,.inr ⟨_,_,H1.out,rfl⟩⟩
theorem kX.from {w0:World} {R:Value→List UInt8→Prop} {e:Ending} {w':World} (hk:Keep (fun k=>k≠rg) w0 w) (h:kX l w rg og all A n c p R e w'):kX l w0 rg og all A n c p R e w':=⟨hk.trans h.1,h.2⟩
theorem NQ (below:Nat) (hm2:below<9223372036854775808) (hI:UJ w B l A n c) (hb:Rg w rg og all A n c p) (hB:B≤rg):
 Calls prog 103 #[.pointer (some ⟨rg,0,none⟩),.int .i64 below] w (kX l w rg og all A n c p fun v bs=> ∃u:Nat,v= .int .i64 u∧bs=enc u∧u<below):=by
 have HI:=AA hI;have HB:=AA hb;have hlt:=AL.lt hb;clear hI hb
 go_enter func103,ntmps103
 go_wp2_with fail
 generalize hw:w.alloc _=w1
 have hb1:Below w.heap.size w w1:=by rw [←hw];exact(Below.refl _ _).alloc (Nat.le_refl _) _
 have hc:w1.cell? ⟨w.heap.size,0,none⟩=some (.int .i64 below):=by rw [←hw];exact(AL.new w 3 [.int .i64 below]).cell 0
 clear hw
 have HK:Hid (Keep (fun k=>k≠rg) w w1):=AA (Keep.Aq hb1)
 refine(O_ (cap:= #[.pointer (some ⟨w.heap.size,0,none⟩)]) (HI.out.keep HK.out hB hlt) (HB.out.Ej hb1) qB (fun u=>u<below) (fun u h=>by omega) (fun u hu=>j6 u hu p below hm2 _ w1.drew hc)).mono ?_
 rintro e w' ⟨hk,⟨v,bs,q,rfl,h⟩ | h⟩
 ·have H:=AA h;have HKK:=AA hk;clear h hk hb1 hc
  go_wp2_with fail
  go_ret
  exact⟨HK.out.trans HKK.out,.inl ⟨v,bs,q,rfl,H.out⟩⟩
 ·obtain⟨e1,a1,h1,rfl⟩:=h
  have H1:=AA h1;have HKK:=AA hk;clear h1 hk hb1 hc
  go_wp2_with fail
  exact⟨rfl,HK.out.trans HKK.out,.inr ⟨_,_,H1.out,rfl⟩⟩
end
def Ri (W:World) (ri:Nat) (A:Option Addr) (n c p:Nat) (er:Int):Prop:=AL W ri 241 [.slice A n c,.int .i64 p,.int .i64 er]
section
variable {l:List UInt8} {A:Option Addr} {n c B ri:Nat} {p:Nat} {w:World}
theorem Ri.Ej {er:Int} (h:Ri w ri A n c p er) {W:World} (hb:Below w.heap.size w W):Ri W ri A n c p er:=AL.keep h (Keep.Aq (K:=fun _=>True) hb) trivial
theorem V8 (least most:Nat) {er:Int} (he:er≠0) (hb:Ri w ri A n c p er):
 Calls prog 193 #[.pointer (some ⟨ri,0,none⟩),.int .u64 (least:Int),.int .u64 (most:Int)] w (fun e w'=>w'=w∧e= .returned (.int .u64 0)):=by
 have c2:w.cell? ⟨ri,2,none⟩=some (.int .i64 er):=AL.cell hb 2
 have hd:(er !=0)=true:=bne_iff_ne.2 he
 clear hb he
 go_enter func193,ntmps193
 go_wp2_with fail
 go_ret
 exact⟨rfl,rfl⟩
theorem Sn (least most:Nat) (hI:UJ w B l A n c) (hb:Ri w ri A n c p 0):
 Calls prog 193 #[.pointer (some ⟨ri,0,none⟩),.int .u64 (least:Int),.int .u64 (most:Int)] w (fun e w'=>Keep (fun k=>k≠ri) w w'∧((∃v q:Nat,e= .returned (.int .u64 (v:Int))∧least≤v∧v≤most∧K_ l p (enc v) q∧Ri w' ri A n c q 0)∨(∃er:Int,er≠0∧e= .returned (.int .u64 0)∧Ri w' ri A n c p er))):=by
 have HC:=AA (fun W (hr:Row W B A (l.map bv))=>KH A n c B p W l hI.len (by have:=hI.le;have:=hI.len;omega) hr)
 have HR:=AA hI.row;have HB:=AA hb
 have c0:w.cell? ⟨ri,0,none⟩=some (.slice A n c):=AL.cell hb 0
 have c1:w.cell? ⟨ri,1,none⟩=some (.int .i64 p):=AL.cell hb 1
 have c2:w.cell? ⟨ri,2,none⟩=some (.int .i64 0):=AL.cell hb 2
 have f1:=AL.frozen hb 1
 have f2:=AL.frozen hb 2
 have HU:Hid ((Ef l p).1<18446744073709551616):=AA (IG l p).1
 clear hI hb
 generalize huv:Ef l p=uv at HC HU
 obtain⟨u,q,en⟩:=uv
 have Huv:=AA huv;clear huv
 simp only at HC HU
 have HE:Hid (∀er:Int,Ri (w.drew.setCell ⟨ri,2,none⟩ (.int .i64 er)) ri A n c p er):=AA (fun er=>AL.set (w:=w.drew) HB.out 2 _)
 have HV:Hid (Ri (w.drew.setCell ⟨ri,1,none⟩ (.int .i64 (q:Int))) ri A n c q 0):=AA (AL.set (w:=w.drew) HB.out 1 _)
 go_enter func193,ntmps193
 go_wp2_with fail
 go_region_held3 (fun w'=>w'.cell? ⟨ri,0,none⟩=some (.slice A n c)∧w'.cell? ⟨ri,1,none⟩=some (.int .i64 p)∧w'.cell? ⟨ri,2,none⟩=some (.int .i64 0)) (first | exact⟨c0,c1,c2⟩)
  (first | (go_at_call 150;refine(HC.out w.drew HR.out).mono ?_;rintro e w' ⟨rfl,rfl⟩))
 by_cases hen:en=0
 case neg=>
  have hd:((en:Int)==0)=false:=beq_eq_false_iff_ne.2 (by omega)
  have hd2:((en:Int) !=0)=true:=bne_iff_ne.2 (by omega)
  have Z9:Hid ((en:Int)≠0):=AA (by omega)
  clear hen
  go_wp2_with fail
  go_ret
  exact⟨((Keep.refl _ _).drew).setCell (fun h=>h rfl) _,.inr ⟨en,Z9.out,rfl,HE.out en⟩⟩
 subst hen
 have hd:(((0:Nat):Int)==0)=true:=rfl
 have hd0:(((0:Nat):Int) !=0)=false:=rfl
 have HA:=AA (NP Huv.out)
 by_cases h1:least≤u
 case neg=>
  have d1:decide (u<least)=true:=decide_eq_true (by omega)
  clear h1
  go_wp2_with fail
  go_ret
  exact⟨((Keep.refl _ _).drew).setCell (fun h=>h rfl) _,.inr ⟨17,by decide,rfl,HE.out 17⟩⟩
 by_cases h2:u≤most
 case neg=>
  have d1:decide (u<least)=false:=decide_eq_false (by omega)
  have d2:decide (most<u)=true:=decide_eq_true (by omega)
  clear h1 h2
  go_wp2_with fail
  go_ret
  exact⟨((Keep.refl _ _).drew).setCell (fun h=>h rfl) _,.inr ⟨17,by decide,rfl,HE.out 17⟩⟩
 have d1:decide (u<least)=false:=decide_eq_false (by omega)
 have d2:decide (most<u)=false:=decide_eq_false (by omega)
 have H1:=AA h1;have H2:=AA h2
 clear h1 h2
 go_wp2_with fail
 go_ret
 exact⟨((Keep.refl _ _).drew).setCell (fun h=>h rfl) _,.inl ⟨u,q,rfl,H1.out,H2.out,HA.out,HV.out⟩⟩
theorem kK (r:XD) (hm:r∈EB) (hI:UJ w B l A n c) (hb:Ri w ri A n c p 0) (hB:B≤ri):
 Calls prog 194 #[.pointer (some ⟨ri,0,none⟩),.agg (opC r)] w (fun e w'=>Keep (fun k=>k≠ri) w w'∧((∃(v:Int) (q:Nat),e= .returned (.int .i64 v)∧(-9223372036854775808≤v∧v<9223372036854775808)∧((Aw r).1≤v∧v≤(Aw r).2)∧K_ l p (enc (folded v)) q∧Ri w' ri A n c q 0)∨(∃(v er:Int) (q:Nat),er≠0∧e= .returned (.int .i64 v)∧Ri w' ri A n c q er))):=by
 have HC:=AA (fun W (hr:Row W B A (l.map bv))=>QI A n c B p W l hI.len (by have:=hI.le;have:=hI.len;omega) hr)
 have HB:=AA hb;have HI:=AA hI
 have hlt:=AL.lt hb
 have HW:=AA (fun(v:Int) W=>Q8 r hm v W)
 have HU:Hid ((Ef l p).1<18446744073709551616):=AA (IG l p).1
 clear hI hb
 generalize huv:Ef l p=uv at HC HU
 obtain⟨u,q,en⟩:=uv
 have Huv:=AA huv;clear huv
 simp only at HC HU
 obtain⟨v,hv⟩: ∃v,v=unfolded u:=⟨_,rfl⟩
 have HV:=AA hv
 rw [←hv] at HC
 clear hv
 have HC4:Hid (∀W,AL W w.heap.size 136 (opC r).toList→(loadVar 136 ⟨w.heap.size,0,none⟩).run prog W= .ok (.agg (opC r)) W):=AA (fun W h=>U3 h)
 unfold opC at*
 go_enter func194,ntmps194
 go_wp2_with fail
 generalize hw1:w.alloc _=w1
 have hb1:Below w.heap.size w w1:=by rw [←hw1];exact(Below.refl _ _).alloc (Nat.le_refl _) _
 have fC:Hid (Keep (fun k=>k≠ri) w w1):=AA (Keep.Aq hb1)
 have uG:Hid (AL w1 w.heap.size 136 (opC r).toList):=by rw [←hw1];exact AA (AL.new w 136 (opC r).toList)
 have HB1:=AA (Ri.Ej HB.out hb1)
 have HR:=AA (HI.out.row.below' hb1 (by omega))
 have c0:w1.cell? ⟨ri,0,none⟩=some (.slice A n c):=AL.cell HB1.out 0
 have c1:w1.cell? ⟨ri,1,none⟩=some (.int .i64 p):=AL.cell HB1.out 1
 have f1:=AL.frozen HB1.out 1
 have f2:=AL.frozen HB1.out 2
 clear hw1 hb1
 go_region_held3 (fun w'=>w'.cell? ⟨ri,0,none⟩=some (.slice A n c)∧w'.cell? ⟨ri,1,none⟩=some (.int .i64 p)) (first | exact⟨c0,c1⟩)
  (first | (go_at_call 106;refine(HC.out w1.drew HR.out).mono ?_;rintro e w' ⟨rfl,rfl⟩))
 have Wv:Hid (AL w1.drew w.heap.size 136 (opC r).toList):=uG
 have HB2:Hid (Ri w1.drew ri A n c p 0):=HB1
 have UE:Hid (Keep (fun k=>k≠ri) w w1.drew):=AA fC.out.drew
 clear uG HB1 fC HR HC c0 c1
 clear f1 f2
 generalize w1.drew=w2 at*
 have f1:=AL.frozen HB2.out 1
 have f2:=AL.frozen HB2.out 2
 have z1:w2.cell? ⟨ri,1,none⟩=some (.int .i64 p):=AL.cell HB2.out 1
 have z2:w2.cell? ⟨ri,2,none⟩=some (.int .i64 0):=AL.cell HB2.out 2
 have HS:Hid (∀er:Int,Ri ((w2.setCell ⟨ri,1,none⟩ (.int .i64 (q:Int))).setCell ⟨ri,2,none⟩ (.int .i64 er)) ri A n c q er):=AA (fun er=>AL.set (AL.set HB2.out 1 _) 2 _)
 have HKS:Hid (∀er:Int,Keep (fun k=>k≠ri) w ((w2.setCell ⟨ri,1,none⟩ (.int .i64 (q:Int))).setCell ⟨ri,2,none⟩ (.int .i64 er))):=AA (fun er=>(UE.out.setCell (fun h=>h rfl) _).setCell (fun h=>h rfl) _)
 have y0:=Wv.out.q 0 rfl
 have y1:=Wv.out.q 1 rfl
 have y2:=Wv.out.q 2 rfl
 have y3:=Wv.out.q 3 rfl
 have y4:=Wv.out.q 4 rfl
 have y5:=Wv.out.q 5 rfl
 by_cases hen:en=0
 case neg=>
  have hd:((en:Int)==0)=false:=beq_eq_false_iff_ne.2 (by omega)
  have Z9:Hid ((en:Int)≠0):=AA (by omega)
  clear hen
  go_wp2_with fail
  go_ret
  exact⟨HKS.out en,.inr ⟨v,en,q,Z9.out,rfl,HS.out en⟩⟩
 subst hen
 have hd:(((0:Nat):Int)==0)=true:=rfl
 have HA:=AA (Zl Huv.out)
 have HVR:=AA (OZ u HU.out)
 go_wp2_with fail
 refine(HW.out v w2).mono ?_
 rintro e w3 ⟨hb3,rfl⟩
 have SQ:Hid (Keep (fun k=>k≠ri) w w3):=AA (UE.out.all hb3)
 have HB3:=AA (Ri.Ej HB2.out hb3)
 clear hb3 f1 f2 y0 y1 y2 y3 y4 y5 HS HKS z1 z2
 have g1:=AL.frozen HB3.out 1
 have g2:=AL.frozen HB3.out 2
 have z1:w3.cell? ⟨ri,1,none⟩=some (.int .i64 p):=AL.cell HB3.out 1
 have z2:w3.cell? ⟨ri,2,none⟩=some (.int .i64 0):=AL.cell HB3.out 2
 have HS:Hid (∀er:Int,Ri ((w3.setCell ⟨ri,1,none⟩ (.int .i64 (q:Int))).setCell ⟨ri,2,none⟩ (.int .i64 er)) ri A n c q er):=AA (fun er=>AL.set (AL.set HB3.out 1 _) 2 _)
 have HKS:Hid (∀er:Int,Keep (fun k=>k≠ri) w ((w3.setCell ⟨ri,1,none⟩ (.int .i64 (q:Int))).setCell ⟨ri,2,none⟩ (.int .i64 er))):=AA (fun er=>(SQ.out.setCell (fun h=>h rfl) _).setCell (fun h=>h rfl) _)
 by_cases hin:(Aw r).1≤v∧v≤(Aw r).2
 ·have OM:=AA hin
  rw [decide_eq_true hin]
  clear hin
  go_wp2_with fail
  go_ret
  exact⟨HKS.out 0,.inl ⟨v,q,rfl,by rw [HV.out];exact HVR.out,OM.out,by rw [HV.out];exact HA.out,HS.out 0⟩⟩
 ·rw [decide_eq_false hin]
  clear hin
  go_wp2_with fail
  go_ret
  exact⟨HKS.out 17,.inr ⟨v,17,q,by decide,rfl,HS.out 17⟩⟩
end
end Go.Proofs.YtejbcledkhioeaaGreatDoor
