/- Part 5 of the proof: Keep Wide BldA TypesA EachA EachL TypesB TypesD TypesE TypesF -/
import Derived.Handy
import Derived.Lib.Builder
import Derived.Lib.FrozenHead
import Derived.Lib.AppendStr
import Derived.Deep.QuietTactic
import Derived.BigQuiet
import Derived.Laws.ResultCell
import Derived.Laws.Rows
import Derived.Test.YtebgikflpgcnlaaGreatDoorP02
import Derived.Test.YtebgikflpgcnlaaGreatDoorP04
namespace Go.Proofs.YtebgikflpgcnlaaGreatDoor
set_option linter.unusedVariables false
set_option linter.unusedSimpArgs false
set_option maxRecDepth 100000
set_option maxHeartbeats 4000000
open Go.RowKit Tryz
structure Keep (K:Nat→Prop) (w w':World):Prop where
 os:w'.os=w.os
 tape:w'.tape=w.tape
 output:w'.output=w.output
 size:w.heap.size≤w'.heap.size
 block: ∀k,k<w.heap.size→K k→w'.heap[k]?=w.heap[k]?
section
variable {K K':Nat→Prop} {w w' w'':World}
theorem Keep.refl (K:Nat→Prop) (w:World):Keep K w w:=⟨rfl,rfl,rfl,Nat.le_refl _,fun _ _ _=>rfl⟩
theorem Keep.trans (h:Keep K w w') (h':Keep K w' w''):Keep K w w'':=
 ⟨h'.os.trans h.os,h'.tape.trans h.tape,h'.output.trans h.output,Nat.le_trans h.size h'.size,fun k hk hK=>(h'.block k (Nat.lt_of_lt_of_le hk h.size) hK).trans (h.block k hk hK)⟩
theorem Keep.mono (h:Keep K w w') (hk: ∀k,K' k→K k):Keep K' w w':=⟨h.os,h.tape,h.output,h.size,fun k h1 h2=>h.block k h1 (hk k h2)⟩
theorem Keep.of_below {B:Nat} (h:Below B w w') (hk: ∀k,K k→k<w.heap.size→k<B):Keep K w w':=⟨h.os,h.tape,h.output,h.size,fun k h1 h2=>h.block k (hk k h2 h1)⟩
theorem Keep.Am (h:Below w.heap.size w w'):Keep K w w':=Keep.of_below h (fun _ _ h=>h)
theorem Keep.below {B:Nat} (h:Keep K w w') (hB:B≤w.heap.size) (hk: ∀k,k<B→K k):Below B w w':=⟨h.os,h.tape,h.output,h.size,fun k h1=>h.block k (by omega) (hk k h1)⟩
theorem Keep.alloc (h:Keep K w w') (o:Obj):Keep K w (w'.alloc o):=h.trans (Keep.Am ((Below.refl _ _).alloc (Nat.le_refl _) o))
theorem Keep.drewN (h:Keep K w w') (n:Nat):Keep K w (w'.drewN n):=⟨h.os,h.tape,h.output,h.size,h.block⟩
theorem Keep.drew (h:Keep K w w'):Keep K w w'.drew:=⟨h.os,h.tape,h.output,h.size,h.block⟩
theorem Keep.setCell (h:Keep K w w') {p:Addr} (hp: ¬K p.block) (u:Value):Keep K w (w'.setCell p u):=
 h.trans ⟨rfl,rfl,rfl,by simp [World.setCell],fun k _ hK=>Below.heap_setCell _ _ _ _ (fun e=>hp (e▸hK))⟩
theorem Keep.grown (h:Keep K w w') {row:Option Nat} (hg:w'.grownBy w'' row) (hr: ∀k,row=some k→ ¬K k):Keep K w w'':=
 h.trans ⟨hg.os,hg.tape,hg.output,hg.size,fun k h1 h2=>hg.block k h1 (fun e=>hr k e.symm h2)⟩
theorem Keep.all (h:Keep K w w') (hb:Below w'.heap.size w' w''):Keep K w w'':=h.trans (Keep.Am hb)
theorem AV.keep {g:Nat} {t:TypeId} {xs:List Value} (hb:AV w g t xs) (h:Keep K w w') (hg:K g):AV w' g t xs:=(h.block g hb.lt hg).trans hb
theorem Me {base size:Nat} {e:TypeId} {v:Value} {n:Nat} {xs:List Value} (ho:w.ownsRow base e size v n xs) (h:Keep K w w') (hg: ∀k,v.ownBlock=some k→K k):w'.ownsRow base e size v n xs:=by
 obtain⟨h1,h2⟩:=ho
 refine⟨h1,?_⟩
 rcases h2 with h2 | ⟨g,cap,cur,rfl,hb,hh,hr⟩
 ·exact .inl h2
 ·have hlt:g<w.heap.size:=(Array.getElem?_eq_some_iff.1 hh).1
  exact .inr ⟨g,cap,cur,rfl,hb,(h.block g hlt (hg g rfl)).trans hh,hr⟩
theorem Rd.Iz {α:Type} {r:Rd α} {lo hi:Nat} {cs:List Value} {x:α} (hr:r.R w lo hi cs x) (h:Keep K w w') (hhi:hi≤w.heap.size) (hk: ∀k,lo≤k→k<hi→K k):r.R w' lo hi cs x:=
 r.keep (fun p h1 h2=>by
  have hb:=h.block p.block (by omega) (hk _ h1 h2)
  simp [World.cell?,hb]) hr
theorem OD {base size:Nat} {e:TypeId} {v:Value} {n:Nat} {xs:List Value} (ho:w.ownsRow base e size v n xs) {p:Addr} (hp:v.ownBlock≠some p.block) (u:Value):(w.setCell p u).ownsRow base e size v n xs:=
 Me (K:=fun k=>k≠p.block) ho ((Keep.refl _ _).setCell (by simp) u) (fun k hk e=>hp (by rw [hk,e]))
end
theorem G8:(prog.info? 5).map (fun i=>(i.zero,i.size,i.bytes))=some (some (.int .u8 0),1,1):=by kernel_rfl
structure Bld (B b:Nat) (w:World) (l:List UInt8) (p v:Value):Prop where
 blk:AV w b 71 [p,v]
 ptr:p= .pointer none∨p= .pointer (some ⟨b,0,none⟩)
 own:w.ownsRow B 5 1 v l.length (l.map bv)
 low:B≤b
theorem Bld.ne {B b:Nat} {w:World} {l:List UInt8} {p v:Value} (h:Bld B b w l p v):v.ownBlock≠some b:=by
 intro hv
 rcases h.own.2 with⟨rfl,_⟩ | ⟨g,cap,cur,rfl,_,hg,_⟩
 ·cases hv
 ·have e:g=b:=by injection hv
  subst e
  have:=h.blk
  unfold AV at this
  rw [this] at hg
  injection hg with hg
  injection hg with _ hg
  exact absurd hg (by decide)
theorem Bld.below {B b:Nat} {w w':World} {l:List UInt8} {p v:Value} (h:Bld B b w l p v) (hb:Below w.heap.size w w'):Bld B b w' l p v:=
 ⟨h.blk.below hb h.blk.lt,h.ptr,CJ h.own hb,h.low⟩
def Ot (B b:Nat) (w:World) (l:List UInt8):Prop:= ∃p v,Bld B b w l p v
theorem Ot.below {B b:Nat} {w w':World} {l:List UInt8} (h:Ot B b w l) (hb:Below w.heap.size w w'):Ot B b w' l:=by
 obtain⟨p,v,h⟩:=h
 exact⟨p,v,h.below hb⟩
theorem Ot.new (w:World):Ot w.heap.size w.heap.size (w.alloc (.cells #[.pointer none,.slice none 0 0] 71)) []:=
 ⟨_,_,AV.new w 71 [.pointer none,.slice none 0 0],.inl rfl,World.ownsRow_nil _ _ _ _,Nat.le_refl _⟩
theorem Z6 (l:List UInt8):Lib.byteCells l=l.map bv:=rfl
theorem vC:(prog.info? 71).map (·.size)=some 2:=by kernel_rfl
theorem oK (b:Nat) (p v:Value) (w:World) (h:AV w b 71 [p,v]) (hp:p= .pointer none∨p= .pointer (some ⟨b,0,none⟩)):
 Calls prog 73 #[.pointer (some ⟨b,0,none⟩)] w fun e w'=>e= .returned (.tuple #[])∧AV w' b 71 [.pointer (some ⟨b,0,none⟩),v]∧Keep (fun k=>k≠b) w w':=by
 obtain⟨j,hj,hjs⟩:=Option.map_eq_some_iff.1 vC
 rcases hp with rfl | rfl
 ·have h0:=h.q 0 rfl
  have hfz:=h.frozen 0
  have hsh:w.shape? b=some (71,2):=by unfold World.shape?;rw [show w.heap[b]?=_ from h];rfl
  have H:=AA h
  clear h
  go_enter func73,ntmps73
  go_wp2
  rw [Lib.run_to_unsafe w ⟨b,0,none⟩ underlying69 underlying175 hj (by rw [hjs];decide) hsh (Nat.zero_lt_succ 1)]
  simp only [Result.andThen]
  rw [Oper.upon_value]
  go_wp2
  rw [run_callFunc_extern func126 (by kernel_rfl) (by kernel_rfl) (by kernel_rfl) (e:=Extern.AbiNoEscape.same) (by kernel_rfl)]
  rw [Lib.run_noEscape]
  simp only [Result.andThen]
  rw [Oper.upon_value]
  go_wp2
  rw [Lib.run_from_unsafe w ⟨b,0,none⟩ underlying175 underlying69 hj hsh (by kernel_rfl)]
  simp only [Result.andThen]
  rw [Oper.upon_value]
  go_wp2
  go_end0
  exact⟨rfl,H.out.set 0 _,(Keep.refl _ w).setCell (p:=⟨b,0,none⟩) (by simp) _⟩
 ·have h0:=h.q 0 rfl
  have H:=AA h
  clear h
  go_enter func73,ntmps73
  go_wp2
  rw [Lib.run_neq_ptr_same w _ underlying69 hj]
  go_wp2
  go_end0
  exact⟨rfl,H.out,Keep.refl _ _⟩
theorem Xj {w:World} {base:Nat} {e:TypeId} {v:Value} {n:Nat} {xs:List Value} (h:w.ownsRow base e 1 v n xs): ∃A c,v= .slice A n c:=by
 rcases h.2 with⟨rfl,rfl⟩ | ⟨g,cap,cur,rfl,_⟩
 ·exact⟨_,_,rfl⟩
 ·exact⟨_,_,rfl⟩
def VP (b:Nat) (w w':World):Prop:= ∀k,k<w.heap.size→k≠b→(∀cur,w.heap[k]?≠some (.cells cur 5))→w'.heap[k]?=w.heap[k]?
theorem VP.blk {b g:Nat} {w w':World} {t:TypeId} {xs:List Value} (h:VP b w w') (hb:AV w g t xs) (hg:g≠b) (ht:t≠5):AV w' g t xs:=by
 refine(h g hb.lt hg (fun cur e=>ht ?_)).trans hb
 have:w.heap[g]?=some (.cells xs.toArray t):=hb
 rw [this] at e
 injection e with e
 injection e with _ e
theorem VP.below {b:Nat} {w w' w'':World} (h:VP b w' w'') (hb:Below w.heap.size w w'):VP b w w'':=fun k hk hkb hn=>(h k (Nat.lt_of_lt_of_le hk hb.size) hkb (fun cur e=>hn cur ((hb.block k hk).symm.trans e))).trans (hb.block k hk)
theorem Vb (B b:Nat) (l:List UInt8) (s:ByteArray) (w:World) (h:Ot B b w l) (hlen:l.length+s.size≤140737488355328) (hB:B≤w.heap.size):
 Calls prog 29 #[.pointer (some ⟨b,0,none⟩),.string s] w fun e w'=>e= .returned (.tuple #[.int .i64 s.size,.nilIface])∧Ot B b w' (l++s.data.toList)∧Below B w w'∧VP b w w':=by
 obtain⟨p,v,h⟩:=h
 obtain⟨i0,hi,hz,hs',hby⟩:=info_parts G8
 have hne:=h.ne
 have HC:=AA (oK b p v w h.blk h.ptr)
 have HO:=AA h.own;have HL:=AA h.low;have Zo:=AA hne
 clear h hne
 go_enter func29,ntmps29
 go_wp2_with fail
 refine HC.out.mono ?_
 rintro e w1 ⟨rfl,hb1,hk1⟩
 clear HC
 have HB1:=AA hb1
 have uJ:=AA hk1
 have ho1:=Me HO.out hk1 (fun k hk e=>Zo.out (by rw [hk,e]))
 have HO1:=AA ho1
 have hsz:=hk1.size
 have c1:=hb1.q 1 rfl
 clear hb1 hk1 ho1 HO
 obtain⟨A,c,rfl⟩:=Xj HO1.out
 go_wp2_with (at_builtin;refine Lib.wpList_append_own_string _ rfl _ _ 41 9 rfl B 5 i0 underlying41 underlying9 hi hz hs' hby _ _ _ rfl HO1.out s rfl ?c3 ?c4 ?c5 ?_)
 case c3=>unfold maxLen;omega
 case c4=>omega
 case c5=>omega
 intro v' w2 hown' hgrow _
 obtain⟨A',c',rfl⟩:=Xj hown'
 have hb2:AV w2 b 71 [.pointer (some ⟨b,0,none⟩),.slice A l.length c]:=(hgrow.block b HB1.out.lt (fun e=>Zo.out e.symm)).trans HB1.out
 have d0:=hb2.q 0 rfl
 have d1:=hb2.q 1 rfl
 have f1:=hb2.frozen 1
 have HB2:=AA hb2;have qC:=AA hown';have HG:=AA hgrow
 clear hb2 hown' hgrow
 go_wp2
 go_ret2
 have hbl:Below B w w2:=((uJ.out.mono (K':=fun k=>k<B) (fun k hk=>by have:=HL.out;omega)).grown HG.out (by intro k hk e;have:=(HO1.out.lt k hk).1;omega)).below hB (fun k h=>h)
 refine⟨rfl,⟨_,_,HB2.out.set 1 _,.inr rfl,?_,HL.out⟩,hbl.setCell (p:=⟨b,1,none⟩) HL.out _,fun k hk hkb hnu=> ?_⟩
 rotate_left
 ·have k1:w1.heap[k]?=w.heap[k]?:=uJ.out.block k hk hkb
  have k2:w2.heap[k]?=w1.heap[k]?:=HG.out.block k (Nat.lt_of_lt_of_le hk uJ.out.size) (fun e=>by
   rcases HO1.out.2 with⟨hv,_⟩ | ⟨g,cap,cur,hv,_,hg,_⟩
   ·rw [hv] at e;cases e
   ·rw [hv] at e
    have e:k=g:=by injection e
    subst e
    exact hnu _ (k1.symm.trans hg))
  have k3:=((Keep.refl (fun j=>j≠b) w2).setCell (p:=⟨b,1,none⟩) (fun e=>e rfl) (.slice A' (l.length+s.size) c')).block k (by rw [←Nat.not_le];intro h9;have:=uJ.out.size;have:=HG.out.size;omega) hkb
  exact k3.trans (k2.trans k1)
 have ho:w2.ownsRow B 5 1 (.slice A' (l.length+s.size) c') (l++s.data.toList).length ((l++s.data.toList).map bv):=by
  have h1:(l++s.data.toList).length=l.length+s.size:=by rw [List.length_append];rfl
  rw [h1,List.map_append]
  exact qC.out
 refine OD ho ?_ _
 intro e
 rcases ho.2 with⟨hv,_⟩ | ⟨g,cap,cur,hv,_,hg,_⟩
 ·rw [hv] at e;cases e
 ·rw [hv] at e
  have e:g=b:=by injection e
  subst e
  have:=HB2.out
  unfold AV at this
  rw [this] at hg
  injection hg with hg
  injection hg with _ hg
  exact absurd hg (by decide)
theorem Sq (c:Nat) (hc:c<256) (w:World):Calls prog 105 #[.int .u8 c] w fun e w'=>w=w'∧e= .returned (.bool (Qh c)):=by
 by_cases h1:c=119
 ·subst h1
  go_enter func105,ntmps105
  go_wp2
  go_ret
  exact⟨rfl,rfl⟩
 ·have h1':((c:Int)==119)=false:=by simp;omega
  by_cases h2:c=108
  ·subst h2
   go_enter func105,ntmps105
   go_wp2
   go_ret
   exact⟨rfl,rfl⟩
  ·have h2':((c:Int)==108)=false:=by simp;omega
   have HF:=AA (show Qh c=false by simp [Qh,h1,h2])
   clear h1 h2
   go_enter func105,ntmps105
   go_wp2
   go_ret
   exact⟨rfl,by rw [HF.out];rfl⟩

def Wv (s:ByteArray) (gd:Nat→UInt8→Bool) (w:World) (wr:World):Prop:=
 ∃k:Nat,G9 wr w.heap.size s k∧Below w.heap.size w wr∧QV gd k (s.data.toList.drop k)=QV gd 0 s.data.toList
theorem ZU (s:ByteArray) (h47:s.size≤140737488351232) (caps:List Value) (w:World) (gd:Nat→UInt8→Bool)
 (hg: ∀(i:Nat) (W:World),i<s.size→Rk (s.data.toList[i]?.getD 0)=true→Below w.heap.size w W→Calls prog 165 (Value.int .i64 i::Value.int .u8 ((s.data.toList[i]?.getD 0).toNat:Int)::caps).toArray W fun e w'=>W=w'∧e= .returned (.bool (gd i (s.data.toList[i]?.getD 0)))):
 Calls prog 164 #[.string s,.func (.func 165) #[] caps.toArray] w fun e w'=>Below w.heap.size w w'∧e= .returned (.bool (QV gd 0 s.data.toList)):=by
 have Hg:=AA hg;clear hg
 go_enter func164,ntmps164
 go_wp2_with fail
 go_loopw [] (fun wr=>Wv s gd w wr) (fun wr=>s.size-Wd wr w.heap.size)
 case atStart=>exact⟨0,G9.new w s 0,fV w s 0,rfl⟩
 case round=>
  obtain⟨k,hit,hbel,hR⟩:=hrel
  have Hit:=AA hit;clear hit
  have CF:=AA hbel;clear hbel
  have HR:=AA hR;clear hR
  by_cases hlt:k<s.size
  ·have hdrop:=drop_at s.data.toList k (by simpa using hlt)
   have Hd:=AA hdrop;clear hdrop
   have hnx:=fun ty=>xW (P:=prog) Hit.out hlt ty
   by_cases hlow:(s.data.toList[k]?.getD 0).toNat<128
   ·rw [fZ s k hlt hlow] at hnx
    have Hg2:=AA (Hg.out k)
    have hu8:(s.data.toList[k]?.getD 0).toNat<256:=by omega
    have HE:Hid (Rk (s.data.toList[k]?.getD 0)=Qh (s.data.toList[k]?.getD 0).toNat):=AA rfl
    generalize s.data.toList[k]?.getD 0=c8 at*
    generalize c8.toNat=c at*
    have HL:=AA (Sq c (by omega) (setIter wr w.heap.size s (k+1)))
    have Yr:Hid (Below w.heap.size w (setIter wr w.heap.size s (k+1))):=AA (CF.out.trans (Rj _ (Nat.le_refl _)))
    have ADn:=AA (Hit.out.set (k+1))
    have HR2:Hid ((Qh c&&(gd k c8&&QV gd (k+1) (s.data.toList.drop (k+1))))=QV gd 0 s.data.toList):=AA (by rw [←HR.out,Hd.out,←HE.out];rfl)
    have HG:Hid (Qh c=true→_):=AA (fun h=>Hg2.out (setIter wr w.heap.size s (k+1)) hlt (by rw [HE.out,h]) Yr.out)
    clear Hg2 HE Hd HR
    cases hb:Qh c with
    | false=>
     rw [hb] at HL HR2
     clear HG hb
     go_wp2_with (go_at_call 105;refine HL.out.mono ?_;rintro e w' ⟨rfl,rfl⟩)
     go_ret
     exact⟨Yr.out,by rw [←HR2.out];rfl⟩
    | true=>
     have HG2:=AA (HG.out hb)
     rw [hb] at HL HR2
     clear HG hb
     cases hgd:gd k c8 with
     | false=>
      rw [hgd] at HG2 HR2
      clear hgd
      go_wp2_with (first | (go_at_call 105;refine HL.out.mono ?_;rintro e w' ⟨rfl,rfl⟩) | (go_at_call 165;refine HG2.out.mono ?_;rintro e w' ⟨rfl,rfl⟩))
      go_ret
      exact⟨Yr.out,by rw [←HR2.out];rfl⟩
     | true=>
      rw [hgd] at HG2 HR2
      clear hgd
      go_wp2_with (first | (go_at_call 105;refine HL.out.mono ?_;rintro e w' ⟨rfl,rfl⟩) | (go_at_call 165;refine HG2.out.mono ?_;rintro e w' ⟨rfl,rfl⟩))
      exact⟨⟨k+1,ADn.out,Yr.out,HR2.out⟩,by rw [Hit.out.pos,ADn.out.pos];omega⟩
   ·have hhi:=lG s k hlt hlow
    have HF:Hid (QV gd 0 s.data.toList=false):=AA (by
     rw [←HR.out,Hd.out]
     have h0:Rk (s.data.toList[k]?.getD 0)=false:=ABY _ hlow
     rw [Wh,h0]
     rfl)
    have hle:=decode_le s k
    generalize Utf8.decode s k=d at*
    obtain⟨r,wd⟩:=d
    simp only at hhi hle hnx
    have Yr:Hid (Below w.heap.size w (setIter wr w.heap.size s (k+wd))):=AA (CF.out.trans (Rj _ (Nat.le_refl _)))
    clear Hd hlow
    go_wp2_with fail
    go_ret
    exact⟨Yr.out,by rw [HF.out];rfl⟩
  ·have hnx:=fun ty=>qY (P:=prog) Hit.out hlt ty
   have HT:Hid (QV gd 0 s.data.toList=true):=AA (by rw [←HR.out,List.drop_of_length_le (by simp;omega)];rfl)
   go_wp2_with fail
   go_ret
   exact⟨CF.out,by rw [HT.out];rfl⟩
theorem aY (i c:Int) (w:World):Calls prog 165 #[.int .i64 i,.int .u8 c] w fun e w'=>w=w'∧e= .returned (.bool true):=by
 go_enter func165,ntmps165
 go_wp2
 go_ret
 exact⟨rfl,rfl⟩
theorem O5 (s:ByteArray) (m:Nat) (h47:s.size≤140737488351232) (hm:m≤1000) (w:World):
 Calls prog 128 #[.string s,.int .i64 m] w fun e w'=>Below w.heap.size w w'∧e= .returned (.bool (JK m s.data.toList)):=by
 have hsz:s.data.toList.length=s.size:=by simp
 by_cases h:s.size≤m
 ·have HC:=AA (ZU s h47 [] w (fun _ _=>true) (fun i W _ _ _=>aY _ _ W))
  have HR:Hid (JK m s.data.toList=QV (fun _ _=>true) 0 s.data.toList):=AA (by unfold JK;rw [Wi,hsz];simp [h])
  clear hsz
  go_enter func128,ntmps128
  go_wp2_with fail
  refine HC.out.mono ?_
  rintro e w1 ⟨h1,rfl⟩
  go_wp2_with fail
  go_ret
  exact⟨h1,by rw [HR.out];rfl⟩
 ·have HR:Hid (JK m s.data.toList=false):=AA (by unfold JK;rw [hsz];simp [h])
  clear hsz
  go_enter func128,ntmps128
  go_wp2_with fail
  go_ret
  exact⟨Below.refl _ _,by rw [HR.out];rfl⟩
theorem aZ (s:ByteArray) (h47:s.size≤140737488351232) (w:World):
 Calls prog 156 #[.string s] w fun e w'=>Below w.heap.size w w'∧e= .returned (.bool (JK 256 s.data.toList)):=by
 have HC:=AA (O5 s 256 h47 (by omega) w)
 generalize JK 256 s.data.toList=b at*
 go_enter func156,ntmps156
 go_wp2_with fail
 refine HC.out.mono ?_
 rintro e w1 ⟨h1,rfl⟩
 go_wp2_with fail
 go_ret
 exact⟨h1,rfl⟩
theorem Ry (c:Nat) (hc:c<256) (w:World):Calls prog 181 #[.int .u8 c] w fun e w'=>w=w'∧e= .returned (.bool (Qh c)):=by
 by_cases h1:c=119
 ·subst h1
  go_enter func181,ntmps181
  go_wp2
  go_ret
  exact⟨rfl,rfl⟩
 ·have h1':((c:Int)==119)=false:=by simp;omega
  by_cases h2:c=108
  ·subst h2
   go_enter func181,ntmps181
   go_wp2
   go_ret
   exact⟨rfl,rfl⟩
  ·have h2':((c:Int)==108)=false:=by simp;omega
   have HF:=AA (show Qh c=false by simp [Qh,h1,h2])
   clear h1 h2
   go_enter func181,ntmps181
   go_wp2
   go_ret
   exact⟨rfl,by rw [HF.out];rfl⟩
def ADo (l:List UInt8) (w:World) (i:Value) (wr:World):Prop:= ∃k:Nat,k≤l.length∧i= .int .i64 k∧wr=w∧(l.drop k).all Rk=l.all Rk
theorem Og (s:ByteArray) (m:Nat) (h47:s.size≤140737488351232) (w:World):
 Calls prog 135 #[.string s,.int .i64 m] w fun e w'=>w=w'∧e= .returned (.bool (JK m s.data.toList)):=by
 have hsz:s.data.toList.length=s.size:=by simp
 have lQ:=AA hsz;clear hsz
 by_cases h:s.size≤m
 ·have HR:Hid (JK m s.data.toList=s.data.toList.all Rk):=AA (by unfold JK;rw [lQ.out];simp [h])
  have hdec:decide (m<s.size)=false:=by simp;omega
  go_enter func135,ntmps135
  go_wp2_with fail
  go_loopw [5] (fun i wr=>ADo s.data.toList w i wr) (fun i _=>s.size-(intOf i).toNat)
  case atStart=>exact⟨0,Nat.zero_le _,rfl,rfl,rfl⟩
  case round=>
   obtain⟨k,hk,rfl,hw,hR⟩:=hrel
   subst hw
   have HR2:=AA hR;clear hR
   rw [lQ.out] at hk
   by_cases hlt:k<s.size
   ·have Hd:=AA (drop_at s.data.toList k (by rw [lQ.out];exact hlt))
    have hb:=byte_at s k hlt
    have Hb:=AA hb;clear hb
    have hk0:(0:Int)≤k:=by omega
    have hu8:(s.data.toList[k]?.getD 0).toNat<256:=UInt8.toNat_lt _
    have HE:Hid (Rk (s.data.toList[k]?.getD 0)=Qh (s.data.toList[k]?.getD 0).toNat):=AA rfl
    have HR3:Hid ((Rk (s.data.toList[k]?.getD 0)&&(s.data.toList.drop (k+1)).all Rk)=s.data.toList.all Rk):=AA (by rw [←HR2.out,Hd.out];rfl)
    clear Hd HR2
    go_wp2_with fail
    rw [Hb.out]
    refine(Ry _ hu8 _).mono ?_
    rintro e w' ⟨rfl,rfl⟩
    rw [HE.out] at HR3
    cases hN:Qh (s.data.toList[k]?.getD 0).toNat with
    | false=>
     rw [hN] at HR3
     clear hN
     go_wp2_with fail
     go_ret
     exact⟨rfl,by rw [HR.out,←HR3.out];rfl⟩
    | true=>
     rw [hN] at HR3
     clear hN
     go_wp2_with fail
     exact⟨⟨k+1,by rw [lQ.out];omega,by go_num,rfl,HR3.out⟩,by simp [intOf];omega⟩
   ·have hge: ¬(k:Int)<s.size:=by omega
    have HT:Hid (s.data.toList.all Rk=true):=AA (by rw [←HR2.out,List.drop_of_length_le (by rw [lQ.out];omega)];rfl)
    go_wp2_with fail
    go_ret
    exact⟨rfl,by rw [HR.out,HT.out];rfl⟩
 ·have HR:Hid (JK m s.data.toList=false):=AA (by unfold JK;rw [lQ.out];simp [h])
  go_enter func135,ntmps135
  go_wp2_with fail
  go_ret
  exact⟨rfl,by rw [HR.out];rfl⟩
theorem gG (v c:Nat) (hc:c<256) (w:World):Calls prog 158 #[.int .u64 v,.int .u8 c] w fun e w'=>w=w'∧e= .returned (.bool (JL v c)):=by
 by_cases h1:c=108
 ·subst h1
  go_enter func158,ntmps158
  go_wp2
  go_ret
  exact⟨rfl,rfl⟩
 ·have h1':((c:Int)==108)=false:=by simp;omega
  by_cases h2:c=119
  ·subst h2
   by_cases hv:v<4294967296
   ·have hq:((v:Int)/4294967296==0)=true:=by simp;omega
    have HF:=AA (show JL v 119=true by simp [JL,hv])
    clear h1 h1'
    go_enter func158,ntmps158
    go_wp2
    go_ret
    exact⟨rfl,by rw [HF.out];rfl⟩
   ·have hq:((v:Int)/4294967296==0)=false:=by simp;omega
    have HF:=AA (show JL v 119=false by simp [JL,hv])
    clear h1 h1'
    go_enter func158,ntmps158
    go_wp2
    go_ret
    exact⟨rfl,by rw [HF.out];rfl⟩
  ·have h2':((c:Int)==119)=false:=by simp;omega
   have HF:=AA (show JL v c=false by simp [JL,h1,h2])
   clear h1 h2
   go_enter func158,ntmps158
   go_wp2
   go_ret
   exact⟨rfl,by rw [HF.out];rfl⟩

def dash:ByteArray:=⟨#[45]⟩
def arrow:ByteArray:=⟨#[32,45,62,32]⟩
def none_:ByteArray:=⟨#[]⟩
def DI (s:ByteArray):ByteArray:=if s=none_ then dash else s
def EC (s:ByteArray):ByteArray×Bool:=if s=dash then(none_,true) else(s,decide (s≠none_))
theorem Sr {s:ByteArray} (h:s≠none_):s.toList.isEmpty=false:=by
 rw [ByteArray.toList_eq]
 cases hl:s.data.toList with
 | nil=>exact absurd (by cases s;simp at hl;subst hl;rfl) h
 | cons a l=>rfl
theorem jd {s:ByteArray} (h:s≠dash):(s.toList== [45])=false:=by
 rw [ByteArray.toList_eq]
 refine beq_eq_false_iff_ne.2 fun he=>h ?_
 cases s
 have he':=Array.toList_inj.1 (show _=(#[45]:Array UInt8).toList from he)
 unfold dash
 rw [←he']
theorem Ww (s:ByteArray) (w:World):Calls prog 76 #[.string s] w fun e w'=>w=w'∧e= .returned (.string (DI s)):=by
 by_cases h:s=none_
 ·subst h
  have hE:none_.toList.isEmpty=true:=by decide+kernel
  go_enter func76,ntmps76
  go_wp2
  go_ret
  exact⟨rfl,rfl⟩
 ·have HF:Hid (DI s=s):=AA (if_neg h)
  have hE:=Sr h
  clear h
  go_enter func76,ntmps76
  go_wp2
  go_ret
  exact⟨rfl,by rw [HF.out];rfl⟩
theorem aj (s:ByteArray) (w:World):Calls prog 81 #[.string s] w fun e w'=>w=w'∧e= .returned (.string (DI s)):=by
 by_cases h:s=none_
 ·subst h
  have hE:none_.toList.isEmpty=true:=by decide+kernel
  go_enter func81,ntmps81
  go_wp2
  go_ret
  exact⟨rfl,rfl⟩
 ·have HF:Hid (DI s=s):=AA (if_neg h)
  have hE:=Sr h
  clear h
  go_enter func81,ntmps81
  go_wp2
  go_ret
  exact⟨rfl,by rw [HF.out];rfl⟩
theorem U_ (s:ByteArray) (w:World):Calls prog 185 #[.string s] w fun e w'=>w=w'∧e= .returned (.tuple #[.string (EC s).1,.bool (EC s).2]):=by
 by_cases h:s=dash
 ·subst h
  have hE:(dash.toList== [45])=true:=by decide+kernel
  go_enter func185,ntmps185
  go_wp2
  go_ret2
  exact⟨rfl,rfl⟩
 ·have hE:=jd h
  by_cases h0:s=none_
  ·have HF:Hid (EC s=(s,false)):=AA (by unfold EC;rw [if_neg h];simp [h0])
   have hE2:s.toList.isEmpty=true:=by rw [h0];decide+kernel
   clear h h0
   go_enter func185,ntmps185
   go_wp2
   go_ret2
   exact⟨rfl,by rw [HF.out];rfl⟩
  ·have HF:Hid (EC s=(s,true)):=AA (by unfold EC;rw [if_neg h];simp [h0])
   have hE2:=Sr h0
   clear h h0
   go_enter func185,ntmps185
   go_wp2
   go_ret2
   exact⟨rfl,by rw [HF.out];rfl⟩
def aO (p r:ByteArray):Bool:=JK 8 p.data.toList&&JK 8 r.data.toList
theorem Yt (p r:ByteArray) (hp:p.size≤140737488351232) (hr:r.size≤140737488351232) (w:World):
 Calls prog 75 #[.agg #[.string p,.string r]] w fun e w'=>Below w.heap.size w w'∧e= .returned (.bool (aO p r)):=by
 have HP:=AA (fun W=>O5 p 8 hp (by omega) W)
 have HR:=AA (fun W=>O5 r 8 hr (by omega) W)
 have HE:Hid (aO p r=(JK 8 p.data.toList&&JK 8 r.data.toList)):=AA rfl
 generalize JK 8 p.data.toList=bp at*
 generalize JK 8 r.data.toList=br at*
 go_enter func75,ntmps75
 go_wp2_with fail
 generalize hw:w.alloc (.cells #[.string p,.string r] 51)=w1
 have hblk:AV w1 w.heap.size 51 [.string p,.string r]:=by rw [←hw];exact AV.new w 51 [.string p,.string r]
 have H1:Hid (Below w.heap.size w w1):=by rw [←hw];exact AA ((Below.refl _ _).alloc (Nat.le_refl _) _)
 have Hb:=AA hblk;clear hblk hw
 refine(HP.out w1).mono ?_
 rintro e w2 ⟨h2,rfl⟩
 have H2:Hid (Below w.heap.size w w2):=AA (H1.out.trans (h2.mono H1.out.size))
 have Hb2:Hid (AV w2 w.heap.size 51 [.string p,.string r]):=AA (Hb.out.below h2 Hb.out.lt)
 clear h2 Hb H1
 have hc1:=Hb2.out.q 1 rfl
 cases bp with
 | false=>
  go_wp2_with fail
  go_ret
  exact⟨H2.out,by rw [HE.out];rfl⟩
 | true=>
  go_wp2_with fail
  refine(HR.out w2).mono ?_
  rintro e w3 ⟨h3,rfl⟩
  have H3:Hid (Below w.heap.size w w3):=AA (H2.out.trans (h3.mono H2.out.size))
  go_wp2_with fail
  go_ret
  exact⟨H3.out,by rw [HE.out];rfl⟩
theorem xq (p r:ByteArray) (hp:p.size≤140737488351232) (hr:r.size≤140737488351232) (w:World):
 Calls prog 80 #[.agg #[.string p,.string r]] w fun e w'=>Below w.heap.size w w'∧e= .returned (.bool (aO p r)):=by
 have HP:=AA (fun W=>Og p 8 hp W)
 have HR:=AA (fun W=>Og r 8 hr W)
 have HE:Hid (aO p r=(JK 8 p.data.toList&&JK 8 r.data.toList)):=AA rfl
 generalize JK 8 p.data.toList=bp at*
 generalize JK 8 r.data.toList=br at*
 go_enter func80,ntmps80
 go_wp2_with fail
 generalize hw:w.alloc (.cells #[.string p,.string r] 51)=w1
 have hblk:AV w1 w.heap.size 51 [.string p,.string r]:=by rw [←hw];exact AV.new w 51 [.string p,.string r]
 have H1:Hid (Below w.heap.size w w1):=by rw [←hw];exact AA ((Below.refl _ _).alloc (Nat.le_refl _) _)
 have hc1:=hblk.q 1 rfl
 clear hblk hw
 refine(HP.out w1).mono ?_
 rintro e w' ⟨rfl,rfl⟩
 cases bp with
 | false=>
  go_wp2_with fail
  go_ret
  exact⟨H1.out,by rw [HE.out];rfl⟩
 | true=>
  go_wp2_with fail
  refine(HR.out _).mono ?_
  rintro e w' ⟨rfl,rfl⟩
  go_wp2_with fail
  go_ret
  exact⟨H1.out,by rw [HE.out];rfl⟩
theorem Sv {p r:ByteArray} (h:aO p r=true):p.size≤8∧r.size≤8:=by
 unfold aO JK at h
 simp only [Bool.and_eq_true,decide_eq_true_eq] at h
 have h1:p.data.toList.length=p.size:=by simp
 have h2:r.data.toList.length=r.size:=by simp
 omega
def MR (p r:ByteArray):ByteArray×Nat:=if aO p r=true then(DI p++arrow++DI r,0) else(none_,15)
theorem gH (p r:ByteArray) (hp:p.size≤140737488351232) (hr:r.size≤140737488351232) (w:World):
 Calls prog 31 #[.agg #[.string p,.string r]] w fun e w'=>Below w.heap.size w w'∧e= .returned (.tuple #[.string (MR p r).1,.int .i64 (MR p r).2]):=by
 have HS:=AA (fun W=>Yt p r hp hr W)
 have HP:=AA (fun W=>Ww p W)
 have HR:=AA (fun W=>Ww r W)
 cases hb:aO p r with
 | false=>
  have HE:Hid (MR p r=(none_,15)):=AA (by unfold MR;rw [hb];rfl)
  rw [hb] at HS
  clear hb
  go_enter func31,ntmps31
  go_wp2_with fail
  refine(HS.out _).mono ?_
  rintro e w1 ⟨h1,rfl⟩
  have H1:Hid (Below w.heap.size w w1):=AA (((Below.refl _ _).alloc (Nat.le_refl _) _).trans (h1.mono (by simp)))
  clear h1
  go_wp2_with fail
  go_ret2
  exact⟨H1.out,by rw [HE.out];rfl⟩
 | true=>
  have HE:Hid (MR p r=(DI p++⟨#[32,45,62,32]⟩++DI r,0)):=AA (by unfold MR;rw [hb];rfl)
  have hpa:(DI p).size≤100:=by have:=(Sv hb).1;unfold DI;split<;>(try (have:dash.size=1:=rfl))<;>omega
  have hra:(DI r).size≤100:=by have:=(Sv hb).2;unfold DI;split<;>(try (have:dash.size=1:=rfl))<;>omega
  have hsz:(DI p++(⟨#[32,45,62,32]⟩:ByteArray)).size=(DI p).size+4:=ByteArray.size_append
  have hs4:(⟨#[32,45,62,32]⟩:ByteArray).size=4:=rfl
  rw [hb] at HS
  clear hb
  go_enter func31,ntmps31
  go_wp2_with fail
  generalize hw:w.alloc (.cells #[.string p,.string r] 51)=w1
  have hblk:AV w1 w.heap.size 51 [.string p,.string r]:=by rw [←hw];exact AV.new w 51 [.string p,.string r]
  have H1:Hid (Below w.heap.size w w1):=by rw [←hw];exact AA ((Below.refl _ _).alloc (Nat.le_refl _) _)
  have Hb:=AA hblk;clear hblk hw
  refine(HS.out w1).mono ?_
  rintro e w2 ⟨h2,rfl⟩
  have H2:Hid (Below w.heap.size w w2):=AA (H1.out.trans (h2.mono H1.out.size))
  have Hb2:Hid (AV w2 w.heap.size 51 [.string p,.string r]):=AA (Hb.out.below h2 Hb.out.lt)
  clear h2 Hb H1
  have hc0:=Hb2.out.q 0 rfl
  have hc1:=Hb2.out.q 1 rfl
  go_wp2_with fail
  generalize DI p=a at*
  generalize DI r=b at*
  go_quiet ((go_at_call 76;first | exact Mq (HP.out _) | exact Mq (HR.out _)))
  go_wp2_with fail
  go_ret2
  exact⟨below_drewN H2.out _,by rw [HE.out];rfl⟩
theorem qy (p r:ByteArray) (hp:p.size≤140737488351232) (hr:r.size≤140737488351232) (w:World):
 Calls prog 39 #[.agg #[.string p,.string r]] w fun e w'=>Below w.heap.size w w'∧e= .returned (.tuple #[.string (MR p r).1,.int .i64 (MR p r).2]):=by
 have HS:=AA (fun W=>xq p r hp hr W)
 have HP:=AA (fun W=>aj p W)
 have HR:=AA (fun W=>aj r W)
 cases hb:aO p r with
 | false=>
  have HE:Hid (MR p r=(none_,15)):=AA (by unfold MR;rw [hb];rfl)
  rw [hb] at HS
  clear hb
  go_enter func39,ntmps39
  go_wp2_with fail
  refine(HS.out _).mono ?_
  rintro e w1 ⟨h1,rfl⟩
  have H1:Hid (Below w.heap.size w w1):=AA (((Below.refl _ _).alloc (Nat.le_refl _) _).trans (h1.mono (by simp)))
  clear h1
  go_wp2_with fail
  go_ret2
  exact⟨H1.out,by rw [HE.out];rfl⟩
 | true=>
  have HE:Hid (MR p r=(DI p++⟨#[32,45,62,32]⟩++DI r,0)):=AA (by unfold MR;rw [hb];rfl)
  have hpa:(DI p).size≤100:=by have:=(Sv hb).1;unfold DI;split<;>(try (have:dash.size=1:=rfl))<;>omega
  have hra:(DI r).size≤100:=by have:=(Sv hb).2;unfold DI;split<;>(try (have:dash.size=1:=rfl))<;>omega
  have hsz:(DI p++(⟨#[32,45,62,32]⟩:ByteArray)).size=(DI p).size+4:=ByteArray.size_append
  have hs4:(⟨#[32,45,62,32]⟩:ByteArray).size=4:=rfl
  rw [hb] at HS
  clear hb
  go_enter func39,ntmps39
  go_wp2_with fail
  generalize hw:w.alloc (.cells #[.string p,.string r] 51)=w1
  have hblk:AV w1 w.heap.size 51 [.string p,.string r]:=by rw [←hw];exact AV.new w 51 [.string p,.string r]
  have H1:Hid (Below w.heap.size w w1):=by rw [←hw];exact AA ((Below.refl _ _).alloc (Nat.le_refl _) _)
  have Hb:=AA hblk;clear hblk hw
  refine(HS.out w1).mono ?_
  rintro e w2 ⟨h2,rfl⟩
  have H2:Hid (Below w.heap.size w w2):=AA (H1.out.trans (h2.mono H1.out.size))
  have Hb2:Hid (AV w2 w.heap.size 51 [.string p,.string r]):=AA (Hb.out.below h2 Hb.out.lt)
  clear h2 Hb H1
  have hc0:=Hb2.out.q 0 rfl
  have hc1:=Hb2.out.q 1 rfl
  go_wp2_with fail
  generalize DI p=a at*
  generalize DI r=b at*
  go_quiet ((go_at_call 81;first | exact Mq (HP.out _) | exact Mq (HR.out _)))
  go_wp2_with fail
  go_ret2
  exact⟨below_drewN H2.out _,by rw [HE.out];rfl⟩
def Pz (s:ByteArray):ByteArray:=⟨(Lib.cut s.data.toList [32,45,62,32]).1.toArray⟩
def P_ (s:ByteArray):ByteArray:=⟨(Lib.cut s.data.toList [32,45,62,32]).2.1.toArray⟩
def lS (s:ByteArray):Bool:=(Lib.cut s.data.toList [32,45,62,32]).2.2
theorem Sy (s:ByteArray):(Pz s).size≤s.size∧(P_ s).size≤s.size:=by
 have h:s.data.toList.length=s.size:=by simp
 unfold Pz P_ Lib.cut
 constructor
 ·show(List.toArray _).size≤_
  split<;>simp<;>omega
 ·show(List.toArray _).size≤_
  split<;>simp<;>omega
theorem Mc (s:ByteArray):(EC s).1.size≤s.size:=by
 unfold EC
 split
 ·exact Nat.zero_le _
 ·exact Nat.le_refl _
def Gy (s:ByteArray):ByteArray×ByteArray×Nat:=
 if lS s=true∧(EC (Pz s)).2=true∧(EC (P_ s)).2=true∧aO (EC (Pz s)).1 (EC (P_ s)).1=true then((EC (Pz s)).1,(EC (P_ s)).1,0) else(none_,none_,15)
theorem rA:(prog.info? 51).map (·.size)=some 2:=by kernel_rfl
theorem rC {W:World} {g:Nat} {a b:ByteArray} (h:AV W g 51 [.string a,.string b]):(loadVar 51 ⟨g,0,none⟩).run prog W= .ok (.agg #[.string a,.string b]) W:=
 run_loadVar_row W g 51 51 #[.string a,.string b] (0,0) _ h underlying51 rfl rA
theorem ZY {W:World} {tmps:Array Value} {g:Nat} {x:Value} {a b:ByteArray} {Q:Ending→World→Prop} (h:AV W g 51 [.string a,.string b])
 (h2:tmps.getD 2 undef= .pointer (some ⟨g,0,none⟩)) (h3:tmps.getD 3 undef=x) (hq:Q (.returned (.tuple #[.agg #[.string a,.string b],x])) W):
 bodyPost prog f141 Q Exit.ret ⟨tmps,[]⟩ W:=by
 refine bodyPost_ret (v:= .tuple #[.agg #[.string a,.string b],x]) ?_ rfl hq
 rw [results_cell_tmp rfl]
 simp only [h2,h3,asAddr,Sem.run_pure,Result.andThen,rC h]
theorem Rm (s:ByteArray) (hs:s.size<4294967281) (m:Int) (w:World) (hm:w.cell? ⟨0,0,none⟩=some (.int .i64 m)):
 Calls prog 141 #[.string s] w fun e w'=>Below w.heap.size w w'∧e= .returned (.tuple #[.agg #[.string (Gy s).1,.string (Gy s).2.1],.int .i64 (Gy s).2.2]):=by
 have h0:0<w.heap.size:=by
  rcases Nat.eq_zero_or_pos w.heap.size with h | h
  ·exfalso
   have:w.heap[0]?=none:=Array.getElem?_eq_none (by omega)
   simp [World.cell?,this] at hm
  ·exact h
 have Hm:=AA hm;clear hm
 have hca:=(Sy s).1
 have hcb:=(Sy s).2
 have hma:=Mc (Pz s)
 have hmb:=Mc (P_ s)
 have HC:Hid (∀W:World,W.cell? ⟨0,0,none⟩=some (.int .i64 m)→Calls prog 184 #[.string s,.string ⟨#[32,45,62,32]⟩] W fun e w'=>e= .returned (.tuple #[.string (Pz s),.string (P_ s),.bool (lS s)])∧ ∃n,w'=W.drewN n):=
  AA (fun W hW=>strings_Cut s ⟨#[32,45,62,32]⟩ m W hs hW)
 have HA:=AA (fun W=>U_ (Pz s) W)
 have HB:=AA (fun W=>U_ (P_ s) W)
 have HS:=AA (fun W=>Yt (EC (Pz s)).1 (EC (P_ s)).1 (by omega) (by omega) W)
 have HR:Hid (Gy s=if lS s=true∧(EC (Pz s)).2=true∧(EC (P_ s)).2=true∧aO (EC (Pz s)).1 (EC (P_ s)).1=true then((EC (Pz s)).1,(EC (P_ s)).1,0) else(none_,none_,15)):=AA rfl
 clear hca hcb hma hmb
 generalize EC (Pz s)=pa at*
 generalize EC (P_ s)=pb at*
 generalize Pz s=ca at*
 generalize P_ s=cb at*
 generalize lS s=ck at*
 obtain⟨p,bp⟩:=pa
 obtain⟨r,br⟩:=pb
 simp only at HA HB HS HR
 generalize aO p r=sg at*
 go_enter func141,ntmps141
 go_wp2_with fail
 generalize hw:w.alloc (.cells #[.string ⟨#[]⟩,.string ⟨#[]⟩] 51)=w1
 have Hb:Hid (AV w1 w.heap.size 51 [.string ⟨#[]⟩,.string ⟨#[]⟩]):=by rw [←hw];exact AA (AV.new w 51 [.string ⟨#[]⟩,.string ⟨#[]⟩])
 have H1:Hid (Below w.heap.size w w1):=by rw [←hw];exact AA ((Below.refl _ _).alloc (Nat.le_refl _) _)
 clear hw
 refine(HC.out w1 (by rw [H1.out.cell (p:=⟨0,0,none⟩) h0];exact Hm.out)).mono ?_
 rintro e w' ⟨rfl,nd,rfl⟩
 have Hb2:Hid (AV (w1.drewN nd) w.heap.size 51 [.string ⟨#[]⟩,.string ⟨#[]⟩]):=AA (Hb.out.drewN nd)
 have H2:Hid (Below w.heap.size w (w1.drewN nd)):=AA (below_drewN H1.out nd)
 generalize w1.drewN nd=w2 at*
 clear Hb H1
 go_wp2_with fail
 refine(HA.out w2).mono ?_
 rintro e w' ⟨rfl,rfl⟩
 go_wp2_with fail
 refine(HB.out w2).mono ?_
 rintro e w' ⟨rfl,rfl⟩
 have ADp:=Hb2.out.frozen 0
 have ADq:=Hb2.out.frozen 1
 have hq0:(w2.alloc (.cells #[.string p,.string r] 51)).cell? ⟨w.heap.size,0,none⟩=some (.string ⟨#[]⟩):=(Hb2.out.alloc _).cell 0
 have hq1:(w2.alloc (.cells #[.string p,.string r] 51)).cell? ⟨w.heap.size,1,none⟩=some (.string ⟨#[]⟩):=(Hb2.out.alloc _).cell 1
 have hqf0:=(Hb2.out.alloc (.cells #[.string p,.string r] 51)).frozen 0
 have hqf1:=(Hb2.out.alloc (.cells #[.string p,.string r] 51)).frozen 1
 have CF:Hid (Below w.heap.size w (((w2.alloc (.cells #[.string p,.string r] 51)).setCell ⟨w.heap.size,0,none⟩ (.string ⟨#[]⟩)).setCell ⟨w.heap.size,1,none⟩ (.string ⟨#[]⟩))):=
  AA (((H2.out.alloc H2.out.size _).setCell (p:=⟨w.heap.size,0,none⟩) (Nat.le_refl _) _).setCell (p:=⟨w.heap.size,1,none⟩) (Nat.le_refl _) _)
 have ADr:Hid (AV (((w2.alloc (.cells #[.string p,.string r] 51)).setCell ⟨w.heap.size,0,none⟩ (.string ⟨#[]⟩)).setCell ⟨w.heap.size,1,none⟩ (.string ⟨#[]⟩)) w.heap.size 51 [.string ⟨#[]⟩,.string ⟨#[]⟩]):=
  AA (((Hb2.out.alloc _).set 0 (.string ⟨#[]⟩)).set 1 (.string ⟨#[]⟩))
 cases ck<;>cases bp<;>cases br
 case true.true.true=>
  clear CF ADr hq0 hq1 hqf0 hqf1 ADp ADq
  go_wp2_with fail
  generalize hw:w2.alloc (.cells #[.string p,.string r] 51)=w3
  have Hx:Hid (AV w3 w2.heap.size 51 [.string p,.string r]):=by rw [←hw];exact AA (AV.new w2 51 [.string p,.string r])
  have Hb3:Hid (AV w3 w.heap.size 51 [.string ⟨#[]⟩,.string ⟨#[]⟩]):=by rw [←hw];exact AA (Hb2.out.alloc _)
  have H3:Hid (Below w.heap.size w w3):=by rw [←hw];exact AA (H2.out.alloc H2.out.size _)
  clear hw
  refine(HS.out w3).mono ?_
  rintro e w4 ⟨h4,rfl⟩
  have H4:Hid (Below w.heap.size w w4):=AA (H3.out.trans (h4.mono H3.out.size))
  have Hx4:Hid (AV w4 w2.heap.size 51 [.string p,.string r]):=AA (Hx.out.below h4 Hx.out.lt)
  have Hb4:Hid (AV w4 w.heap.size 51 [.string ⟨#[]⟩,.string ⟨#[]⟩]):=AA (Hb3.out.below h4 Hb3.out.lt)
  clear h4 Hx Hb3
  have ADp:=Hb4.out.frozen 0
  have ADq:=Hb4.out.frozen 1
  have hq0:=Hb4.out.q 0 rfl
  have hq1:=Hb4.out.q 1 rfl
  have hx0:=Hx4.out.q 0 rfl
  have hx1:=Hx4.out.q 1 rfl
  cases sg with
  | false=>
   have hf:Gy s=(none_,none_,15):=by rw [HR.out];simp
   go_wp2_with fail
   exact ZY ((Hb4.out.set 0 (.string ⟨#[]⟩)).set 1 (.string ⟨#[]⟩)) rfl rfl ⟨(H4.out.setCell (p:=⟨w.heap.size,0,none⟩) (Nat.le_refl _) _).setCell (p:=⟨w.heap.size,1,none⟩) (Nat.le_refl _) _,by rw [hf];rfl⟩
  | true=>
   have hf:Gy s=(p,r,0):=by rw [HR.out];simp
   go_wp2_with fail
   exact ZY ((Hb4.out.set 0 (.string p)).set 1 (.string r)) rfl rfl ⟨(H4.out.setCell (p:=⟨w.heap.size,0,none⟩) (Nat.le_refl _) _).setCell (p:=⟨w.heap.size,1,none⟩) (Nat.le_refl _) _,by rw [hf];rfl⟩
 all_goals
  have hf:Gy s=(none_,none_,15):=by rw [HR.out];simp
  go_wp2_with fail
  exact ZY ADr.out rfl rfl ⟨CF.out,by rw [hf];rfl⟩
end Go.Proofs.YtebgikflpgcnlaaGreatDoor
