/- Part 4 of the proof: DecP NumP TypesA EachA EachL TypesB TypesD StrP TypesE -/
import Derived.Lib.ItoaNum
import Derived.Lib.ParseIntBTie
import Derived.Lib.ParseIntBCases
import Derived.Test.YtebgikflpgcnlaaGreatDoorProg
import Derived.Handy
import Derived.Deep.QuietTactic
import Derived.BigQuiet
import Derived.Laws.Strings
import Derived.Test.YtebgikflpgcnlaaGreatDoorT01
namespace Go.Proofs.YtebgikflpgcnlaaGreatDoor
set_option linter.unusedVariables false
set_option linter.unusedSimpArgs false
set_option maxRecDepth 100000
set_option maxHeartbeats 4000000
open Go.RowKit Tryz
def decAcc (u:Nat) (s:List UInt8):List UInt8:=if h:u=0 then s else decAcc (u/10) (UInt8.ofNat (48+u%10)::s)
termination_by u
decreasing_by omega
theorem decAcc_zero (s:List UInt8):decAcc 0 s=s:=by rw [decAcc,dif_pos rfl]
theorem decAcc_pos {u:Nat} (h:u≠0) (s:List UInt8):decAcc u s=decAcc (u/10) (UInt8.ofNat (48+u%10)::s):=by rw [decAcc,dif_neg h]
theorem decAcc_eq: ∀(u:Nat) (s:List UInt8),u≠0→decAcc u s=Lib.decDigits u++s:=by
 intro u
 induction u using Nat.strongRecOn with
 | _ u ih=>
  intro s h
  rw [decAcc_pos h]
  by_cases h10:u<10
  ·rw [show u/10=0 by omega,decAcc_zero,Lib.decDigits,dif_pos h10,Nat.mod_eq_of_lt h10]
   rfl
  ·rw [ih (u/10) (by omega) _ (by omega)]
   conv=>rhs;rw [Lib.decDigits,dif_neg h10]
   rw [List.append_assoc]
   rfl
theorem decDigits_zero:Lib.decDigits 0= [48]:=by rw [Lib.decDigits,dif_pos (by decide)];rfl
def digV (s:List UInt8):Nat:=s.foldl (fun u c=>10*u+(c.toNat-48)) 0
theorem digV_snoc (s:List UInt8) (c:UInt8):digV (s++ [c])=10*digV s+(c.toNat-48):=by
 unfold digV
 rw [List.foldl_append]
 rfl
theorem dig_toNat {d:Nat} (h:d<10):(UInt8.ofNat (48+d)).toNat=48+d:=by
 rw [UInt8.toNat_ofNat']
 omega
theorem digV_dec (u:Nat):digV (Lib.decDigits u)=u:=by
 induction u using Nat.strongRecOn with
 | _ u ih=>
  by_cases h10:u<10
  ·rw [Lib.decDigits,dif_pos h10]
   show 10*0+((UInt8.ofNat (48+u)).toNat-48)=u
   rw [dig_toNat h10]
   omega
  ·rw [Lib.decDigits,dif_neg h10,digV_snoc,ih (u/10) (by omega),dig_toNat (Nat.mod_lt _ (by decide))]
   omega
theorem dec_digit (u:Nat): ∀c∈Lib.decDigits u,48≤c.toNat∧c.toNat≤57:=by
 induction u using Nat.strongRecOn with
 | _ u ih=>
  intro c hc
  by_cases h10:u<10
  ·rw [Lib.decDigits,dif_pos h10,List.mem_singleton] at hc
   subst hc
   rw [dig_toNat h10]
   omega
  ·rw [Lib.decDigits,dif_neg h10,List.mem_append,List.mem_singleton] at hc
   rcases hc with hc | rfl
   ·exact ih (u/10) (by omega) c hc
   ·have:=Nat.mod_lt u (show 0<10 by decide)
    rw [dig_toNat this]
    omega
theorem dec_ne_nil (u:Nat):Lib.decDigits u≠ []:=by
 rw [Lib.decDigits]
 split
 ·exact List.cons_ne_nil _ _
 ·exact List.append_ne_nil_of_right_ne_nil _ (List.cons_ne_nil _ _)
def numVal:List UInt8→Int
 | 45::s=> -(digV s:Int)
 | s=>(digV s:Int)
theorem numVal_itoa (n:Int):numVal (Lib.itoa n)=n:=by
 unfold Lib.itoa
 split
 ·show-(digV (Lib.decDigits n.natAbs):Int)=n
  rw [digV_dec]
  omega
 ·rename_i h
  have hd:=dec_digit n.toNat
  have he:numVal (Lib.decDigits n.toNat)=(digV (Lib.decDigits n.toNat):Int):=by
   unfold numVal
   split
   ·rename_i s hs
    have:=hd 45 (by rw [hs];exact List.mem_cons_self ..)
    exact absurd this.1 (by decide)
   ·rfl
  rw [he,digV_dec]
  omega
def numTxt (s:List UInt8):Option Int:=if-9223372036854775808≤numVal s∧numVal s≤9223372036854775807∧Lib.itoa (numVal s)=s then some (numVal s) else none
theorem numTxt_itoa {n:Int} (h0: -9223372036854775808≤n) (h1:n≤9223372036854775807):numTxt (Lib.itoa n)=some n:=by
 unfold numTxt
 rw [numVal_itoa]
 exact if_pos ⟨h0,h1,rfl⟩
theorem numTxt_some {s:List UInt8} {n:Int} (h:numTxt s=some n): -9223372036854775808≤n∧n≤9223372036854775807∧s=Lib.itoa n:=by
 unfold numTxt at h
 split at h
 ·rename_i hc
  injection h with h
  subst h
  exact⟨hc.1,hc.2.1,hc.2.2.symm⟩
 ·cases h
theorem numTxt_none {s:List UInt8} (h:numTxt s=none) {n:Int} (h0: -9223372036854775808≤n) (h1:n≤9223372036854775807):s≠Lib.itoa n:=by
 rintro rfl
 rw [numTxt_itoa h0 h1] at h
 cases h
theorem uint10_dec (u:Nat): ∀r,u<18446744073709551616→Lib.parseUint10 0 (Lib.decDigits u++r)=Lib.parseUint10 u r:=by
 induction u using Nat.strongRecOn with
 | _ u ih=>
  intro r h
  by_cases h10:u<10
  ·rw [Lib.decDigits,dif_pos h10]
   show Lib.parseUint10 0 (UInt8.ofNat (48+u)::r)=_
   rw [Lib.parseUint10,dig_toNat h10,if_pos (by omega),if_neg (by omega),if_neg (by omega)]
   congr 1
   omega
  ·rw [Lib.decDigits,dif_neg h10,List.append_assoc,ih (u/10) (by omega) _ (by omega)]
   show Lib.parseUint10 (u/10) (UInt8.ofNat (48+u%10)::r)=_
   have hm:=Nat.mod_lt u (show 0<10 by decide)
   rw [Lib.parseUint10,dig_toNat hm,if_pos (by omega),if_neg (by omega),if_neg (by omega)]
   congr 1
   omega
theorem mag_dec {u:Nat} (h:u<18446744073709551616):Lib.parseMag (Lib.decDigits u)= .ok u:=by
 unfold Lib.parseMag
 rw [if_neg (dec_ne_nil u)]
 have:=uint10_dec u [] h
 rw [List.append_nil] at this
 rw [this]
 rfl
theorem parse_itoa {n:Int} (h0: -9223372036854775808≤n) (h1:n≤9223372036854775807):Lib.parseIntB 64 (Lib.itoa n)= .ok n:=by
 unfold Lib.itoa
 split
 ·rw [Lib.parseIntB_minus,Lib.parseUintB_64,mag_dec (by omega)]
  show(if 2^(64-1)<n.natAbs then _ else _)=_
  rw [if_neg (by omega)]
  congr 1
  omega
 ·have hd:=dec_digit n.toNat
  have hp:Lib.parseUintB 64 (Lib.decDigits n.toNat)= .ok n.toNat:=by rw [Lib.parseUintB_64,mag_dec (by omega)]
  cases hl:Lib.decDigits n.toNat with
  | nil=>exact absurd hl (dec_ne_nil _)
  | cons c r=>
   have hc:=hd c (by rw [hl];exact List.mem_cons_self ..)
   rw [hl] at hp
   rw [Lib.parseIntB_plain 64 c r (by omega) (by omega),hp]
   show(if 2^(64-1)≤n.toNat then _ else _)=_
   rw [if_neg (by omega)]
   congr 1
   omega
theorem num_ok {l:List UInt8} {v:Int} (h:Lib.parseIntB 64 l= .ok v):(-9223372036854775808≤v∧v≤9223372036854775807)∧((Lib.itoa v=l∧numTxt l=some v)∨(Lib.itoa v≠l∧numTxt l=none)):=by
 have hb:=Lib.parseIntB_bounds h
 have h0: -9223372036854775808≤v:=by simpa using hb.1
 have h1:v≤9223372036854775807:=by have:=hb.2;simp at this;omega
 refine⟨⟨h0,h1⟩,?_⟩
 by_cases he:Lib.itoa v=l
 ·exact .inl ⟨he,by rw [←he];exact numTxt_itoa h0 h1⟩
 ·refine .inr ⟨he,?_⟩
  cases hn:numTxt l with
  | none=>rfl
  | some n=>
   obtain⟨a,b,rfl⟩:=numTxt_some hn
   rw [parse_itoa a b] at h
   injection h with h
   subst h
   exact absurd rfl he
theorem num_bad {l:List UInt8} (h: ∀v,Lib.parseIntB 64 l≠ .ok v):numTxt l=none:=by
 cases hn:numTxt l with
 | none=>rfl
 | some n=>
  obtain⟨a,b,rfl⟩:=numTxt_some hn
  exact absurd (parse_itoa a b) (h n)
theorem types_Letter (c:Nat) (hc:c<256) (w:World):Calls prog 105 #[.int .u8 c] w fun e w'=>w=w'∧e= .returned (.bool (isN c)):=by
 by_cases h1:c=119
 ·subst h1
  go_enter func105,ntmps105
  go_wp2
  go_ret
  exact⟨rfl,rfl⟩
 ·have h1':((c:Int)==119)=false:=by simp;omega
  by_cases h2:c=108
  ·subst h2
   go_enter func105,ntmps105
   go_wp2
   go_ret
   exact⟨rfl,rfl⟩
  ·have h2':((c:Int)==108)=false:=by simp;omega
   have HF:=hideIt (show isN c=false by simp [isN,h1,h2])
   clear h1 h2
   go_enter func105,ntmps105
   go_wp2
   go_ret
   exact⟨rfl,by rw [HF.out];rfl⟩
def EachRelAll (s:ByteArray) (gd:Nat→UInt8→Bool) (w:World) (wr:World):Prop:=
 ∃k:Nat,IterAt wr w.heap.size s k∧Below w.heap.size w wr∧eachB gd k (s.data.toList.drop k)=eachB gd 0 s.data.toList
def EachRelLetters (s:ByteArray) (gd:Nat→UInt8→Bool) (w:World) (wr:World):Prop:=
 ∃k:Nat,IterAt wr w.heap.size s k∧Below w.heap.size w wr∧eachB gd k (s.data.toList.drop k)=eachB gd 0 s.data.toList
theorem each_letters (s:ByteArray) (h47:s.size≤140737488351232) (caps:List Value) (w:World) (gd:Nat→UInt8→Bool)
 (hg: ∀(i:Nat) (W:World),i<s.size→isL (s.data.toList[i]?.getD 0)=true→Below w.heap.size w W→Calls prog 165 (Value.int .i64 i::Value.int .u8 ((s.data.toList[i]?.getD 0).toNat:Int)::caps).toArray W fun e w'=>W=w'∧e= .returned (.bool (gd i (s.data.toList[i]?.getD 0)))):
 Calls prog 164 #[.string s,.func (.func 165) #[] caps.toArray] w fun e w'=>Below w.heap.size w w'∧e= .returned (.bool (eachB gd 0 s.data.toList)):=by
 have Hg:=hideIt hg;clear hg
 go_enter func164,ntmps164
 go_wp2_with fail
 go_loopw [] (fun wr=>EachRelLetters s gd w wr) (fun wr=>s.size-iterPos' wr w.heap.size)
 case atStart=>exact⟨0,IterAt.new w s 0,below_iter w s 0,rfl⟩
 case round=>
  obtain⟨k,hit,hbel,hR⟩:=hrel
  have Hit:=hideIt hit;clear hit
  have Hbel:=hideIt hbel;clear hbel
  have HR:=hideIt hR;clear hR
  by_cases hlt:k<s.size
  ·have hdrop:=drop_at s.data.toList k (by simpa using hlt)
   have Hd:=hideIt hdrop;clear hdrop
   have hnx:=fun ty=>next_at (P:=prog) Hit.out hlt ty
   by_cases hlow:(s.data.toList[k]?.getD 0).toNat<128
   ·rw [decode_low s k hlt hlow] at hnx
    have Hg2:=hideIt (Hg.out k)
    have hu8:(s.data.toList[k]?.getD 0).toNat<256:=by omega
    have HE:Hid (isL (s.data.toList[k]?.getD 0)=isN (s.data.toList[k]?.getD 0).toNat):=hideIt rfl
    generalize s.data.toList[k]?.getD 0=c8 at*
    generalize c8.toNat=c at*
    have HL:=hideIt (types_Letter c (by omega) (setIter wr w.heap.size s (k+1)))
    have Hbel2:Hid (Below w.heap.size w (setIter wr w.heap.size s (k+1))):=hideIt (Hbel.out.trans (below_setIter _ (Nat.le_refl _)))
    have Hit2:=hideIt (Hit.out.set (k+1))
    have HR2:Hid ((isN c&&(gd k c8&&eachB gd (k+1) (s.data.toList.drop (k+1))))=eachB gd 0 s.data.toList):=hideIt (by rw [←HR.out,Hd.out,←HE.out];rfl)
    have HG:Hid (isN c=true→_):=hideIt (fun h=>Hg2.out (setIter wr w.heap.size s (k+1)) hlt (by rw [HE.out,h]) Hbel2.out)
    clear Hg2 HE Hd HR
    cases hb:isN c with
    | false=>
     rw [hb] at HL HR2
     clear HG hb
     go_wp2_with (go_at_call 105;refine HL.out.mono ?_;rintro e w' ⟨rfl,rfl⟩)
     go_ret
     exact⟨Hbel2.out,by rw [←HR2.out];rfl⟩
    | true=>
     have HG2:=hideIt (HG.out hb)
     rw [hb] at HL HR2
     clear HG hb
     cases hgd:gd k c8 with
     | false=>
      rw [hgd] at HG2 HR2
      clear hgd
      go_wp2_with (first | (go_at_call 105;refine HL.out.mono ?_;rintro e w' ⟨rfl,rfl⟩) | (go_at_call 165;refine HG2.out.mono ?_;rintro e w' ⟨rfl,rfl⟩))
      go_ret
      exact⟨Hbel2.out,by rw [←HR2.out];rfl⟩
     | true=>
      rw [hgd] at HG2 HR2
      clear hgd
      go_wp2_with (first | (go_at_call 105;refine HL.out.mono ?_;rintro e w' ⟨rfl,rfl⟩) | (go_at_call 165;refine HG2.out.mono ?_;rintro e w' ⟨rfl,rfl⟩))
      exact⟨⟨k+1,Hit2.out,Hbel2.out,HR2.out⟩,by rw [Hit.out.pos,Hit2.out.pos];omega⟩
   ·have hhi:=decode_hi s k hlt hlow
    have HF:Hid (eachB gd 0 s.data.toList=false):=hideIt (by
     rw [←HR.out,Hd.out]
     have h0:isL (s.data.toList[k]?.getD 0)=false:=isN_hi _ hlow
     rw [eachB_cons,h0]
     rfl)
    have hle:=decode_le s k
    generalize Utf8.decode s k=d at*
    obtain⟨r,wd⟩:=d
    simp only at hhi hle hnx
    have Hbel2:Hid (Below w.heap.size w (setIter wr w.heap.size s (k+wd))):=hideIt (Hbel.out.trans (below_setIter _ (Nat.le_refl _)))
    clear Hd hlow
    go_wp2_with fail
    go_ret
    exact⟨Hbel2.out,by rw [HF.out];rfl⟩
  ·have hnx:=fun ty=>next_end (P:=prog) Hit.out hlt ty
   have HT:Hid (eachB gd 0 s.data.toList=true):=hideIt (by rw [←HR.out,List.drop_of_length_le (by simp;omega)];rfl)
   go_wp2_with fail
   go_ret
   exact⟨Hbel.out,by rw [HT.out];rfl⟩
theorem letters_one (i c:Int) (w:World):Calls prog 165 #[.int .i64 i,.int .u8 c] w fun e w'=>w=w'∧e= .returned (.bool true):=by
 go_enter func165,ntmps165
 go_wp2
 go_ret
 exact⟨rfl,rfl⟩
theorem types_letters (s:ByteArray) (m:Nat) (h47:s.size≤140737488351232) (hm:m≤1000) (w:World):
 Calls prog 128 #[.string s,.int .i64 m] w fun e w'=>Below w.heap.size w w'∧e= .returned (.bool (letB m s.data.toList)):=by
 have hsz:s.data.toList.length=s.size:=by simp
 by_cases h:s.size≤m
 ·have HC:=hideIt (each_letters s h47 [] w (fun _ _=>true) (fun i W _ _ _=>letters_one _ _ W))
  have HR:Hid (letB m s.data.toList=eachB (fun _ _=>true) 0 s.data.toList):=hideIt (by unfold letB;rw [eachB_true,hsz];simp [h])
  clear hsz
  go_enter func128,ntmps128
  go_wp2_with fail
  refine HC.out.mono ?_
  rintro e w1 ⟨h1,rfl⟩
  go_wp2_with fail
  go_ret
  exact⟨h1,by rw [HR.out];rfl⟩
 ·have HR:Hid (letB m s.data.toList=false):=hideIt (by unfold letB;rw [hsz];simp [h])
  clear hsz
  go_enter func128,ntmps128
  go_wp2_with fail
  go_ret
  exact⟨Below.refl _ _,by rw [HR.out];rfl⟩
theorem types_Shape (s:ByteArray) (h47:s.size≤140737488351232) (w:World):
 Calls prog 156 #[.string s] w fun e w'=>Below w.heap.size w w'∧e= .returned (.bool (letB 256 s.data.toList)):=by
 have HC:=hideIt (types_letters s 256 h47 (by omega) w)
 generalize letB 256 s.data.toList=b at*
 go_enter func156,ntmps156
 go_wp2_with fail
 refine HC.out.mono ?_
 rintro e w1 ⟨h1,rfl⟩
 go_wp2_with fail
 go_ret
 exact⟨h1,rfl⟩
theorem ref_Letter (c:Nat) (hc:c<256) (w:World):Calls prog 181 #[.int .u8 c] w fun e w'=>w=w'∧e= .returned (.bool (isN c)):=by
 by_cases h1:c=119
 ·subst h1
  go_enter func181,ntmps181
  go_wp2
  go_ret
  exact⟨rfl,rfl⟩
 ·have h1':((c:Int)==119)=false:=by simp;omega
  by_cases h2:c=108
  ·subst h2
   go_enter func181,ntmps181
   go_wp2
   go_ret
   exact⟨rfl,rfl⟩
  ·have h2':((c:Int)==108)=false:=by simp;omega
   have HF:=hideIt (show isN c=false by simp [isN,h1,h2])
   clear h1 h2
   go_enter func181,ntmps181
   go_wp2
   go_ret
   exact⟨rfl,by rw [HF.out];rfl⟩
def RLRel (l:List UInt8) (w:World) (i:Value) (wr:World):Prop:= ∃k:Nat,k≤l.length∧i= .int .i64 k∧wr=w∧(l.drop k).all isL=l.all isL
theorem ref_Letters (s:ByteArray) (m:Nat) (h47:s.size≤140737488351232) (w:World):
 Calls prog 135 #[.string s,.int .i64 m] w fun e w'=>w=w'∧e= .returned (.bool (letB m s.data.toList)):=by
 have hsz:s.data.toList.length=s.size:=by simp
 have Hsz:=hideIt hsz;clear hsz
 by_cases h:s.size≤m
 ·have HR:Hid (letB m s.data.toList=s.data.toList.all isL):=hideIt (by unfold letB;rw [Hsz.out];simp [h])
  have hdec:decide (m<s.size)=false:=by simp;omega
  go_enter func135,ntmps135
  go_wp2_with fail
  go_loopw [5] (fun i wr=>RLRel s.data.toList w i wr) (fun i _=>s.size-(intOf i).toNat)
  case atStart=>exact⟨0,Nat.zero_le _,rfl,rfl,rfl⟩
  case round=>
   obtain⟨k,hk,rfl,hw,hR⟩:=hrel
   subst hw
   have HR2:=hideIt hR;clear hR
   rw [Hsz.out] at hk
   by_cases hlt:k<s.size
   ·have Hd:=hideIt (drop_at s.data.toList k (by rw [Hsz.out];exact hlt))
    have hb:=byte_at s k hlt
    have Hb:=hideIt hb;clear hb
    have hk0:(0:Int)≤k:=by omega
    have hu8:(s.data.toList[k]?.getD 0).toNat<256:=UInt8.toNat_lt _
    have HE:Hid (isL (s.data.toList[k]?.getD 0)=isN (s.data.toList[k]?.getD 0).toNat):=hideIt rfl
    have HR3:Hid ((isL (s.data.toList[k]?.getD 0)&&(s.data.toList.drop (k+1)).all isL)=s.data.toList.all isL):=hideIt (by rw [←HR2.out,Hd.out];rfl)
    clear Hd HR2
    go_wp2_with fail
    rw [Hb.out]
    refine(ref_Letter _ hu8 _).mono ?_
    rintro e w' ⟨rfl,rfl⟩
    rw [HE.out] at HR3
    cases hN:isN (s.data.toList[k]?.getD 0).toNat with
    | false=>
     rw [hN] at HR3
     clear hN
     go_wp2_with fail
     go_ret
     exact⟨rfl,by rw [HR.out,←HR3.out];rfl⟩
    | true=>
     rw [hN] at HR3
     clear hN
     go_wp2_with fail
     exact⟨⟨k+1,by rw [Hsz.out];omega,by go_num,rfl,HR3.out⟩,by simp [intOf];omega⟩
   ·have hge: ¬(k:Int)<s.size:=by omega
    have HT:Hid (s.data.toList.all isL=true):=hideIt (by rw [←HR2.out,List.drop_of_length_le (by rw [Hsz.out];omega)];rfl)
    go_wp2_with fail
    go_ret
    exact⟨rfl,by rw [HR.out,HT.out];rfl⟩
 ·have HR:Hid (letB m s.data.toList=false):=hideIt (by unfold letB;rw [Hsz.out];simp [h])
  go_enter func135,ntmps135
  go_wp2_with fail
  go_ret
  exact⟨rfl,by rw [HR.out];rfl⟩
theorem types_Fits (v c:Nat) (hc:c<256) (w:World):Calls prog 158 #[.int .u64 v,.int .u8 c] w fun e w'=>w=w'∧e= .returned (.bool (fitN v c)):=by
 by_cases h1:c=108
 ·subst h1
  go_enter func158,ntmps158
  go_wp2
  go_ret
  exact⟨rfl,rfl⟩
 ·have h1':((c:Int)==108)=false:=by simp;omega
  by_cases h2:c=119
  ·subst h2
   by_cases hv:v<4294967296
   ·have hq:((v:Int)/4294967296==0)=true:=by simp;omega
    have HF:=hideIt (show fitN v 119=true by simp [fitN,hv])
    clear h1 h1'
    go_enter func158,ntmps158
    go_wp2
    go_ret
    exact⟨rfl,by rw [HF.out];rfl⟩
   ·have hq:((v:Int)/4294967296==0)=false:=by simp;omega
    have HF:=hideIt (show fitN v 119=false by simp [fitN,hv])
    clear h1 h1'
    go_enter func158,ntmps158
    go_wp2
    go_ret
    exact⟨rfl,by rw [HF.out];rfl⟩
  ·have h2':((c:Int)==119)=false:=by simp;omega
   have HF:=hideIt (show fitN v c=false by simp [fitN,h1,h2])
   clear h1 h2
   go_enter func158,ntmps158
   go_wp2
   go_ret
   exact⟨rfl,by rw [HF.out];rfl⟩

def letS (s:ByteArray):Bool:=letB 256 s.data.toList
def sv (s:ByteArray):Go.Value:= .string s
def ends (s t:ByteArray):Bool:=decide (t.size≤s.size)&&((s.extract (s.size-t.size) s.size).toList==t.toList)
theorem ends_le (s t:ByteArray) (h:ends s t=true):t.size≤s.size:=by
 unfold ends at h
 simp at h
 exact h.1
def pushS (s t:ByteArray):ByteArray×Nat:=if(letS s&&letS t)=false then(ByteArray.empty,15) else if 256<s.size+t.size then(ByteArray.empty,34) else(s++t,0)
def popS (s t:ByteArray):ByteArray×Nat:=if(letS s&&letS t)=false then(ByteArray.empty,15) else if ends s t=false then(ByteArray.empty,33) else(s.extract 0 (s.size-t.size),0)
def topS (s t:ByteArray):Bool:=(letS s&&letS t)&&ends s t
def keepS (s:ByteArray) (f:Int) (t:ByteArray):ByteArray×Nat:=
 if(letS s&&letS t)=false then(ByteArray.empty,15)
 else if f<0∨ends s t=false∨(s.size:Int)-t.size<f then(ByteArray.empty,33)
 else(s.extract 0 f.toNat++t,0)
def dash:ByteArray:=⟨#[45]⟩
def arrow:ByteArray:=⟨#[32,45,62,32]⟩
def none_:ByteArray:=⟨#[]⟩
def sideS (s:ByteArray):ByteArray:=if s=none_ then dash else s
def meantS (s:ByteArray):ByteArray×Bool:=if s=dash then(none_,true) else(s,decide (s≠none_))
theorem empty_no {s:ByteArray} (h:s≠none_):s.toList.isEmpty=false:=by
 rw [ByteArray.toList_eq]
 cases hl:s.data.toList with
 | nil=>exact absurd (by cases s;simp at hl;subst hl;rfl) h
 | cons a l=>rfl
theorem dash_no {s:ByteArray} (h:s≠dash):(s.toList== [45])=false:=by
 rw [ByteArray.toList_eq]
 refine beq_eq_false_iff_ne.2 fun he=>h ?_
 cases s
 have he':=Array.toList_inj.1 (show _=(#[45]:Array UInt8).toList from he)
 unfold dash
 rw [←he']
theorem types_said (s:ByteArray) (w:World):Calls prog 76 #[.string s] w fun e w'=>w=w'∧e= .returned (.string (sideS s)):=by
 by_cases h:s=none_
 ·subst h
  have hE:none_.toList.isEmpty=true:=by decide+kernel
  go_enter func76,ntmps76
  go_wp2
  go_ret
  exact⟨rfl,rfl⟩
 ·have HF:Hid (sideS s=s):=hideIt (if_neg h)
  have hE:=empty_no h
  clear h
  go_enter func76,ntmps76
  go_wp2
  go_ret
  exact⟨rfl,by rw [HF.out];rfl⟩
theorem ref_side (s:ByteArray) (w:World):Calls prog 81 #[.string s] w fun e w'=>w=w'∧e= .returned (.string (sideS s)):=by
 by_cases h:s=none_
 ·subst h
  have hE:none_.toList.isEmpty=true:=by decide+kernel
  go_enter func81,ntmps81
  go_wp2
  go_ret
  exact⟨rfl,rfl⟩
 ·have HF:Hid (sideS s=s):=hideIt (if_neg h)
  have hE:=empty_no h
  clear h
  go_enter func81,ntmps81
  go_wp2
  go_ret
  exact⟨rfl,by rw [HF.out];rfl⟩
theorem types_meant (s:ByteArray) (w:World):Calls prog 185 #[.string s] w fun e w'=>w=w'∧e= .returned (.tuple #[.string (meantS s).1,.bool (meantS s).2]):=by
 by_cases h:s=dash
 ·subst h
  have hE:(dash.toList== [45])=true:=by decide+kernel
  go_enter func185,ntmps185
  go_wp2
  go_ret2
  exact⟨rfl,rfl⟩
 ·have hE:=dash_no h
  by_cases h0:s=none_
  ·have HF:Hid (meantS s=(s,false)):=hideIt (by unfold meantS;rw [if_neg h];simp [h0])
   have hE2:s.toList.isEmpty=true:=by rw [h0];decide+kernel
   clear h h0
   go_enter func185,ntmps185
   go_wp2
   go_ret2
   exact⟨rfl,by rw [HF.out];rfl⟩
  ·have HF:Hid (meantS s=(s,true)):=hideIt (by unfold meantS;rw [if_neg h];simp [h0])
   have hE2:=empty_no h0
   clear h h0
   go_enter func185,ntmps185
   go_wp2
   go_ret2
   exact⟨rfl,by rw [HF.out];rfl⟩
def sgB (p r:ByteArray):Bool:=letB 8 p.data.toList&&letB 8 r.data.toList
theorem types_Sig (p r:ByteArray) (hp:p.size≤140737488351232) (hr:r.size≤140737488351232) (w:World):
 Calls prog 75 #[.agg #[.string p,.string r]] w fun e w'=>Below w.heap.size w w'∧e= .returned (.bool (sgB p r)):=by
 have HP:=hideIt (fun W=>types_letters p 8 hp (by omega) W)
 have HR:=hideIt (fun W=>types_letters r 8 hr (by omega) W)
 have HE:Hid (sgB p r=(letB 8 p.data.toList&&letB 8 r.data.toList)):=hideIt rfl
 generalize letB 8 p.data.toList=bp at*
 generalize letB 8 r.data.toList=br at*
 go_enter func75,ntmps75
 go_wp2_with fail
 generalize hw:w.alloc (.cells #[.string p,.string r] 51)=w1
 have hblk:Blk w1 w.heap.size 51 [.string p,.string r]:=by rw [←hw];exact Blk.new w 51 [.string p,.string r]
 have H1:Hid (Below w.heap.size w w1):=by rw [←hw];exact hideIt ((Below.refl _ _).alloc (Nat.le_refl _) _)
 have Hb:=hideIt hblk;clear hblk hw
 refine(HP.out w1).mono ?_
 rintro e w2 ⟨h2,rfl⟩
 have H2:Hid (Below w.heap.size w w2):=hideIt (H1.out.trans (h2.mono H1.out.size))
 have Hb2:Hid (Blk w2 w.heap.size 51 [.string p,.string r]):=hideIt (Hb.out.below h2 Hb.out.lt)
 clear h2 Hb H1
 have hc1:=Hb2.out.q 1 rfl
 cases bp with
 | false=>
  go_wp2_with fail
  go_ret
  exact⟨H2.out,by rw [HE.out];rfl⟩
 | true=>
  go_wp2_with fail
  refine(HR.out w2).mono ?_
  rintro e w3 ⟨h3,rfl⟩
  have H3:Hid (Below w.heap.size w w3):=hideIt (H2.out.trans (h3.mono H2.out.size))
  go_wp2_with fail
  go_ret
  exact⟨H3.out,by rw [HE.out];rfl⟩
theorem ref_Sig (p r:ByteArray) (hp:p.size≤140737488351232) (hr:r.size≤140737488351232) (w:World):
 Calls prog 80 #[.agg #[.string p,.string r]] w fun e w'=>Below w.heap.size w w'∧e= .returned (.bool (sgB p r)):=by
 have HP:=hideIt (fun W=>ref_Letters p 8 hp W)
 have HR:=hideIt (fun W=>ref_Letters r 8 hr W)
 have HE:Hid (sgB p r=(letB 8 p.data.toList&&letB 8 r.data.toList)):=hideIt rfl
 generalize letB 8 p.data.toList=bp at*
 generalize letB 8 r.data.toList=br at*
 go_enter func80,ntmps80
 go_wp2_with fail
 generalize hw:w.alloc (.cells #[.string p,.string r] 51)=w1
 have hblk:Blk w1 w.heap.size 51 [.string p,.string r]:=by rw [←hw];exact Blk.new w 51 [.string p,.string r]
 have H1:Hid (Below w.heap.size w w1):=by rw [←hw];exact hideIt ((Below.refl _ _).alloc (Nat.le_refl _) _)
 have hc1:=hblk.q 1 rfl
 clear hblk hw
 refine(HP.out w1).mono ?_
 rintro e w' ⟨rfl,rfl⟩
 cases bp with
 | false=>
  go_wp2_with fail
  go_ret
  exact⟨H1.out,by rw [HE.out];rfl⟩
 | true=>
  go_wp2_with fail
  refine(HR.out _).mono ?_
  rintro e w' ⟨rfl,rfl⟩
  go_wp2_with fail
  go_ret
  exact⟨H1.out,by rw [HE.out];rfl⟩
theorem sig_size {p r:ByteArray} (h:sgB p r=true):p.size≤8∧r.size≤8:=by
 unfold sgB letB at h
 simp only [Bool.and_eq_true,decide_eq_true_eq] at h
 have h1:p.data.toList.length=p.size:=by simp
 have h2:r.data.toList.length=r.size:=by simp
 omega
def wordS (p r:ByteArray):ByteArray×Nat:=if sgB p r=true then(sideS p++arrow++sideS r,0) else(none_,15)
theorem types_Word (p r:ByteArray) (hp:p.size≤140737488351232) (hr:r.size≤140737488351232) (w:World):
 Calls prog 31 #[.agg #[.string p,.string r]] w fun e w'=>Below w.heap.size w w'∧e= .returned (.tuple #[.string (wordS p r).1,.int .i64 (wordS p r).2]):=by
 have HS:=hideIt (fun W=>types_Sig p r hp hr W)
 have HP:=hideIt (fun W=>types_said p W)
 have HR:=hideIt (fun W=>types_said r W)
 cases hb:sgB p r with
 | false=>
  have HE:Hid (wordS p r=(none_,15)):=hideIt (by unfold wordS;rw [hb];rfl)
  rw [hb] at HS
  clear hb
  go_enter func31,ntmps31
  go_wp2_with fail
  refine(HS.out _).mono ?_
  rintro e w1 ⟨h1,rfl⟩
  have H1:Hid (Below w.heap.size w w1):=hideIt (((Below.refl _ _).alloc (Nat.le_refl _) _).trans (h1.mono (by simp)))
  clear h1
  go_wp2_with fail
  go_ret2
  exact⟨H1.out,by rw [HE.out];rfl⟩
 | true=>
  have HE:Hid (wordS p r=(sideS p++⟨#[32,45,62,32]⟩++sideS r,0)):=hideIt (by unfold wordS;rw [hb];rfl)
  have hpa:(sideS p).size≤100:=by have:=(sig_size hb).1;unfold sideS;split<;>(try (have:dash.size=1:=rfl))<;>omega
  have hra:(sideS r).size≤100:=by have:=(sig_size hb).2;unfold sideS;split<;>(try (have:dash.size=1:=rfl))<;>omega
  have hsz:(sideS p++(⟨#[32,45,62,32]⟩:ByteArray)).size=(sideS p).size+4:=ByteArray.size_append
  have hs4:(⟨#[32,45,62,32]⟩:ByteArray).size=4:=rfl
  rw [hb] at HS
  clear hb
  go_enter func31,ntmps31
  go_wp2_with fail
  generalize hw:w.alloc (.cells #[.string p,.string r] 51)=w1
  have hblk:Blk w1 w.heap.size 51 [.string p,.string r]:=by rw [←hw];exact Blk.new w 51 [.string p,.string r]
  have H1:Hid (Below w.heap.size w w1):=by rw [←hw];exact hideIt ((Below.refl _ _).alloc (Nat.le_refl _) _)
  have Hb:=hideIt hblk;clear hblk hw
  refine(HS.out w1).mono ?_
  rintro e w2 ⟨h2,rfl⟩
  have H2:Hid (Below w.heap.size w w2):=hideIt (H1.out.trans (h2.mono H1.out.size))
  have Hb2:Hid (Blk w2 w.heap.size 51 [.string p,.string r]):=hideIt (Hb.out.below h2 Hb.out.lt)
  clear h2 Hb H1
  have hc0:=Hb2.out.q 0 rfl
  have hc1:=Hb2.out.q 1 rfl
  go_wp2_with fail
  generalize sideS p=a at*
  generalize sideS r=b at*
  go_quiet ((go_at_call 76;first | exact quiet_on (HP.out _) | exact quiet_on (HR.out _)))
  go_wp2_with fail
  go_ret2
  exact⟨below_drewN H2.out _,by rw [HE.out];rfl⟩
theorem ref_Word (p r:ByteArray) (hp:p.size≤140737488351232) (hr:r.size≤140737488351232) (w:World):
 Calls prog 39 #[.agg #[.string p,.string r]] w fun e w'=>Below w.heap.size w w'∧e= .returned (.tuple #[.string (wordS p r).1,.int .i64 (wordS p r).2]):=by
 have HS:=hideIt (fun W=>ref_Sig p r hp hr W)
 have HP:=hideIt (fun W=>ref_side p W)
 have HR:=hideIt (fun W=>ref_side r W)
 cases hb:sgB p r with
 | false=>
  have HE:Hid (wordS p r=(none_,15)):=hideIt (by unfold wordS;rw [hb];rfl)
  rw [hb] at HS
  clear hb
  go_enter func39,ntmps39
  go_wp2_with fail
  refine(HS.out _).mono ?_
  rintro e w1 ⟨h1,rfl⟩
  have H1:Hid (Below w.heap.size w w1):=hideIt (((Below.refl _ _).alloc (Nat.le_refl _) _).trans (h1.mono (by simp)))
  clear h1
  go_wp2_with fail
  go_ret2
  exact⟨H1.out,by rw [HE.out];rfl⟩
 | true=>
  have HE:Hid (wordS p r=(sideS p++⟨#[32,45,62,32]⟩++sideS r,0)):=hideIt (by unfold wordS;rw [hb];rfl)
  have hpa:(sideS p).size≤100:=by have:=(sig_size hb).1;unfold sideS;split<;>(try (have:dash.size=1:=rfl))<;>omega
  have hra:(sideS r).size≤100:=by have:=(sig_size hb).2;unfold sideS;split<;>(try (have:dash.size=1:=rfl))<;>omega
  have hsz:(sideS p++(⟨#[32,45,62,32]⟩:ByteArray)).size=(sideS p).size+4:=ByteArray.size_append
  have hs4:(⟨#[32,45,62,32]⟩:ByteArray).size=4:=rfl
  rw [hb] at HS
  clear hb
  go_enter func39,ntmps39
  go_wp2_with fail
  generalize hw:w.alloc (.cells #[.string p,.string r] 51)=w1
  have hblk:Blk w1 w.heap.size 51 [.string p,.string r]:=by rw [←hw];exact Blk.new w 51 [.string p,.string r]
  have H1:Hid (Below w.heap.size w w1):=by rw [←hw];exact hideIt ((Below.refl _ _).alloc (Nat.le_refl _) _)
  have Hb:=hideIt hblk;clear hblk hw
  refine(HS.out w1).mono ?_
  rintro e w2 ⟨h2,rfl⟩
  have H2:Hid (Below w.heap.size w w2):=hideIt (H1.out.trans (h2.mono H1.out.size))
  have Hb2:Hid (Blk w2 w.heap.size 51 [.string p,.string r]):=hideIt (Hb.out.below h2 Hb.out.lt)
  clear h2 Hb H1
  have hc0:=Hb2.out.q 0 rfl
  have hc1:=Hb2.out.q 1 rfl
  go_wp2_with fail
  generalize sideS p=a at*
  generalize sideS r=b at*
  go_quiet ((go_at_call 81;first | exact quiet_on (HP.out _) | exact quiet_on (HR.out _)))
  go_wp2_with fail
  go_ret2
  exact⟨below_drewN H2.out _,by rw [HE.out];rfl⟩
end Go.Proofs.YtebgikflpgcnlaaGreatDoor
