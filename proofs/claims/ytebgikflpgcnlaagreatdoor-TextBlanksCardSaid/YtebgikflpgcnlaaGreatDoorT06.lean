/- Part 6 of the proof: TypesF OpsT InsS Fold -/
import Derived.Laws.ResultCell
import Derived.Laws.Rows
import Derived.Test.YtebgikflpgcnlaaGreatDoorT02
import Derived.Test.YtebgikflpgcnlaaGreatDoorT04
import Derived.Test.YtebgikflpgcnlaaGreatDoorT05
namespace Go.Proofs.YtebgikflpgcnlaaGreatDoor
set_option linter.unusedVariables false
set_option linter.unusedSimpArgs false
set_option maxRecDepth 100000
set_option maxHeartbeats 4000000
open Go.RowKit Tryz
def cutA (s:ByteArray):ByteArray:=⟨(Lib.cut s.data.toList [32,45,62,32]).1.toArray⟩
def cutB (s:ByteArray):ByteArray:=⟨(Lib.cut s.data.toList [32,45,62,32]).2.1.toArray⟩
def cutK (s:ByteArray):Bool:=(Lib.cut s.data.toList [32,45,62,32]).2.2
theorem cut_size (s:ByteArray):(cutA s).size≤s.size∧(cutB s).size≤s.size:=by
 have h:s.data.toList.length=s.size:=by simp
 unfold cutA cutB Lib.cut
 constructor
 ·show(List.toArray _).size≤_
  split<;>simp<;>omega
 ·show(List.toArray _).size≤_
  split<;>simp<;>omega
theorem meant_size (s:ByteArray):(meantS s).1.size≤s.size:=by
 unfold meantS
 split
 ·exact Nat.zero_le _
 ·exact Nat.le_refl _
def readS (s:ByteArray):ByteArray×ByteArray×Nat:=
 if cutK s=true∧(meantS (cutA s)).2=true∧(meantS (cutB s)).2=true∧sgB (meantS (cutA s)).1 (meantS (cutB s)).1=true then((meantS (cutA s)).1,(meantS (cutB s)).1,0) else(none_,none_,15)
theorem info_sig:(prog.info? 51).map (·.size)=some 2:=by kernel_rfl
theorem load_sig {W:World} {g:Nat} {a b:ByteArray} (h:Blk W g 51 [.string a,.string b]):(loadVar 51 ⟨g,0,none⟩).run prog W= .ok (.agg #[.string a,.string b]) W:=
 run_loadVar_row W g 51 51 #[.string a,.string b] (0,0) _ h underlying51 rfl info_sig
theorem fin_sig {W:World} {tmps:Array Value} {g:Nat} {x:Value} {a b:ByteArray} {Q:Ending→World→Prop} (h:Blk W g 51 [.string a,.string b])
 (h2:tmps.getD 2 undef= .pointer (some ⟨g,0,none⟩)) (h3:tmps.getD 3 undef=x) (hq:Q (.returned (.tuple #[.agg #[.string a,.string b],x])) W):
 bodyPost prog f141 Q Exit.ret ⟨tmps,[]⟩ W:=by
 refine bodyPost_ret (v:= .tuple #[.agg #[.string a,.string b],x]) ?_ rfl hq
 rw [results_cell_tmp rfl]
 simp only [h2,h3,asAddr,Sem.run_pure,Result.andThen,load_sig h]
theorem types_ReadSig (s:ByteArray) (hs:s.size<4294967281) (m:Int) (w:World) (hm:w.cell? ⟨0,0,none⟩=some (.int .i64 m)):
 Calls prog 141 #[.string s] w fun e w'=>Below w.heap.size w w'∧e= .returned (.tuple #[.agg #[.string (readS s).1,.string (readS s).2.1],.int .i64 (readS s).2.2]):=by
 have h0:0<w.heap.size:=by
  rcases Nat.eq_zero_or_pos w.heap.size with h | h
  ·exfalso
   have:w.heap[0]?=none:=Array.getElem?_eq_none (by omega)
   simp [World.cell?,this] at hm
  ·exact h
 have Hm:=hideIt hm;clear hm
 have hca:=(cut_size s).1
 have hcb:=(cut_size s).2
 have hma:=meant_size (cutA s)
 have hmb:=meant_size (cutB s)
 have HC:Hid (∀W:World,W.cell? ⟨0,0,none⟩=some (.int .i64 m)→Calls prog 184 #[.string s,.string ⟨#[32,45,62,32]⟩] W fun e w'=>e= .returned (.tuple #[.string (cutA s),.string (cutB s),.bool (cutK s)])∧ ∃n,w'=W.drewN n):=
  hideIt (fun W hW=>strings_Cut s ⟨#[32,45,62,32]⟩ m W hs hW)
 have HA:=hideIt (fun W=>types_meant (cutA s) W)
 have HB:=hideIt (fun W=>types_meant (cutB s) W)
 have HS:=hideIt (fun W=>types_Sig (meantS (cutA s)).1 (meantS (cutB s)).1 (by omega) (by omega) W)
 have HR:Hid (readS s=if cutK s=true∧(meantS (cutA s)).2=true∧(meantS (cutB s)).2=true∧sgB (meantS (cutA s)).1 (meantS (cutB s)).1=true then((meantS (cutA s)).1,(meantS (cutB s)).1,0) else(none_,none_,15)):=hideIt rfl
 clear hca hcb hma hmb
 generalize meantS (cutA s)=pa at*
 generalize meantS (cutB s)=pb at*
 generalize cutA s=ca at*
 generalize cutB s=cb at*
 generalize cutK s=ck at*
 obtain⟨p,bp⟩:=pa
 obtain⟨r,br⟩:=pb
 simp only at HA HB HS HR
 generalize sgB p r=sg at*
 go_enter func141,ntmps141
 go_wp2_with fail
 generalize hw:w.alloc (.cells #[.string ⟨#[]⟩,.string ⟨#[]⟩] 51)=w1
 have Hb:Hid (Blk w1 w.heap.size 51 [.string ⟨#[]⟩,.string ⟨#[]⟩]):=by rw [←hw];exact hideIt (Blk.new w 51 [.string ⟨#[]⟩,.string ⟨#[]⟩])
 have H1:Hid (Below w.heap.size w w1):=by rw [←hw];exact hideIt ((Below.refl _ _).alloc (Nat.le_refl _) _)
 clear hw
 refine(HC.out w1 (by rw [H1.out.cell (p:=⟨0,0,none⟩) h0];exact Hm.out)).mono ?_
 rintro e w' ⟨rfl,nd,rfl⟩
 have Hb2:Hid (Blk (w1.drewN nd) w.heap.size 51 [.string ⟨#[]⟩,.string ⟨#[]⟩]):=hideIt (Hb.out.drewN nd)
 have H2:Hid (Below w.heap.size w (w1.drewN nd)):=hideIt (below_drewN H1.out nd)
 generalize w1.drewN nd=w2 at*
 clear Hb H1
 go_wp2_with fail
 refine(HA.out w2).mono ?_
 rintro e w' ⟨rfl,rfl⟩
 go_wp2_with fail
 refine(HB.out w2).mono ?_
 rintro e w' ⟨rfl,rfl⟩
 have hfr0:=Hb2.out.frozen 0
 have hfr1:=Hb2.out.frozen 1
 have hq0:(w2.alloc (.cells #[.string p,.string r] 51)).cell? ⟨w.heap.size,0,none⟩=some (.string ⟨#[]⟩):=(Hb2.out.alloc _).cell 0
 have hq1:(w2.alloc (.cells #[.string p,.string r] 51)).cell? ⟨w.heap.size,1,none⟩=some (.string ⟨#[]⟩):=(Hb2.out.alloc _).cell 1
 have hqf0:=(Hb2.out.alloc (.cells #[.string p,.string r] 51)).frozen 0
 have hqf1:=(Hb2.out.alloc (.cells #[.string p,.string r] 51)).frozen 1
 have Hbel:Hid (Below w.heap.size w (((w2.alloc (.cells #[.string p,.string r] 51)).setCell ⟨w.heap.size,0,none⟩ (.string ⟨#[]⟩)).setCell ⟨w.heap.size,1,none⟩ (.string ⟨#[]⟩))):=
  hideIt (((H2.out.alloc H2.out.size _).setCell (p:=⟨w.heap.size,0,none⟩) (Nat.le_refl _) _).setCell (p:=⟨w.heap.size,1,none⟩) (Nat.le_refl _) _)
 have Hblk:Hid (Blk (((w2.alloc (.cells #[.string p,.string r] 51)).setCell ⟨w.heap.size,0,none⟩ (.string ⟨#[]⟩)).setCell ⟨w.heap.size,1,none⟩ (.string ⟨#[]⟩)) w.heap.size 51 [.string ⟨#[]⟩,.string ⟨#[]⟩]):=
  hideIt (((Hb2.out.alloc _).set 0 (.string ⟨#[]⟩)).set 1 (.string ⟨#[]⟩))
 cases ck<;>cases bp<;>cases br
 case true.true.true=>
  clear Hbel Hblk hq0 hq1 hqf0 hqf1 hfr0 hfr1
  go_wp2_with fail
  generalize hw:w2.alloc (.cells #[.string p,.string r] 51)=w3
  have Hx:Hid (Blk w3 w2.heap.size 51 [.string p,.string r]):=by rw [←hw];exact hideIt (Blk.new w2 51 [.string p,.string r])
  have Hb3:Hid (Blk w3 w.heap.size 51 [.string ⟨#[]⟩,.string ⟨#[]⟩]):=by rw [←hw];exact hideIt (Hb2.out.alloc _)
  have H3:Hid (Below w.heap.size w w3):=by rw [←hw];exact hideIt (H2.out.alloc H2.out.size _)
  clear hw
  refine(HS.out w3).mono ?_
  rintro e w4 ⟨h4,rfl⟩
  have H4:Hid (Below w.heap.size w w4):=hideIt (H3.out.trans (h4.mono H3.out.size))
  have Hx4:Hid (Blk w4 w2.heap.size 51 [.string p,.string r]):=hideIt (Hx.out.below h4 Hx.out.lt)
  have Hb4:Hid (Blk w4 w.heap.size 51 [.string ⟨#[]⟩,.string ⟨#[]⟩]):=hideIt (Hb3.out.below h4 Hb3.out.lt)
  clear h4 Hx Hb3
  have hfr0:=Hb4.out.frozen 0
  have hfr1:=Hb4.out.frozen 1
  have hq0:=Hb4.out.q 0 rfl
  have hq1:=Hb4.out.q 1 rfl
  have hx0:=Hx4.out.q 0 rfl
  have hx1:=Hx4.out.q 1 rfl
  cases sg with
  | false=>
   have hf:readS s=(none_,none_,15):=by rw [HR.out];simp
   go_wp2_with fail
   exact fin_sig ((Hb4.out.set 0 (.string ⟨#[]⟩)).set 1 (.string ⟨#[]⟩)) rfl rfl ⟨(H4.out.setCell (p:=⟨w.heap.size,0,none⟩) (Nat.le_refl _) _).setCell (p:=⟨w.heap.size,1,none⟩) (Nat.le_refl _) _,by rw [hf];rfl⟩
  | true=>
   have hf:readS s=(p,r,0):=by rw [HR.out];simp
   go_wp2_with fail
   exact fin_sig ((Hb4.out.set 0 (.string p)).set 1 (.string r)) rfl rfl ⟨(H4.out.setCell (p:=⟨w.heap.size,0,none⟩) (Nat.le_refl _) _).setCell (p:=⟨w.heap.size,1,none⟩) (Nat.le_refl _) _,by rw [hf];rfl⟩
 all_goals
  have hf:readS s=(none_,none_,15):=by rw [HR.out];simp
  go_wp2_with fail
  exact fin_sig Hblk.out rfl rfl ⟨Hbel.out,by rw [hf];rfl⟩
structure OpV where
 op:Nat
 word:ByteArray
 takes:Int
 pops:ByteArray
 pushes:ByteArray
 plain:Bool
def opTab:List OpV:= [
 ⟨0,⟨#[116,114,97,112]⟩,0,⟨#[]⟩,⟨#[]⟩,false⟩,
 ⟨1,⟨#[110,111,112]⟩,0,⟨#[]⟩,⟨#[]⟩,true⟩,
 ⟨2,⟨#[98,108,111,99,107]⟩,1,⟨#[]⟩,⟨#[]⟩,false⟩,
 ⟨3,⟨#[108,111,111,112]⟩,1,⟨#[]⟩,⟨#[]⟩,false⟩,
 ⟨4,⟨#[105,102]⟩,1,⟨#[]⟩,⟨#[]⟩,false⟩,
 ⟨5,⟨#[101,108,115,101]⟩,0,⟨#[]⟩,⟨#[]⟩,false⟩,
 ⟨6,⟨#[101,110,100]⟩,0,⟨#[]⟩,⟨#[]⟩,false⟩,
 ⟨7,⟨#[98,114]⟩,2,⟨#[]⟩,⟨#[]⟩,false⟩,
 ⟨8,⟨#[98,114,105,102]⟩,2,⟨#[]⟩,⟨#[]⟩,false⟩,
 ⟨9,⟨#[98,114,116,97,98,108,101]⟩,3,⟨#[]⟩,⟨#[]⟩,false⟩,
 ⟨10,⟨#[114,101,116,117,114,110]⟩,0,⟨#[]⟩,⟨#[]⟩,false⟩,
 ⟨11,⟨#[99,97,108,108]⟩,4,⟨#[]⟩,⟨#[]⟩,false⟩,
 ⟨12,⟨#[104,111,115,116]⟩,5,⟨#[]⟩,⟨#[]⟩,false⟩,
 ⟨16,⟨#[100,114,111,112]⟩,0,⟨#[]⟩,⟨#[]⟩,false⟩,
 ⟨17,⟨#[115,101,108,101,99,116]⟩,0,⟨#[]⟩,⟨#[]⟩,false⟩,
 ⟨18,⟨#[103,101,116]⟩,6,⟨#[]⟩,⟨#[]⟩,false⟩,
 ⟨19,⟨#[115,101,116]⟩,6,⟨#[]⟩,⟨#[]⟩,false⟩,
 ⟨20,⟨#[116,101,101]⟩,6,⟨#[]⟩,⟨#[]⟩,false⟩,
 ⟨21,⟨#[103,103,101,116]⟩,7,⟨#[]⟩,⟨#[]⟩,false⟩,
 ⟨22,⟨#[103,115,101,116]⟩,7,⟨#[]⟩,⟨#[]⟩,false⟩,
 ⟨24,⟨#[119,46,99,111,110,115,116]⟩,8,⟨#[]⟩,⟨#[119]⟩,true⟩,
 ⟨25,⟨#[108,46,99,111,110,115,116]⟩,8,⟨#[]⟩,⟨#[108]⟩,true⟩,
 ⟨32,⟨#[119,46,108,111,97,100,56,117]⟩,9,⟨#[119]⟩,⟨#[119]⟩,true⟩,
 ⟨33,⟨#[119,46,108,111,97,100,56,115]⟩,9,⟨#[119]⟩,⟨#[119]⟩,true⟩,
 ⟨34,⟨#[119,46,108,111,97,100,49,54,117]⟩,9,⟨#[119]⟩,⟨#[119]⟩,true⟩,
 ⟨35,⟨#[119,46,108,111,97,100,49,54,115]⟩,9,⟨#[119]⟩,⟨#[119]⟩,true⟩,
 ⟨36,⟨#[119,46,108,111,97,100]⟩,9,⟨#[119]⟩,⟨#[119]⟩,true⟩,
 ⟨37,⟨#[108,46,108,111,97,100]⟩,9,⟨#[119]⟩,⟨#[108]⟩,true⟩,
 ⟨38,⟨#[119,46,115,116,111,114,101,56]⟩,9,⟨#[119,119]⟩,⟨#[]⟩,true⟩,
 ⟨39,⟨#[119,46,115,116,111,114,101,49,54]⟩,9,⟨#[119,119]⟩,⟨#[]⟩,true⟩,
 ⟨40,⟨#[119,46,115,116,111,114,101]⟩,9,⟨#[119,119]⟩,⟨#[]⟩,true⟩,
 ⟨41,⟨#[108,46,115,116,111,114,101]⟩,9,⟨#[119,108]⟩,⟨#[]⟩,true⟩,
 ⟨42,⟨#[115,105,122,101]⟩,0,⟨#[]⟩,⟨#[119]⟩,true⟩,
 ⟨43,⟨#[103,114,111,119]⟩,0,⟨#[119]⟩,⟨#[119]⟩,true⟩,
 ⟨48,⟨#[119,46,101,113,122]⟩,0,⟨#[119]⟩,⟨#[119]⟩,true⟩,
 ⟨49,⟨#[119,46,101,113]⟩,0,⟨#[119,119]⟩,⟨#[119]⟩,true⟩,
 ⟨50,⟨#[119,46,110,101]⟩,0,⟨#[119,119]⟩,⟨#[119]⟩,true⟩,
 ⟨51,⟨#[119,46,108,116,115]⟩,0,⟨#[119,119]⟩,⟨#[119]⟩,true⟩,
 ⟨52,⟨#[119,46,108,116,117]⟩,0,⟨#[119,119]⟩,⟨#[119]⟩,true⟩,
 ⟨53,⟨#[119,46,108,101,115]⟩,0,⟨#[119,119]⟩,⟨#[119]⟩,true⟩,
 ⟨54,⟨#[119,46,108,101,117]⟩,0,⟨#[119,119]⟩,⟨#[119]⟩,true⟩,
 ⟨55,⟨#[119,46,99,108,122]⟩,0,⟨#[119]⟩,⟨#[119]⟩,true⟩,
 ⟨56,⟨#[119,46,99,116,122]⟩,0,⟨#[119]⟩,⟨#[119]⟩,true⟩,
 ⟨57,⟨#[119,46,112,111,112]⟩,0,⟨#[119]⟩,⟨#[119]⟩,true⟩,
 ⟨58,⟨#[119,46,97,100,100]⟩,0,⟨#[119,119]⟩,⟨#[119]⟩,true⟩,
 ⟨59,⟨#[119,46,115,117,98]⟩,0,⟨#[119,119]⟩,⟨#[119]⟩,true⟩,
 ⟨60,⟨#[119,46,109,117,108]⟩,0,⟨#[119,119]⟩,⟨#[119]⟩,true⟩,
 ⟨61,⟨#[119,46,100,105,118,115]⟩,0,⟨#[119,119]⟩,⟨#[119]⟩,true⟩,
 ⟨62,⟨#[119,46,100,105,118,117]⟩,0,⟨#[119,119]⟩,⟨#[119]⟩,true⟩,
 ⟨63,⟨#[119,46,114,101,109,115]⟩,0,⟨#[119,119]⟩,⟨#[119]⟩,true⟩,
 ⟨64,⟨#[119,46,114,101,109,117]⟩,0,⟨#[119,119]⟩,⟨#[119]⟩,true⟩,
 ⟨65,⟨#[119,46,97,110,100]⟩,0,⟨#[119,119]⟩,⟨#[119]⟩,true⟩,
 ⟨66,⟨#[119,46,111,114]⟩,0,⟨#[119,119]⟩,⟨#[119]⟩,true⟩,
 ⟨67,⟨#[119,46,120,111,114]⟩,0,⟨#[119,119]⟩,⟨#[119]⟩,true⟩,
 ⟨68,⟨#[119,46,115,104,108]⟩,0,⟨#[119,119]⟩,⟨#[119]⟩,true⟩,
 ⟨69,⟨#[119,46,115,104,114,115]⟩,0,⟨#[119,119]⟩,⟨#[119]⟩,true⟩,
 ⟨70,⟨#[119,46,115,104,114,117]⟩,0,⟨#[119,119]⟩,⟨#[119]⟩,true⟩,
 ⟨71,⟨#[119,46,114,111,116,108]⟩,0,⟨#[119,119]⟩,⟨#[119]⟩,true⟩,
 ⟨72,⟨#[119,46,114,111,116,114]⟩,0,⟨#[119,119]⟩,⟨#[119]⟩,true⟩,
 ⟨80,⟨#[108,46,101,113,122]⟩,0,⟨#[108]⟩,⟨#[119]⟩,true⟩,
 ⟨81,⟨#[108,46,101,113]⟩,0,⟨#[108,108]⟩,⟨#[119]⟩,true⟩,
 ⟨82,⟨#[108,46,110,101]⟩,0,⟨#[108,108]⟩,⟨#[119]⟩,true⟩,
 ⟨83,⟨#[108,46,108,116,115]⟩,0,⟨#[108,108]⟩,⟨#[119]⟩,true⟩,
 ⟨84,⟨#[108,46,108,116,117]⟩,0,⟨#[108,108]⟩,⟨#[119]⟩,true⟩,
 ⟨85,⟨#[108,46,108,101,115]⟩,0,⟨#[108,108]⟩,⟨#[119]⟩,true⟩,
 ⟨86,⟨#[108,46,108,101,117]⟩,0,⟨#[108,108]⟩,⟨#[119]⟩,true⟩,
 ⟨87,⟨#[108,46,99,108,122]⟩,0,⟨#[108]⟩,⟨#[108]⟩,true⟩,
 ⟨88,⟨#[108,46,99,116,122]⟩,0,⟨#[108]⟩,⟨#[108]⟩,true⟩,
 ⟨89,⟨#[108,46,112,111,112]⟩,0,⟨#[108]⟩,⟨#[108]⟩,true⟩,
 ⟨90,⟨#[108,46,97,100,100]⟩,0,⟨#[108,108]⟩,⟨#[108]⟩,true⟩,
 ⟨91,⟨#[108,46,115,117,98]⟩,0,⟨#[108,108]⟩,⟨#[108]⟩,true⟩,
 ⟨92,⟨#[108,46,109,117,108]⟩,0,⟨#[108,108]⟩,⟨#[108]⟩,true⟩,
 ⟨93,⟨#[108,46,100,105,118,115]⟩,0,⟨#[108,108]⟩,⟨#[108]⟩,true⟩,
 ⟨94,⟨#[108,46,100,105,118,117]⟩,0,⟨#[108,108]⟩,⟨#[108]⟩,true⟩,
 ⟨95,⟨#[108,46,114,101,109,115]⟩,0,⟨#[108,108]⟩,⟨#[108]⟩,true⟩,
 ⟨96,⟨#[108,46,114,101,109,117]⟩,0,⟨#[108,108]⟩,⟨#[108]⟩,true⟩,
 ⟨97,⟨#[108,46,97,110,100]⟩,0,⟨#[108,108]⟩,⟨#[108]⟩,true⟩,
 ⟨98,⟨#[108,46,111,114]⟩,0,⟨#[108,108]⟩,⟨#[108]⟩,true⟩,
 ⟨99,⟨#[108,46,120,111,114]⟩,0,⟨#[108,108]⟩,⟨#[108]⟩,true⟩,
 ⟨100,⟨#[108,46,115,104,108]⟩,0,⟨#[108,108]⟩,⟨#[108]⟩,true⟩,
 ⟨101,⟨#[108,46,115,104,114,115]⟩,0,⟨#[108,108]⟩,⟨#[108]⟩,true⟩,
 ⟨102,⟨#[108,46,115,104,114,117]⟩,0,⟨#[108,108]⟩,⟨#[108]⟩,true⟩,
 ⟨103,⟨#[108,46,114,111,116,108]⟩,0,⟨#[108,108]⟩,⟨#[108]⟩,true⟩,
 ⟨104,⟨#[108,46,114,111,116,114]⟩,0,⟨#[108,108]⟩,⟨#[108]⟩,true⟩,
 ⟨112,⟨#[119,46,119,114,97,112]⟩,0,⟨#[108]⟩,⟨#[119]⟩,true⟩,
 ⟨113,⟨#[108,46,101,120,116,101,110,100,115]⟩,0,⟨#[119]⟩,⟨#[108]⟩,true⟩,
 ⟨114,⟨#[108,46,101,120,116,101,110,100,117]⟩,0,⟨#[119]⟩,⟨#[108]⟩,true⟩,
 ⟨115,⟨#[119,46,101,120,116,56]⟩,0,⟨#[119]⟩,⟨#[119]⟩,true⟩,
 ⟨116,⟨#[119,46,101,120,116,49,54]⟩,0,⟨#[119]⟩,⟨#[119]⟩,true⟩,
 ⟨117,⟨#[108,46,101,120,116,51,50]⟩,0,⟨#[108]⟩,⟨#[108]⟩,true⟩]
def opRow (n:Nat):Option OpV:=opTab.find? (fun r=>r.op==n)
theorem opRow_mem {n:Nat} {r:OpV} (h:opRow n=some r):r∈opTab∧r.op=n:=⟨List.mem_of_find?_eq_some h,by have:=List.find?_some h;simpa using this⟩
def wconst:ByteArray:=⟨#[119,46,99,111,110,115,116]⟩
def boundsOf (r:OpV):Int×Int:=
 if r.takes=1∨r.takes=2∨r.takes=4∨r.takes=5∨r.takes=6∨r.takes=7 then(0,2147483647) else
 if r.takes=9 then(0,4294967295) else
 if r.takes=8 then(if r.word=wconst then(-2147483648,2147483647) else(-9223372036854775808,9223372036854775807)) else(0,0)
def insChk (x:InsV):Int:=match opRow x.op.toNat with
 | none=>21
 | some r=>if ¬((boundsOf r).1≤x.a∧x.a≤(boundsOf r).2) then 17 else
  if r.takes≠3 then(if 0<x.l.length then 17 else 0) else
  if x.l.length<1∨16<x.l.length then 17 else
  if x.l.all (fun n=>decide (0≤n∧n≤2147483647)) then 0 else 17
def folded (v:Int):Nat:=if v<0 then 2*(-(v+1)).toNat+1 else 2*v.toNat
theorem xor64_0 (a:Nat) (h:a<18446744073709551616):bits .xor .u64 (a:Int) 0=(a:Int):=by
 have:=u64_xor_nat a 0 h (by omega)
 rw [show((0:Nat):Int)=0 from rfl] at this
 rw [this,Nat.xor_zero]
theorem xor64_m (a b:Nat) (h:a<18446744073709551616) (hb:b=18446744073709551615):bits .xor .u64 (a:Int) (b:Int)=((18446744073709551615-a:Nat):Int):=by
 subst hb
 show IntKind.u64.wrap ((BitVec.ofInt 64 (a:Int)^^^BitVec.ofInt 64 ((18446744073709551615:Nat):Int)).toNat:Int)=_
 have e:BitVec.ofInt 64 ((18446744073709551615:Nat):Int)=BitVec.allOnes 64:=by decide+kernel
 have e2:(BitVec.ofInt 64 (a:Int)).toNat=a:=by
  rw [BitVec.ofInt_natCast,BitVec.toNat_ofNat];exact Nat.mod_eq_of_lt (by omega)
 rw [e,BitVec.xor_allOnes,BitVec.toNat_not,e2,IntKind.wrap_u64]
 omega
theorem fold_wire (v:Int) (h0: -9223372036854775808≤v) (h1:v<9223372036854775808):
 bits .xor .u64 (IntKind.u64.wrap (IntKind.u64.wrap v*2)) (IntKind.u64.wrap (v/9223372036854775808))=(folded v:Int):=by
 unfold folded
 rw [IntKind.wrap_u64,IntKind.wrap_u64,IntKind.wrap_u64]
 by_cases hv:v<0
 ·rw [if_pos hv]
  have e1:(v%18446744073709551616*2)%18446744073709551616=((18446744073709551616-2*(-v).toNat:Nat):Int):=by omega
  have e2:v/9223372036854775808%18446744073709551616=((18446744073709551615:Nat):Int):=by omega
  rw [e1,e2,xor64_m _ _ (by omega) rfl]
  omega
 ·rw [if_neg hv]
  have e1:(v%18446744073709551616*2)%18446744073709551616=((2*v.toNat:Nat):Int):=by omega
  have e2:v/9223372036854775808%18446744073709551616=0:=by omega
  rw [e1,e2,xor64_0 _ (by omega)]
theorem folded_lt (v:Int) (h0: -9223372036854775808≤v) (h1:v<9223372036854775808):folded v<18446744073709551616:=by unfold folded;split<;>omega
theorem unfolded_range (v:Nat) (h:v<18446744073709551616): -9223372036854775808≤unfolded v∧unfolded v<9223372036854775808:=by
 unfold unfolded
 split<;>omega
end Go.Proofs.YtebgikflpgcnlaaGreatDoor
