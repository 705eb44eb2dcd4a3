/- Part 4 of the proof: OpsT InsS EachA TypesB EachZ TypesD TypesZ TypesN Ref14 ShapeA Eq EqA -/
import Derived.Laws.StructEq
import Derived.Test.YtlagonfamllgjaaGreatDoorR02
namespace Go.Proofs.YtlagonfamllgjaaGreatDoor
set_option linter.unusedVariables false
set_option linter.unusedSimpArgs false
set_option maxRecDepth 100000
set_option maxHeartbeats 4000000
open Go.RowKit Tryz
structure Yz where
 op:Nat
 word:ByteArray
 takes:Int
 pops:ByteArray
 pushes:ByteArray
 plain:Bool
def Dk:List Yz:= [
 ⟨0,⟨#[116,114,97,112]⟩,0,⟨#[]⟩,⟨#[]⟩,false⟩,
 ⟨1,⟨#[110,111,112]⟩,0,⟨#[]⟩,⟨#[]⟩,true⟩,
 ⟨2,⟨#[98,108,111,99,107]⟩,1,⟨#[]⟩,⟨#[]⟩,false⟩,
 ⟨3,⟨#[108,111,111,112]⟩,1,⟨#[]⟩,⟨#[]⟩,false⟩,
 ⟨4,⟨#[105,102]⟩,1,⟨#[]⟩,⟨#[]⟩,false⟩,
 ⟨5,⟨#[101,108,115,101]⟩,0,⟨#[]⟩,⟨#[]⟩,false⟩,
 ⟨6,⟨#[101,110,100]⟩,0,⟨#[]⟩,⟨#[]⟩,false⟩,
 ⟨7,⟨#[98,114]⟩,2,⟨#[]⟩,⟨#[]⟩,false⟩,
 ⟨8,⟨#[98,114,105,102]⟩,2,⟨#[]⟩,⟨#[]⟩,false⟩,
 ⟨9,⟨#[98,114,116,97,98,108,101]⟩,3,⟨#[]⟩,⟨#[]⟩,false⟩,
 ⟨10,⟨#[114,101,116,117,114,110]⟩,0,⟨#[]⟩,⟨#[]⟩,false⟩,
 ⟨11,⟨#[99,97,108,108]⟩,4,⟨#[]⟩,⟨#[]⟩,false⟩,
 ⟨12,⟨#[104,111,115,116]⟩,5,⟨#[]⟩,⟨#[]⟩,false⟩,
 ⟨16,⟨#[100,114,111,112]⟩,0,⟨#[]⟩,⟨#[]⟩,false⟩,
 ⟨17,⟨#[115,101,108,101,99,116]⟩,0,⟨#[]⟩,⟨#[]⟩,false⟩,
 ⟨18,⟨#[103,101,116]⟩,6,⟨#[]⟩,⟨#[]⟩,false⟩,
 ⟨19,⟨#[115,101,116]⟩,6,⟨#[]⟩,⟨#[]⟩,false⟩,
 ⟨20,⟨#[116,101,101]⟩,6,⟨#[]⟩,⟨#[]⟩,false⟩,
 ⟨21,⟨#[103,103,101,116]⟩,7,⟨#[]⟩,⟨#[]⟩,false⟩,
 ⟨22,⟨#[103,115,101,116]⟩,7,⟨#[]⟩,⟨#[]⟩,false⟩,
 ⟨24,⟨#[119,46,99,111,110,115,116]⟩,8,⟨#[]⟩,⟨#[119]⟩,true⟩,
 ⟨25,⟨#[108,46,99,111,110,115,116]⟩,8,⟨#[]⟩,⟨#[108]⟩,true⟩,
 ⟨32,⟨#[119,46,108,111,97,100,56,117]⟩,9,⟨#[119]⟩,⟨#[119]⟩,true⟩,
 ⟨33,⟨#[119,46,108,111,97,100,56,115]⟩,9,⟨#[119]⟩,⟨#[119]⟩,true⟩,
 ⟨34,⟨#[119,46,108,111,97,100,49,54,117]⟩,9,⟨#[119]⟩,⟨#[119]⟩,true⟩,
 ⟨35,⟨#[119,46,108,111,97,100,49,54,115]⟩,9,⟨#[119]⟩,⟨#[119]⟩,true⟩,
 ⟨36,⟨#[119,46,108,111,97,100]⟩,9,⟨#[119]⟩,⟨#[119]⟩,true⟩,
 ⟨37,⟨#[108,46,108,111,97,100]⟩,9,⟨#[119]⟩,⟨#[108]⟩,true⟩,
 ⟨38,⟨#[119,46,115,116,111,114,101,56]⟩,9,⟨#[119,119]⟩,⟨#[]⟩,true⟩,
 ⟨39,⟨#[119,46,115,116,111,114,101,49,54]⟩,9,⟨#[119,119]⟩,⟨#[]⟩,true⟩,
 ⟨40,⟨#[119,46,115,116,111,114,101]⟩,9,⟨#[119,119]⟩,⟨#[]⟩,true⟩,
 ⟨41,⟨#[108,46,115,116,111,114,101]⟩,9,⟨#[119,108]⟩,⟨#[]⟩,true⟩,
 ⟨42,⟨#[115,105,122,101]⟩,0,⟨#[]⟩,⟨#[119]⟩,true⟩,
 ⟨43,⟨#[103,114,111,119]⟩,0,⟨#[119]⟩,⟨#[119]⟩,true⟩,
 ⟨48,⟨#[119,46,101,113,122]⟩,0,⟨#[119]⟩,⟨#[119]⟩,true⟩,
 ⟨49,⟨#[119,46,101,113]⟩,0,⟨#[119,119]⟩,⟨#[119]⟩,true⟩,
 ⟨50,⟨#[119,46,110,101]⟩,0,⟨#[119,119]⟩,⟨#[119]⟩,true⟩,
 ⟨51,⟨#[119,46,108,116,115]⟩,0,⟨#[119,119]⟩,⟨#[119]⟩,true⟩,
 ⟨52,⟨#[119,46,108,116,117]⟩,0,⟨#[119,119]⟩,⟨#[119]⟩,true⟩,
 ⟨53,⟨#[119,46,108,101,115]⟩,0,⟨#[119,119]⟩,⟨#[119]⟩,true⟩,
 ⟨54,⟨#[119,46,108,101,117]⟩,0,⟨#[119,119]⟩,⟨#[119]⟩,true⟩,
 ⟨55,⟨#[119,46,99,108,122]⟩,0,⟨#[119]⟩,⟨#[119]⟩,true⟩,
 ⟨56,⟨#[119,46,99,116,122]⟩,0,⟨#[119]⟩,⟨#[119]⟩,true⟩,
 ⟨57,⟨#[119,46,112,111,112]⟩,0,⟨#[119]⟩,⟨#[119]⟩,true⟩,
 ⟨58,⟨#[119,46,97,100,100]⟩,0,⟨#[119,119]⟩,⟨#[119]⟩,true⟩,
 ⟨59,⟨#[119,46,115,117,98]⟩,0,⟨#[119,119]⟩,⟨#[119]⟩,true⟩,
 ⟨60,⟨#[119,46,109,117,108]⟩,0,⟨#[119,119]⟩,⟨#[119]⟩,true⟩,
 ⟨61,⟨#[119,46,100,105,118,115]⟩,0,⟨#[119,119]⟩,⟨#[119]⟩,true⟩,
 ⟨62,⟨#[119,46,100,105,118,117]⟩,0,⟨#[119,119]⟩,⟨#[119]⟩,true⟩,
 ⟨63,⟨#[119,46,114,101,109,115]⟩,0,⟨#[119,119]⟩,⟨#[119]⟩,true⟩,
 ⟨64,⟨#[119,46,114,101,109,117]⟩,0,⟨#[119,119]⟩,⟨#[119]⟩,true⟩,
 ⟨65,⟨#[119,46,97,110,100]⟩,0,⟨#[119,119]⟩,⟨#[119]⟩,true⟩,
 ⟨66,⟨#[119,46,111,114]⟩,0,⟨#[119,119]⟩,⟨#[119]⟩,true⟩,
 ⟨67,⟨#[119,46,120,111,114]⟩,0,⟨#[119,119]⟩,⟨#[119]⟩,true⟩,
 ⟨68,⟨#[119,46,115,104,108]⟩,0,⟨#[119,119]⟩,⟨#[119]⟩,true⟩,
 ⟨69,⟨#[119,46,115,104,114,115]⟩,0,⟨#[119,119]⟩,⟨#[119]⟩,true⟩,
 ⟨70,⟨#[119,46,115,104,114,117]⟩,0,⟨#[119,119]⟩,⟨#[119]⟩,true⟩,
 ⟨71,⟨#[119,46,114,111,116,108]⟩,0,⟨#[119,119]⟩,⟨#[119]⟩,true⟩,
 ⟨72,⟨#[119,46,114,111,116,114]⟩,0,⟨#[119,119]⟩,⟨#[119]⟩,true⟩,
 ⟨80,⟨#[108,46,101,113,122]⟩,0,⟨#[108]⟩,⟨#[119]⟩,true⟩,
 ⟨81,⟨#[108,46,101,113]⟩,0,⟨#[108,108]⟩,⟨#[119]⟩,true⟩,
 ⟨82,⟨#[108,46,110,101]⟩,0,⟨#[108,108]⟩,⟨#[119]⟩,true⟩,
 ⟨83,⟨#[108,46,108,116,115]⟩,0,⟨#[108,108]⟩,⟨#[119]⟩,true⟩,
 ⟨84,⟨#[108,46,108,116,117]⟩,0,⟨#[108,108]⟩,⟨#[119]⟩,true⟩,
 ⟨85,⟨#[108,46,108,101,115]⟩,0,⟨#[108,108]⟩,⟨#[119]⟩,true⟩,
 ⟨86,⟨#[108,46,108,101,117]⟩,0,⟨#[108,108]⟩,⟨#[119]⟩,true⟩,
 ⟨87,⟨#[108,46,99,108,122]⟩,0,⟨#[108]⟩,⟨#[108]⟩,true⟩,
 ⟨88,⟨#[108,46,99,116,122]⟩,0,⟨#[108]⟩,⟨#[108]⟩,true⟩,
 ⟨89,⟨#[108,46,112,111,112]⟩,0,⟨#[108]⟩,⟨#[108]⟩,true⟩,
 ⟨90,⟨#[108,46,97,100,100]⟩,0,⟨#[108,108]⟩,⟨#[108]⟩,true⟩,
 ⟨91,⟨#[108,46,115,117,98]⟩,0,⟨#[108,108]⟩,⟨#[108]⟩,true⟩,
 ⟨92,⟨#[108,46,109,117,108]⟩,0,⟨#[108,108]⟩,⟨#[108]⟩,true⟩,
 ⟨93,⟨#[108,46,100,105,118,115]⟩,0,⟨#[108,108]⟩,⟨#[108]⟩,true⟩,
 ⟨94,⟨#[108,46,100,105,118,117]⟩,0,⟨#[108,108]⟩,⟨#[108]⟩,true⟩,
 ⟨95,⟨#[108,46,114,101,109,115]⟩,0,⟨#[108,108]⟩,⟨#[108]⟩,true⟩,
 ⟨96,⟨#[108,46,114,101,109,117]⟩,0,⟨#[108,108]⟩,⟨#[108]⟩,true⟩,
 ⟨97,⟨#[108,46,97,110,100]⟩,0,⟨#[108,108]⟩,⟨#[108]⟩,true⟩,
 ⟨98,⟨#[108,46,111,114]⟩,0,⟨#[108,108]⟩,⟨#[108]⟩,true⟩,
 ⟨99,⟨#[108,46,120,111,114]⟩,0,⟨#[108,108]⟩,⟨#[108]⟩,true⟩,
 ⟨100,⟨#[108,46,115,104,108]⟩,0,⟨#[108,108]⟩,⟨#[108]⟩,true⟩,
 ⟨101,⟨#[108,46,115,104,114,115]⟩,0,⟨#[108,108]⟩,⟨#[108]⟩,true⟩,
 ⟨102,⟨#[108,46,115,104,114,117]⟩,0,⟨#[108,108]⟩,⟨#[108]⟩,true⟩,
 ⟨103,⟨#[108,46,114,111,116,108]⟩,0,⟨#[108,108]⟩,⟨#[108]⟩,true⟩,
 ⟨104,⟨#[108,46,114,111,116,114]⟩,0,⟨#[108,108]⟩,⟨#[108]⟩,true⟩,
 ⟨112,⟨#[119,46,119,114,97,112]⟩,0,⟨#[108]⟩,⟨#[119]⟩,true⟩,
 ⟨113,⟨#[108,46,101,120,116,101,110,100,115]⟩,0,⟨#[119]⟩,⟨#[108]⟩,true⟩,
 ⟨114,⟨#[108,46,101,120,116,101,110,100,117]⟩,0,⟨#[119]⟩,⟨#[108]⟩,true⟩,
 ⟨115,⟨#[119,46,101,120,116,56]⟩,0,⟨#[119]⟩,⟨#[119]⟩,true⟩,
 ⟨116,⟨#[119,46,101,120,116,49,54]⟩,0,⟨#[119]⟩,⟨#[119]⟩,true⟩,
 ⟨117,⟨#[108,46,101,120,116,51,50]⟩,0,⟨#[108]⟩,⟨#[108]⟩,true⟩]
def Au (n:Nat):Option Yz:=Dk.find? (fun r=>r.op==n)
theorem Iq {n:Nat} {r:Yz} (h:Au n=some r):r∈Dk∧r.op=n:=⟨List.mem_of_find?_eq_some h,by have:=List.find?_some h;simpa using this⟩
def wconst:ByteArray:=⟨#[119,46,99,111,110,115,116]⟩
def BO (r:Yz):Int×Int:=
 if r.takes=1∨r.takes=2∨r.takes=4∨r.takes=5∨r.takes=6∨r.takes=7 then(0,2147483647) else
 if r.takes=9 then(0,4294967295) else
 if r.takes=8 then(if r.word=wconst then(-2147483648,2147483647) else(-9223372036854775808,9223372036854775807)) else(0,0)
def Aq (x:Ad):Int:=match Au x.op.toNat with
 | none=>21
 | some r=>if ¬((BO r).1≤x.a∧x.a≤(BO r).2) then 17 else
  if r.takes≠3 then(if 0<x.l.length then 17 else 0) else
  if x.l.length<1∨16<x.l.length then 17 else
  if x.l.all (fun n=>decide (0≤n∧n≤2147483647)) then 0 else 17
def Y8 (s:ByteArray) (gd:Nat→UInt8→Bool) (w:World) (wr:World):Prop:=
 ∃k:Nat,Dw wr w.heap.size s k∧Below w.heap.size w wr∧FW gd k (s.data.toList.drop k)=FW gd 0 s.data.toList
theorem jP (s:ByteArray) (h47:s.size≤140737488351232) (caps:List Value) (w:World) (gd:Nat→UInt8→Bool)
 (hg: ∀(i:Nat) (W:World),i<s.size→TT (s.data.toList[i]?.getD 0)=true→Below w.heap.size w W→Calls prog 123 (Value.int .i64 i::Value.int .u8 ((s.data.toList[i]?.getD 0).toNat:Int)::caps).toArray W fun e w'=>W=w'∧e= .returned (.bool (gd i (s.data.toList[i]?.getD 0)))):
 Calls prog 122 #[.string s,.func (.func 123) #[] caps.toArray] w fun e w'=>Below w.heap.size w w'∧e= .returned (.bool (FW gd 0 s.data.toList)):=by
 have Hg:=AA hg;clear hg
 go_enter func122,ntmps122
 go_wp2_with fail
 go_loopw [] (fun wr=>Y8 s gd w wr) (fun wr=>s.size-OC wr w.heap.size)
 case atStart=>exact⟨0,Dw.new w s 0,RN w s 0,rfl⟩
 case round=>
  obtain⟨k,hit,hbel,hR⟩:=hrel
  have pY:=AA hit;clear hit
  have CP:=AA hbel;clear hbel
  have HR:=AA hR;clear hR
  by_cases hlt:k<s.size
  ·have hdrop:=drop_at s.data.toList k (by simpa using hlt)
   have Hd:=AA hdrop;clear hdrop
   have hnx:=fun ty=>aO (P:=prog) pY.out hlt ty
   by_cases hlow:(s.data.toList[k]?.getD 0).toNat<128
   ·rw [RO s k hlt hlow] at hnx
    have XM:=AA (Hg.out k)
    have vN:(s.data.toList[k]?.getD 0).toNat<256:=by omega
    have HE:Hid (TT (s.data.toList[k]?.getD 0)=MQ (s.data.toList[k]?.getD 0).toNat):=AA rfl
    generalize s.data.toList[k]?.getD 0=c8 at*
    generalize c8.toNat=c at*
    have HL:=AA (Ko c (by omega) (setIter wr w.heap.size s (k+1)))
    have KA:Hid (Below w.heap.size w (setIter wr w.heap.size s (k+1))):=AA (CP.out.trans (FV _ (Nat.le_refl _)))
    have jO:=AA (pY.out.set (k+1))
    have HR2:Hid ((MQ c&&(gd k c8&&FW gd (k+1) (s.data.toList.drop (k+1))))=FW gd 0 s.data.toList):=AA (by rw [←HR.out,Hd.out,←HE.out];rfl)
    have HG:Hid (MQ c=true→_):=AA (fun h=>XM.out (setIter wr w.heap.size s (k+1)) hlt (by rw [HE.out,h]) KA.out)
    clear XM HE Hd HR
    cases hb:MQ c with
    | false=>
     rw [hb] at HL HR2
     clear HG hb
     go_wp2_with (go_at_call 150;refine HL.out.mono ?_;rintro e w' ⟨rfl,rfl⟩)
     go_ret
     exact⟨KA.out,by rw [←HR2.out];rfl⟩
    | true=>
     have HG2:=AA (HG.out hb)
     rw [hb] at HL HR2
     clear HG hb
     cases hgd:gd k c8 with
     | false=>
      rw [hgd] at HG2 HR2
      clear hgd
      go_wp2_with (first | (go_at_call 150;refine HL.out.mono ?_;rintro e w' ⟨rfl,rfl⟩) | (go_at_call 123;refine HG2.out.mono ?_;rintro e w' ⟨rfl,rfl⟩))
      go_ret
      exact⟨KA.out,by rw [←HR2.out];rfl⟩
     | true=>
      rw [hgd] at HG2 HR2
      clear hgd
      go_wp2_with (first | (go_at_call 150;refine HL.out.mono ?_;rintro e w' ⟨rfl,rfl⟩) | (go_at_call 123;refine HG2.out.mono ?_;rintro e w' ⟨rfl,rfl⟩))
      exact⟨⟨k+1,jO.out,KA.out,HR2.out⟩,by rw [pY.out.pos,jO.out.pos];omega⟩
   ·have hhi:=UH s k hlt hlow
    have HF:Hid (FW gd 0 s.data.toList=false):=AA (by
     rw [←HR.out,Hd.out]
     have h0:TT (s.data.toList[k]?.getD 0)=false:=iy _ hlow
     rw [KZ,h0]
     rfl)
    have hle:=decode_le s k
    generalize Utf8.decode s k=d at*
    obtain⟨r,wd⟩:=d
    simp only at hhi hle hnx
    have KA:Hid (Below w.heap.size w (setIter wr w.heap.size s (k+wd))):=AA (CP.out.trans (FV _ (Nat.le_refl _)))
    clear Hd hlow
    go_wp2_with fail
    go_ret
    exact⟨KA.out,by rw [HF.out];rfl⟩
  ·have hnx:=fun ty=>W_ (P:=prog) pY.out hlt ty
   have HT:Hid (FW gd 0 s.data.toList=true):=AA (by rw [←HR.out,List.drop_of_length_le (by simp;omega)];rfl)
   go_wp2_with fail
   go_ret
   exact⟨CP.out,by rw [HT.out];rfl⟩
theorem XO (i c:Int) (w:World):Calls prog 201 #[.int .i64 i,.int .u8 c] w fun e w'=>w=w'∧e= .returned (.bool true):=by
 go_enter func201,ntmps201
 go_wp2
 go_ret
 exact⟨rfl,rfl⟩
theorem Tc (s:ByteArray) (m:Nat) (h47:s.size≤140737488351232) (hm:m≤1000) (w:World):
 Calls prog 195 #[.string s,.int .i64 m] w fun e w'=>Below w.heap.size w w'∧e= .returned (.bool (Mx m s.data.toList)):=by
 have hsz:s.data.toList.length=s.size:=by simp
 by_cases h:s.size≤m
 ·have HC:=AA (VW s h47 [] w (fun _ _=>true) (fun i W _ _ _=>XO _ _ W))
  have HR:Hid (Mx m s.data.toList=FW (fun _ _=>true) 0 s.data.toList):=AA (by unfold Mx;rw [RP,hsz];simp [h])
  clear hsz
  go_enter func195,ntmps195
  go_wp2_with fail
  refine HC.out.mono ?_
  rintro e w1 ⟨h1,rfl⟩
  go_wp2_with fail
  go_ret
  exact⟨h1,by rw [HR.out];rfl⟩
 ·have HR:Hid (Mx m s.data.toList=false):=AA (by unfold Mx;rw [hsz];simp [h])
  clear hsz
  go_enter func195,ntmps195
  go_wp2_with fail
  go_ret
  exact⟨Below.refl _ _,by rw [HR.out];rfl⟩
theorem XP (s:ByteArray) (h47:s.size≤140737488351232) (w:World):
 Calls prog 183 #[.string s] w fun e w'=>Below w.heap.size w w'∧e= .returned (.bool (Mx 256 s.data.toList)):=by
 have HC:=AA (Tc s 256 h47 (by omega) w)
 generalize Mx 256 s.data.toList=b at*
 go_enter func183,ntmps183
 go_wp2_with fail
 refine HC.out.mono ?_
 rintro e w1 ⟨h1,rfl⟩
 go_wp2_with fail
 go_ret
 exact⟨h1,rfl⟩
theorem Ng (c:Nat) (hc:c<256) (w:World):Calls prog 174 #[.int .u8 c] w fun e w'=>w=w'∧e= .returned (.bool (MQ c)):=by
 by_cases h1:c=119
 ·subst h1
  go_enter func174,ntmps174
  go_wp2
  go_ret
  exact⟨rfl,rfl⟩
 ·have h1':((c:Int)==119)=false:=by simp;omega
  by_cases h2:c=108
  ·subst h2
   go_enter func174,ntmps174
   go_wp2
   go_ret
   exact⟨rfl,rfl⟩
  ·have h2':((c:Int)==108)=false:=by simp;omega
   have HF:=AA (show MQ c=false by simp [MQ,h1,h2])
   clear h1 h2
   go_enter func174,ntmps174
   go_wp2
   go_ret
   exact⟨rfl,by rw [HF.out];rfl⟩
def ABs (l:List UInt8) (w:World) (i:Value) (wr:World):Prop:= ∃k:Nat,k≤l.length∧i= .int .i64 k∧wr=w∧(l.drop k).all TT=l.all TT
theorem QM (s:ByteArray) (m:Nat) (h47:s.size≤140737488351232) (w:World):
 Calls prog 194 #[.string s,.int .i64 m] w fun e w'=>w=w'∧e= .returned (.bool (Mx m s.data.toList)):=by
 have hsz:s.data.toList.length=s.size:=by simp
 have VX:=AA hsz;clear hsz
 by_cases h:s.size≤m
 ·have HR:Hid (Mx m s.data.toList=s.data.toList.all TT):=AA (by unfold Mx;rw [VX.out];simp [h])
  have hdec:decide (m<s.size)=false:=by simp;omega
  go_enter func194,ntmps194
  go_wp2_with fail
  go_loopw [5] (fun i wr=>ABs s.data.toList w i wr) (fun i _=>s.size-(intOf i).toNat)
  case atStart=>exact⟨0,Nat.zero_le _,rfl,rfl,rfl⟩
  case round=>
   obtain⟨k,hk,rfl,hw,hR⟩:=hrel
   subst hw
   have HR2:=AA hR;clear hR
   rw [VX.out] at hk
   by_cases hlt:k<s.size
   ·have Hd:=AA (drop_at s.data.toList k (by rw [VX.out];exact hlt))
    have hb:=byte_at s k hlt
    have Hb:=AA hb;clear hb
    have hk0:(0:Int)≤k:=by omega
    have vN:(s.data.toList[k]?.getD 0).toNat<256:=UInt8.toNat_lt _
    have HE:Hid (TT (s.data.toList[k]?.getD 0)=MQ (s.data.toList[k]?.getD 0).toNat):=AA rfl
    have HR3:Hid ((TT (s.data.toList[k]?.getD 0)&&(s.data.toList.drop (k+1)).all TT)=s.data.toList.all TT):=AA (by rw [←HR2.out,Hd.out];rfl)
    clear Hd HR2
    go_wp2_with fail
    rw [Hb.out]
    refine(Ng _ vN _).mono ?_
    rintro e w' ⟨rfl,rfl⟩
    rw [HE.out] at HR3
    cases hN:MQ (s.data.toList[k]?.getD 0).toNat with
    | false=>
     rw [hN] at HR3
     clear hN
     go_wp2_with fail
     go_ret
     exact⟨rfl,by rw [HR.out,←HR3.out];rfl⟩
    | true=>
     rw [hN] at HR3
     clear hN
     go_wp2_with fail
     exact⟨⟨k+1,by rw [VX.out];omega,by go_num,rfl,HR3.out⟩,by simp [intOf];omega⟩
   ·have hge: ¬(k:Int)<s.size:=by omega
    have HT:Hid (s.data.toList.all TT=true):=AA (by rw [←HR2.out,List.drop_of_length_le (by rw [VX.out];omega)];rfl)
    go_wp2_with fail
    go_ret
    exact⟨rfl,by rw [HR.out,HT.out];rfl⟩
 ·have HR:Hid (Mx m s.data.toList=false):=AA (by unfold Mx;rw [VX.out];simp [h])
  go_enter func194,ntmps194
  go_wp2_with fail
  go_ret
  exact⟨rfl,by rw [HR.out];rfl⟩
theorem Nh (v c:Nat) (hc:c<256) (w:World):Calls prog 119 #[.int .u64 v,.int .u8 c] w fun e w'=>w=w'∧e= .returned (.bool (Du v c)):=by
 by_cases h1:c=108
 ·subst h1
  go_enter func119,ntmps119
  go_wp2
  go_ret
  exact⟨rfl,rfl⟩
 ·have h1':((c:Int)==108)=false:=by simp;omega
  by_cases h2:c=119
  ·subst h2
   by_cases hv:v<4294967296
   ·have hq:((v:Int)/4294967296==0)=true:=by simp;omega
    have HF:=AA (show Du v 119=true by simp [Du,hv])
    clear h1 h1'
    go_enter func119,ntmps119
    go_wp2
    go_ret
    exact⟨rfl,by rw [HF.out];rfl⟩
   ·have hq:((v:Int)/4294967296==0)=false:=by simp;omega
    have HF:=AA (show Du v 119=false by simp [Du,hv])
    clear h1 h1'
    go_enter func119,ntmps119
    go_wp2
    go_ret
    exact⟨rfl,by rw [HF.out];rfl⟩
  ·have h2':((c:Int)==119)=false:=by simp;omega
   have HF:=AA (show Du v c=false by simp [Du,h1,h2])
   clear h1 h2
   go_enter func119,ntmps119
   go_wp2
   go_ret
   exact⟨rfl,by rw [HF.out];rfl⟩

theorem rJ (b B n c:Nat) (A:Option Addr) (vs:List Nat) (i ch:Nat) (w:World) (hc:w.cell? ⟨b,0,none⟩=some (.slice A n c)) (hn:n=vs.length) (hr:Row w B A (vs.map uv)) (hi:i<n) (hch:ch<256):
 Calls prog 123 #[.int .i64 i,.int .u8 ch,.pointer (some ⟨b,0,none⟩)] w fun e w'=>w=w'∧e= .returned (.bool (Du (vs[i]?.getD 0) ch)):=by
 obtain⟨g,o,rfl,_,hcell⟩:=hr.word (j:=i) (by rw [←hn];exact hi)
 have HF:=AA (fun W=>Nh (vs[i]?.getD 0) ch hch W)
 generalize vs[i]?.getD 0=v at*
 have hi0:(0:Int)≤i:=by omega
 clear hr hn
 go_enter func123,ntmps123
 go_wp2_with fail
 refine(HF.out _).mono ?_
 rintro e w' ⟨rfl,rfl⟩
 go_wp2_with fail
 go_ret
 exact⟨rfl,rfl⟩
theorem Uu (A:Option Addr) (n c B:Nat) (vs:List Nat) (s:ByteArray) (w:World) (hn:n=vs.length) (hr:Row w B A (vs.map uv)) (hB:B≤w.heap.size) (h47:s.size≤140737488351232):
 Calls prog 101 #[.slice A n c,.string s] w fun e w'=>Below w.heap.size w w'∧e= .returned (.bool (EN vs s.data.toList)):=by
 have hsz:s.data.toList.length=s.size:=by simp
 by_cases h:n=s.size
 ·have HE:Hid (FW (fun i c=>RQ (vs[i]?.getD 0) c) 0 s.data.toList=EN vs s.data.toList):=AA (by
   rw [UJ vs 0 s.data.toList (by rw [hsz];omega)];rfl)
  have hone: ∀(w1:World),w1.cell? ⟨w.heap.size,0,none⟩=some (.slice A n c)→Row w1 B A (vs.map uv)→w.heap.size+1=w1.heap.size→Calls prog 122 #[.string s,.func (.func 123) #[] #[.pointer (some ⟨w.heap.size,0,none⟩)]] w1 fun e w'=>Below w1.heap.size w1 w'∧e= .returned (.bool (EN vs s.data.toList)):=fun w1 hc1 hr1 hs1=>by
   rw [←HE.out]
   refine jP s h47 [.pointer (some ⟨w.heap.size,0,none⟩)] w1 (fun i c=>RQ (vs[i]?.getD 0) c) (fun i W hi _ hW=> ?_)
   have hc2:W.cell? ⟨w.heap.size,0,none⟩=some (.slice A n c):=by rw [hW.cell (show w.heap.size<w1.heap.size by omega)];exact hc1
   exact rJ w.heap.size B n c A vs i _ W hc2 hn (hr1.below (hW.mono (show B≤w1.heap.size by omega))) (by omega) (UInt8.toNat_lt _)
  have GL:=AA hone;clear hone HE
  have Hr:=AA hr;clear hr
  have Hn:=AA hn;clear hn hsz
  go_enter func101,ntmps101
  go_wp2_with fail
  rw [show s.size=n from h.symm]
  refine(GL.out _ (by exact(AQ.new w 31 [_]).cell 0) (Hr.out.below' ((Below.refl _ _).alloc (Nat.le_refl _) _) hB) (by simp)).mono ?_
  rintro e w1 ⟨h1,rfl⟩
  go_wp2_with fail
  go_ret
  exact⟨(Below.refl _ _).trans (((Below.refl _ _).alloc (Nat.le_refl _) _).trans (h1.mono (by simp))),rfl⟩
 ·have HF:Hid (EN vs s.data.toList=false):=AA (aP _ _ (by rw [hsz];omega))
  have hne:((n:Int)==s.size)=false:=by simp;omega
  clear hr hn hsz
  go_enter func101,ntmps101
  go_wp2_with fail
  go_ret
  exact⟨(Below.refl _ _).alloc (Nat.le_refl _) _,by rw [HF.out];rfl⟩
def zs (n:Nat):List Value:=List.replicate n (.int .u64 0)
def yL (b:Nat) (w0:World) (i:Nat) (W:World):Prop:=
 ∃A c,AQ W b 31 [.slice A i c]∧W.ownsRow (b+2) 87 1 (.slice A i c) i (zs i)∧Below b w0 W∧b+2≤W.heap.size
theorem yL.iter {b i:Nat} {w0 W:World} {s:ByteArray} (h:yL b w0 i W) (pos:Nat):yL b w0 i (setIter W (b+1) s pos):=by
 obtain⟨A,c,h1,h2,h3,h4⟩:=h
 have hk:W.grownBy (setIter W (b+1) s pos) (some (b+1)):=⟨rfl,rfl,rfl,by simp [setIter],fun k hk hn=>by
  simp only [setIter];rw [Array.getElem?_setIfInBounds_ne (by intro e;exact hn (by rw [e]))]⟩
 refine⟨A,c,?_,h2.kept (row:=some (b+1)) hk ?_,h3.trans (FV _ (by omega)),by simpa [setIter] using h4⟩
 ·exact(hk.block b h1.lt (by intro e;injection e with e;omega)).trans h1
 ·cases hv:(Value.slice A i c).ownBlock with
  | none=>exact .inl rfl
  | some k=>right;intro e;injection e with e;have:=(h2.lt k hv).1;omega
theorem Un (v c:Nat) (hc:c<256) (w:World):Calls prog 175 #[.int .u64 v,.int .u8 c] w fun e w'=>w=w'∧e= .returned (.bool (Du v c)):=by
 by_cases h1:c=119
 ·subst h1
  have HF:=AA (show Du v 119=decide ((v:Int)<4294967296)by unfold Du;simp;omega)
  go_enter func175,ntmps175
  go_wp2
  go_ret
  exact⟨rfl,by rw [HF.out];rfl⟩
 ·have h1':((c:Int)==119)=false:=by simp;omega
  have HF:=AA (show Du v c=((c:Int)==108)by
   have h2:(c==119)=false:=by simp [h1]
   unfold Du
   rw [h2,Bool.false_and,Bool.or_false]
   by_cases h3:c=108
   ·subst h3;rfl
   ·have h4:(c==108)=false:=by simp [h3]
    have h5:((c:Int)==108)=false:=by simp;omega
    rw [h4,h5])
  clear h1
  go_enter func175,ntmps175
  go_wp2
  go_ret
  exact⟨rfl,by rw [HF.out];rfl⟩
theorem Rq (v c:Nat) (hc:c<256) (w:World):Calls prog 103 #[.int .u64 v,.int .u8 c] w fun e w'=>w=w'∧e= .returned (.bool (Du v c)):=by
 by_cases h1:c=108
 ·subst h1
  go_enter func103,ntmps103
  go_wp2
  go_ret
  exact⟨rfl,rfl⟩
 ·have h1':((c:Int)==108)=false:=by simp;omega
  by_cases h2:c=119
  ·subst h2
   by_cases hv:v<4294967296
   ·have hq:((v:Int)/4294967296==0)=true:=by simp;omega
    have HF:=AA (show Du v 119=true by simp [Du,hv])
    clear h1 h1'
    go_enter func103,ntmps103
    go_wp2
    go_ret
    exact⟨rfl,by rw [HF.out];rfl⟩
   ·have hq:((v:Int)/4294967296==0)=false:=by simp;omega
    have HF:=AA (show Du v 119=false by simp [Du,hv])
    clear h1 h1'
    go_enter func103,ntmps103
    go_wp2
    go_ret
    exact⟨rfl,by rw [HF.out];rfl⟩
  ·have h2':((c:Int)==119)=false:=by simp;omega
   have HF:=AA (show Du v c=false by simp [Du,h1,h2])
   clear h1 h2
   go_enter func103,ntmps103
   go_wp2
   go_ret
   exact⟨rfl,by rw [HF.out];rfl⟩
def pz (vs:List Nat) (l:List UInt8) (w:World) (i:Value) (wr:World):Prop:= ∃k m:Nat,k≤l.length∧i= .int .i64 k∧wr=w.drewN m∧EN (vs.drop k) (l.drop k)=EN vs l
theorem Rs (A:Option Addr) (n c B:Nat) (s:ByteArray) (w:World) (vs:List Nat) (hn:n=vs.length) (h47:s.size≤140737488351232) (hn47:n≤140737488351232) (hr:Row w B A (vs.map uv)):
 Calls prog 104 #[.slice A n c,.string s] w fun e w'=>(∃k,w'=w.drewN k)∧e= .returned (.bool (EN vs s.data.toList)):=by
 have hsz:s.data.toList.length=s.size:=by simp
 have VX:=AA hsz;clear hsz
 have Hn:=AA hn;clear hn
 have Hr:=AA hr;clear hr
 by_cases hnn:n=s.size
 ·subst hnn
  go_enter func104,ntmps104
  go_wp2_with fail
  go_loopw [5] (fun i wr=>pz vs s.data.toList w i wr) (fun i _=>s.size-(intOf i).toNat)
  case atStart=>exact⟨0,0,Nat.zero_le _,rfl,rfl,rfl⟩
  case round=>
   obtain⟨k,m,hk,rfl,rfl,hR⟩:=hrel
   have HR2:=AA hR;clear hR
   rw [VX.out] at hk
   by_cases hlt:k<s.size
   ·obtain⟨b,o,rfl,_,hcell⟩:=Hr.out.word (j:=k) (by rw [←Hn.out];exact hlt)
    have Hd:=AA (drop_at s.data.toList k (by rw [VX.out];exact hlt))
    have Hdv:=AA (show vs.drop k=vs[k]?.getD 0::vs.drop (k+1)from by rw [List.drop_eq_getElem_cons (by rw [←Hn.out];exact hlt),List.getElem?_eq_getElem (by rw [←Hn.out];exact hlt)];rfl)
    have hb:=byte_at s k hlt
    have Hb:=AA hb;clear hb
    have hk0:(0:Int)≤k:=by omega
    have vN:(s.data.toList[k]?.getD 0).toNat<256:=UInt8.toNat_lt _
    have HE:Hid (RQ (vs[k]?.getD 0) (s.data.toList[k]?.getD 0)=Du (vs[k]?.getD 0) (s.data.toList[k]?.getD 0).toNat):=AA rfl
    have HR3:Hid ((RQ (vs[k]?.getD 0) (s.data.toList[k]?.getD 0)&&EN (vs.drop (k+1)) (s.data.toList.drop (k+1)))=EN vs s.data.toList):=AA (by rw [←HR2.out,Hd.out,Hdv.out];rfl)
    clear Hd HR2 Hdv
    generalize vs[k]?.getD 0=v at*
    go_wp2_with fail
    cases hN:Du v (s.data.toList[k]?.getD 0).toNat with
    | false=>
     rw [HE.out,hN] at HR3
     go_quiet ((go_at_call 103;rw [Hb.out];have hq:=Rq v _ vN;rw [hN] at hq;exact Bp (hq _)))
     clear hN
     go_wp2_with fail
     go_ret
     exact⟨⟨_,World.drewN_drewN _ _ _⟩,by rw [←HR3.out];rfl⟩
    | true=>
     rw [HE.out,hN] at HR3
     go_quiet ((go_at_call 103;rw [Hb.out];have hq:=Rq v _ vN;rw [hN] at hq;exact Bp (hq _)))
     clear hN
     go_wp2_with fail
     exact⟨⟨k+1,m+nq,by rw [VX.out];omega,by go_num,rfl,HR3.out⟩,by simp [intOf];omega⟩
   ·have hge: ¬(k:Int)<s.size:=by omega
    have HT:Hid (EN vs s.data.toList=true):=AA (by rw [←HR2.out,List.drop_of_length_le (by rw [←Hn.out];omega),List.drop_of_length_le (by rw [VX.out];omega)];rfl)
    go_wp2_with fail
    go_ret
    exact⟨⟨_,rfl⟩,by rw [HT.out];rfl⟩
 ·have HR:Hid (EN vs s.data.toList=false):=AA (aP _ _ (by rw [VX.out,←Hn.out];exact hnn))
  have hne:((n:Int) !=s.size)=true:=by simp;omega
  go_enter func104,ntmps104
  go_wp2_with fail
  go_ret
  exact⟨⟨0,rfl⟩,by rw [HR.out];rfl⟩
theorem Row.text {w:World} {B:Nat} {A:Option Addr} {l:List ByteArray} (h:Row w B A (l.map sv)) {j:Nat} (hj:j<l.length):
 ∃b o,A=some ⟨b,o,none⟩∧b<B∧w.cell? ⟨b,o+j,none⟩=some (.string (l[j]?.getD ByteArray.empty)):=by
 refine h.at ?_
 rw [List.getElem?_map,List.getElem?_eq_getElem hj]
 rfl
theorem SH (s t:ByteArray) (hs:s.size≤140737488351232) (ht:t.size≤140737488351232) (w:World):
 Calls prog 200 #[.string s,.string t] w fun e w'=>w=w'∧e= .returned (.bool (ends s t)):=by
 by_cases h:t.size≤s.size
 ·have HR:Hid (ends s t=((s.extract (s.size-t.size) s.size).toList==t.toList)):=AA (by unfold ends;simp [h])
  go_enter func200,ntmps200
  go_wp2_with fail
  go_ret
  exact⟨rfl,by rw [HR.out];rfl⟩
 ·have HR:Hid (ends s t=false):=AA (by unfold ends;simp [h])
  go_enter func200,ntmps200
  go_wp2_with fail
  go_ret
  exact⟨rfl,by rw [HR.out];rfl⟩
theorem Xz (s t:ByteArray) (hs:s.size≤140737488351232) (ht:t.size≤140737488351232) (w:World):
 Calls prog 116 #[.string s,.string t] w fun e w'=>w=w'∧e= .returned (.bool (ends s t)):=by
 by_cases h:t.size≤s.size
 ·have HR:Hid (ends s t=((s.extract (s.size-t.size) s.size).toList==t.toList)):=AA (by unfold ends;simp [h])
  go_enter func116,ntmps116
  go_wp2_with fail
  go_ret
  exact⟨rfl,by rw [HR.out];rfl⟩
 ·have HR:Hid (ends s t=false):=AA (by unfold ends;simp [h])
  go_enter func116,ntmps116
  go_wp2_with fail
  go_ret
  exact⟨rfl,by rw [HR.out];rfl⟩
theorem Tp (s t:ByteArray) (hs:s.size≤140737488351232) (ht:t.size≤140737488351232) (w:World):
 Calls prog 193 #[.string s,.string t] w fun e w'=>w=w'∧e= .returned (.bool (ends s t)):=by
 have HC:=AA (SH s t hs ht w)
 generalize ends s t=b at*
 go_enter func193,ntmps193
 go_wp2_with fail
 refine HC.out.mono ?_
 rintro e w' ⟨rfl,rfl⟩
 go_wp2_with fail
 go_ret
 exact⟨rfl,rfl⟩
def ABt (l l':List UInt8) (w:World) (n:Nat) (i:Value) (wr:World):Prop:=
 ∃k m:Nat,k≤n∧i= .int .i64 k∧wr=w.drewN m∧l.take k=l'.take k
theorem XQ (A A':Option Addr) (n n' c c' B B':Nat) (w:World) (l l':List UInt8) (hn:n=l.length) (hn':n'=l'.length) (h47:n≤140737488351232) (hr:Row w B A (l.map bv)) (hr':Row w B' A' (l'.map bv)):
 Calls prog 14 #[.slice A n c,.slice A' n' c'] w fun e w'=>(∃k,w'=w.drewN k)∧e= .returned (.bool (decide (l=l'))):=by
 by_cases hnn:n=n'
 ·subst hnn
  have Hr:=Lib.hid hr;clear hr
  have Hn:=Lib.hid hn;clear hn
  have Hr':=Lib.hid hr';clear hr'
  have dZ:=Lib.hid hn';clear hn'
  go_enter func14,ntmps14
  go_wp2
  go_loopw [5] (fun i wr=>ABt l l' w n i wr) (fun i _=>n-(intOf i).toNat)
  case atStart=>exact⟨0,0,by omega,rfl,rfl,rfl⟩
  case round=>
   obtain⟨k,m,hk,rfl,rfl,hR⟩:=hrel
   have HR:=Lib.hid hR;clear hR
   by_cases hlt:k<n
   ·obtain⟨b,o,rfl,_,hcell⟩:=Hr.out.byte (j:=k) (by rw [←Hn.out];exact hlt)
    obtain⟨b',o',rfl,_,hcell'⟩:=Hr'.out.byte (j:=k) (by rw [←dZ.out];exact hlt)
    have hB:(l[k]?.getD 0).toNat<256:=UInt8.toNat_lt _
    have hB':(l'[k]?.getD 0).toNat<256:=UInt8.toNat_lt _
    have hi:(0:Int)≤k:=by omega
    have hlk:l[k]?=some (l[k]?.getD 0):=by rw [List.getElem?_eq_getElem (by rw [←Hn.out];exact hlt)];rfl
    have jQ:l'[k]?=some (l'[k]?.getD 0):=by rw [List.getElem?_eq_getElem (by rw [←dZ.out];exact hlt)];rfl
    have xU:=Lib.hid hlk;clear hlk
    have Y9:=Lib.hid jQ;clear jQ
    by_cases hq:l[k]?.getD 0=l'[k]?.getD 0
    ·have HT:Hid (l.take (k+1)=l'.take (k+1)):=by
      have h1:=xU.out
      rw [hq,←Y9.out] at h1
      refine Lib.hid ?_
      rw [List.take_add_one,List.take_add_one,HR.out,h1]
     rw [hq] at hcell
     clear hq hB xU Y9
     generalize (l'[k]?.getD 0).toNat=x at*
     have hne:((x:Int) !=x)=false:=by simp
     go_wp2
     go_quiet (fail)
     go_wp2
     exact⟨⟨k+1,m+nq,by omega,by go_num,rfl,HT.out⟩,by simp [intOf];omega⟩
    ·have hF:Hid (decide (l=l')=false):=by
      refine Lib.hid (decide_eq_false fun h=>hq ?_)
      rw [h]
     have hq':(l[k]?.getD 0).toNat≠(l'[k]?.getD 0).toNat:=fun h=>hq (UInt8.toNat_inj.1 h)
     clear hq xU Y9
     generalize (l'[k]?.getD 0).toNat=x at*
     generalize (l[k]?.getD 0).toNat=y at*
     have hne:((y:Int) !=x)=true:=by simp;omega
     clear hq'
     go_wp2
     go_quiet (fail)
     go_wp2
     go_ret
     exact⟨⟨m+nq,World.drewN_drewN _ _ _⟩,by rw [hF.out];rfl⟩
   ·obtain rfl:k=n:=by omega
    have hT:Hid (decide (l=l')=true):=by
     have:=HR.out
     rw [List.take_of_length_le (by rw [Hn.out];exact Nat.le_refl _),List.take_of_length_le (by rw [dZ.out];exact Nat.le_refl _)] at this
     exact Lib.hid (decide_eq_true this)
    go_wp2
    go_ret
    exact⟨⟨_,rfl⟩,by rw [hT.out];rfl⟩
 ·have hF:Hid (decide (l=l')=false):=Lib.hid (decide_eq_false fun h=>hnn (by rw [hn,hn',h]))
  have hne:((n:Int) !=n')=true:=by simp;omega
  clear hr hr' hn hn'
  go_enter func14,ntmps14
  go_wp2
  go_ret
  exact⟨⟨0,rfl⟩,by rw [hF.out];rfl⟩
def JD {α:Type} (l l':α) (w:World) (e:Ending) (w':World):Prop:=Below w.heap.size w w'∧ ∃b,e= .returned (.bool b)∧(b=true↔l=l')
theorem VY {a b:ByteArray} (h:a≠b):(a.toList==b.toList)=false:=by
 rw [beq_eq_false_iff_ne]
 intro he
 rw [ByteArray.toList_eq,ByteArray.toList_eq] at he
 exact h (ByteArray.ext (Array.toList_inj.1 he))
theorem int_ne' {a b:Int} (h:a≠b):(a==b)=false:=by rw [beq_eq_false_iff_ne];exact h
theorem XR (l:List UInt8):(l.flatMap fun x=> [bv x])=l.map bv:=by induction l with | nil=>rfl | cons a l ih=>rw [List.flatMap_cons,ih];rfl
theorem Ue (l:List Nat):(l.flatMap fun x=> [uv x])=l.map uv:=by induction l with | nil=>rfl | cons a l ih=>rw [List.flatMap_cons,ih];rfl
theorem jS {P:Program} {f:FuncId} {args:Array Value} {w:World} {α:Type} [DecidableEq α] {l l':α} (h:Calls P f args w fun e w'=>(∃k,w'=w.drewN k)∧e= .returned (.bool (decide (l=l')))):Calls P f args w (JD l l' w):=
 h.mono fun e w' ⟨⟨k,hk⟩,he⟩=>⟨by rw [hk];exact below_drewN (Below.refl _ _) k,_,he,decide_eq_true_iff⟩
theorem jT (A A':Option Addr) (n n' c c' hi hi':Nat) (l l':List UInt8) (w:World) (h:(Rd.u8.sl false).R w 0 hi [.slice A n c] l) (h':(Rd.u8.sl false).R w 0 hi' [.slice A' n' c'] l') (h47:n≤140737488351232):
 Calls prog 14 #[.slice A n c,.slice A' n' c'] w (JD l l' w):=
 jS (XQ A A' n n' c c' hi hi' w l l' (Dp h) (Dp h') h47 (by rw [←XR];exact Kg.row h) (by rw [←XR];exact Kg.row h'))
theorem OP (A A':Option Addr) (n n' c c' hi hi':Nat) (l l':List Nat) (w:World) (h:(Rd.u64.sl false).R w 0 hi [.slice A n c] l) (h':(Rd.u64.sl false).R w 0 hi' [.slice A' n' c'] l') (h47:n≤140737488351232):
 Calls prog 44 #[.slice A n c,.slice A' n' c'] w (JD l l' w):=
 jS (jR A A' n n' c c' hi hi' w l l' (Dp h) (Dp h') h47 (by rw [←Ue];exact XD.row h) (by rw [←Ue];exact XD.row h'))
end Go.Proofs.YtlagonfamllgjaaGreatDoor
