/- Part 29 of the proof: PrtA PrtB PrtD -/
import Derived.Lib.ItoaLen
import Derived.Test.YtejbcledkhioeaaGreatDoorQ17
import Derived.Test.YtejbcledkhioeaaGreatDoorQ18
import Derived.Test.YtejbcledkhioeaaGreatDoorQ20
import Derived.Test.YtejbcledkhioeaaGreatDoorQ26
namespace Go.Proofs.YtejbcledkhioeaaGreatDoor
set_option linter.unusedVariables false
set_option linter.unusedSimpArgs false
set_option maxRecDepth 100000
set_option maxHeartbeats 4000000
open Go.RowKit Tryz
theorem LX (a b:List UInt8):CK a++CK b=CK (a++b):=by
 apply ByteArray.ext
 simp [CK]
theorem ints_at {W:World} {lo hi:Nat} {A:Option Addr} {n c:Nat} {xs:List Int} (h:(Rd.i64.sl false).R W lo hi [.slice A n c] xs) {k:Nat} {t:Int} (hk:xs[k]?=some t): ∃b o,A=some ⟨b,o,none⟩∧lo≤b∧b<hi∧W.cell? ⟨b,o+k,none⟩=some (.int .i64 t)∧Rd.ER t:=by
 obtain⟨b,o,e,h1,h2,cs,hc,hr⟩:=OE h hk
 obtain⟨rfl,hb⟩:=hr
 refine⟨b,o,e,h1,h2,?_,hb⟩
 have:=hc 0 _ rfl
 rwa [show o+k*Rd.i64.z+0=o+k from by show o+k*1+0=_;omega] at this
theorem bS (x:EJ) (w:World) (hv:x.v<18446744073709551616) (hf:x.l.toNat=119→x.v<4294967296):
 Calls prog 34 #[.agg #[.int .u8 (x.l.toNat:Int),.bool x.m,.int .u64 (x.v:Int)]] w fun e w'=>Below w.heap.size w w'∧e= .returned (.int .i64 (BK x)):=by
 by_cases h:x.l.toNat=119
 ·have hc:((x.l.toNat:Int)==119)=true:=by rw [h];rfl
  have hx:=hf h
  have HV:Hid (wrap64 (wrap32 (x.v:Int))=BK x):=AA (by
   unfold BK wrap64 wrap32
   simp only [h,true_and]
   (repeat' split)<;>omega)
  clear h hf hx hv
  go_enter func34,ntmps34
  go_wp2_with fail
  go_ret
  exact⟨(Below.refl _ _).alloc (Nat.le_refl _) _,by rw [HV.out];rfl⟩
 ·have hc:((x.l.toNat:Int)==119)=false:=by rw [beq_eq_false_iff_ne];omega
  have HV:Hid (wrap64 (x.v:Int)=BK x):=AA (by
   unfold BK wrap64
   simp only [h,false_and,if_false]
   (repeat' split)<;>omega)
  clear h hf hv
  go_enter func34,ntmps34
  go_wp2_with fail
  go_ret
  exact⟨(Below.refl _ _).alloc (Nat.le_refl _) _,by rw [HV.out];rfl⟩
theorem UG {n:Int} (h:Rd.ER n):(Lib.itoa n).length≤21:=Lib.itoa_length_le n h.1 (by have:=h.2;omega)
def Jq (x:DL) (k:Nat):List UInt8:= [32,32]++(MS x.op.toNat++((if Jk x.op.toNat≠0∧Jk x.op.toNat≠3 then 32::Lib.itoa x.a else [])++(x.l.take k).flatMap fun n=>32::Lib.itoa n))
theorem VL {x:DL} {k:Nat} {n:Int} (h:x.l[k]?=some n):Jq x (k+1)=Jq x k++(32::Lib.itoa n):=by
 have hk:=(List.getElem?_eq_some_iff.1 h)
 unfold Jq
 rw [List.take_succ_eq_append_getElem hk.1,hk.2,List.flatMap_append]
 simp
theorem je (x:DL):Jq x x.l.length= [32,32]++R4 x:=by
 unfold Jq R4
 rw [List.take_length]
theorem Wp {x:DL} (ha:Rd.ER x.a) (hl: ∀n∈x.l,Rd.ER n) (hw:(MS x.op.toNat).length≤64): ∀k:Nat,k≤x.l.length→(Jq x k).length≤100+22*k
 | 0,_=>by
  have:=UG ha
  unfold Jq
  simp only [List.length_append,List.take_zero,List.flatMap_nil,List.length_nil,List.length_cons]
  split
  ·simp only [List.length_cons];omega
  ·simp only [List.length_nil];omega
 | k+1,hk=>by
  have ih:=Wp ha hl hw k (by omega)
  have he:x.l[k]?=some x.l[k]:=List.getElem?_eq_getElem hk
  have:=UG (hl _ (List.mem_of_getElem? he))
  rw [VL he,List.length_append,List.length_cons]
  omega
theorem uL (op:Nat): ∃(o:XD) (b:Bool),Jo op= .tuple #[.agg #[.int .u8 (o.op:Nat),.string o.word,.int .i8 o.takes,.string o.pops,.string o.pushes,.bool o.plain],.bool b]∧MS op=o.word.data.toList∧Jk op=o.takes∧o.word.size≤64:=by
 unfold Jo MS Jk
 cases h:DU op with
 | none=>exact⟨⟨0,⟨#[]⟩,0,⟨#[]⟩,⟨#[]⟩,false⟩,false,rfl,rfl,rfl,Nat.zero_le _⟩
 | some r=>exact⟨r,true,rfl,rfl,rfl,(by decide+kernel: ∀r∈EB,r.word.size≤64) r (Iu h).1⟩
def zG (x:DL) (w:World) (v5 i:Value) (wr:World):Prop:= ∃k:Nat,k≤x.l.length∧i= .int .i64 k∧v5= .string (CK (Jq x k))∧Below w.heap.size w wr
theorem Td (x:DL) (A:Option Addr) (c hi hj:Nat) (w:World) (hx:(Rd.i64.sl false).R w 0 hi [.slice A x.l.length c] x.l) (hhi:hi≤w.heap.size) (ha:Rd.ER x.a) (hE:Dv hj w) (Ms:hj≤w.heap.size) (hop:x.op.toNat<256) (hlen:x.l.length<140737488355328):
 Calls prog 36 #[.agg #[.int .u8 (x.op.toNat:Int),.int .i64 x.a,.slice A x.l.length c]] w fun e w'=>Below w.heap.size w w'∧e= .returned (.string (CK ([32,32]++R4 x))):=by
 obtain⟨o,bb,hof,hwt,htt,hws⟩:=uL x.op.toNat
 obtain⟨T,hT⟩: ∃T,T=CK ([32,32]++R4 x):=⟨_,rfl⟩
 rw [←hT]
 have hws2:({data:= #[32,32]}:ByteArray).size+o.word.size≤9223372036854775807:=by show 2+_≤_;omega
 have HLEN:=AA (Wp ha (fun n hn=>Rd.ko hx n hn) (by rw [hwt];simpa using hws))
 have HX:=AA hx;have HE:=AA hE;have HA:=AA ha;have HT:=AA hT
 have yN:=AA hof;have HWT:=AA hwt;have HTT:=AA htt
 have HI0:Hid (Jq x 0= [32,32]++(o.word.data.toList++(if o.takes≠0∧o.takes≠3 then 32::Lib.itoa x.a else []))):=AA (by unfold Jq;rw [hwt,htt];simp)
 clear hx hE ha hof hwt htt hT
 go_enter func36,ntmps36
 go_wp2_with fail
 generalize hw1:World.alloc _ _=w1
 have hb1:Below w.heap.size w w1:=by rw [←hw1];exact(Below.refl _ _).alloc (Nat.le_refl _) _
 have hm1:AL w1 w.heap.size 53 [.int .u8 (x.op.toNat:Int),.int .i64 x.a,.slice A x.l.length c]:=by rw [←hw1];exact AL.new w _ _
 clear hw1
 refine(SI x.op.toNat w1 hop (HE.out.sI w1 (hb1.mono Ms))).mono ?_
 rintro e w2 ⟨hb2,rfl⟩
 rw [yN.out]
 have hm2:=hm1.below hb2 hm1.lt
 have aW:=AA hm2
 have HB2:=AA (hb1.trans (hb2.mono hb1.size))
 have hs2:w.heap.size≤w2.heap.size:=HB2.out.size
 have q0:=hm2.q 0 rfl
 have q1:=hm2.q 1 rfl
 have q2:=hm2.q 2 rfl
 clear hb1 hm1 hb2 hm2
 go_upto_region 3 with fail
 generalize hw3:World.alloc _ _=w3
 have hb3:Below w2.heap.size w2 w3:=by rw [←hw3];exact(Below.refl _ _).alloc (Nat.le_refl _) _
 have ho3:AL w3 w2.heap.size 136 [.int .u8 (o.op:Nat),.string o.word,.int .i8 o.takes,.string o.pops,.string o.pushes,.bool o.plain]:=by rw [←hw3];exact AL.new w2 _ _
 have Vz:=AA (aW.out.below hb3 aW.out.lt)
 have HB3:=AA (HB2.out.trans (hb3.mono hs2))
 have hs3:w.heap.size≤w3.heap.size:=HB3.out.size
 have q1:=Vz.out.q 1 rfl
 have q2:=Vz.out.q 2 rfl
 have r2:=ho3.q 2 rfl
 clear hw3 hb3 ho3 aW HB2 q0
 have h3:(∃z:Bool,((o.takes !=0)=z∧(z=true→(o.takes !=3)=false)))∧Jq x 0= [32,32]++o.word.data.toList∨((o.takes !=0)=true∧(o.takes !=3)=true)∧Jq x 0= [32,32]++(o.word.data.toList++(32::Lib.itoa x.a)):=by
  by_cases h0:o.takes=0
  ·exact .inl ⟨⟨false,by rw [h0];rfl,fun h=>by cases h⟩,by rw [HI0.out,if_neg (fun h=>h.1 h0),List.append_nil]⟩
  ·by_cases h3:o.takes=3
   ·exact .inl ⟨⟨true,bne_iff_ne.2 h0,fun _=>by rw [h3];rfl⟩,by rw [HI0.out,if_neg (fun h=>h.2 h3),List.append_nil]⟩
   ·exact .inr ⟨⟨bne_iff_ne.2 h0,bne_iff_ne.2 h3⟩,by rw [HI0.out,if_pos ⟨h0,h3⟩]⟩
 rcases h3 with⟨⟨z,hz,hz3⟩,hi0⟩ | ⟨⟨hz,hz3⟩,hi0⟩
 case' inl=>
  have HS4:Hid (({data:= #[32,32]}:ByteArray)++o.word=CK (Jq x 0)):=AA (by rw [hi0,←LX,Og];rfl)
  have J9:Hid (Below w.heap.size w w3):=HB3
  clear hi0
  cases z
  case' true=>have hz3:=hz3 rfl
  all_goals
   go_upto_region 5 with fail
   rw [HS4.out]
 case' inr=>
  have hit:(Lib.itoa x.a).length≤21:=UG HA.out
  have HC3:=AA (Lb x.a HA.out w3 (HE.out.to (HB3.out.mono Ms)) (by omega))
  have hs1:({data:= #[32]}:ByteArray).size+({data:=(Lib.itoa x.a).toArray}:ByteArray).size≤9223372036854775807:=by
   show 1+(Lib.itoa x.a).toArray.size≤_
   simp;omega
  have hs5:(({data:= #[32,32]}:ByteArray)++o.word).size+(({data:= #[32]}:ByteArray)++ {data:=(Lib.itoa x.a).toArray}).size≤9223372036854775807:=by
   rw [ByteArray.size_append,ByteArray.size_append]
   show 2+_+(1+(Lib.itoa x.a).toArray.size)≤_
   simp;omega
  have HS4:Hid (({data:= #[32,32]}:ByteArray)++o.word++(({data:= #[32]}:ByteArray)++ {data:=(Lib.itoa x.a).toArray})=CK (Jq x 0)):=AA (by
   rw [hi0,←LX,←LX,Og]
   have:CK (32::Lib.itoa x.a)=({data:= #[32]}:ByteArray)++ {data:=(Lib.itoa x.a).toArray}:=(LX [32] (Lib.itoa x.a)).symm
   rw [this,ByteArray.append_assoc]
   rfl)
  clear hi0 hit
  go_wp2_with fail
  refine HC3.out.mono ?_
  rintro e w4 ⟨hb4,rfl⟩
  have J9:Hid (Below w.heap.size w w4):=AA (HB3.out.trans (hb4.mono hs3))
  have q2:=(Vz.out.below hb4 Vz.out.lt).q 2 rfl
  clear HC3 hb4
  go_upto_region 5 with fail
  rw [HS4.out]
 all_goals
  clear q1 r2 hz hz3 hws2
  go_wp2_with fail
  go_loopw [5,7,34] (fun v5 v7 i wr=>zG x w v5 i wr) (fun _ _ i _=>x.l.length-(intOf i).toNat)
  case atStart=>exact⟨0,Nat.zero_le _,rfl,rfl,J9.out⟩
  case round=>
   obtain⟨k,hk,rfl,rfl,hb⟩:=hrel
   have HB:=AA hb
   have hsb:w.heap.size≤wr.heap.size:=hb.size
   have hk0:(0:Int)≤k:=by omega
   clear hb
   by_cases hlt:k<x.l.length
   ·obtain⟨n,hn⟩: ∃n,x.l[k]?=some n:=⟨_,List.getElem?_eq_getElem hlt⟩
    have KU:decide ((k:Int)<x.l.length)=true:=decide_eq_true (by omega)
    obtain⟨bk,ok,rfl,hbk1,hbk2,hck,NH⟩:=ints_at (Rd.below HX.out HB.out hhi) hn
    have HC:=AA (Nr n NH wr (HE.out.to (HB.out.mono Ms)) (by omega))
    have hnl:=UG NH
    have hs1:({data:= #[32]}:ByteArray).size+({data:=(Lib.itoa n).toArray}:ByteArray).size≤9223372036854775807:=by
     show 1+(Lib.itoa n).toArray.size≤_
     simp;omega
    have ABb:=HLEN.out k hk
    have hs5:(CK (Jq x k)).size+(({data:= #[32]}:ByteArray)++ {data:=(Lib.itoa n).toArray}).size≤9223372036854775807:=by
     rw [ByteArray.size_append]
     show(Jq x k).toArray.size+(1+(Lib.itoa n).toArray.size)≤_
     simp;omega
    have HS4:Hid (CK (Jq x k)++(({data:= #[32]}:ByteArray)++ {data:=(Lib.itoa n).toArray})=CK (Jq x (k+1))):=AA (by
     rw [VL hn,←LX]
     exact congrArg (_++ ·) (LX [32] (Lib.itoa n)))
    clear hn NH hnl ABb
    go_wp2_with fail
    refine HC.out.mono ?_
    rintro e w5 ⟨hb5,rfl⟩
    have JX:=AA (HB.out.trans (hb5.mono hsb))
    clear HC hb5
    go_wp2_with fail
    rw [HS4.out]
    exact⟨⟨k+1,hlt,by go_num,rfl,JX.out⟩,by simp [intOf];omega⟩
   ·obtain rfl:k=x.l.length:=by omega
    have KU:decide ((x.l.length:Int)<x.l.length)=false:=decide_eq_false (by omega)
    have HS:Hid (CK (Jq x x.l.length)=T):=AA (by rw [HT.out,je])
    go_wp2_with fail
    rw [HS.out]
    go_ret
    exact⟨HB.out,rfl⟩
theorem jf (ws:List ByteArray):(⟨(Lib.join (ws.map (·.data.toList)) [32]).toArray⟩:ByteArray)++(⟨#[10]⟩:ByteArray)=CK (Bv (ws.map (·.data.toList))):=by
 unfold Bv
 exact LX _ [10]
theorem oZ (B b:Nat) (l:List UInt8) (ws:List ByteArray) (n g o c:Nat) (w:World) (hn:ws.length=n) (h:Mg B b w l) (hB:B≤w.heap.size) (hcells: ∀(j:Nat) x,ws[j]?=some x→w.cell? ⟨g,o+j,none⟩=some (.string x)) (hg:g<w.heap.size) (hc:n≤c) (hlen:l.length+(Bv (ws.map (·.data.toList))).length≤140737488355328) (hw:ws.length≤1000):
 Calls prog 28 #[.slice (some ⟨g,o,none⟩) n c,.pointer (some ⟨b,0,none⟩)] w fun e w'=>e= .returned (.tuple #[])∧Mg B b w' (l++Bv (ws.map (·.data.toList)))∧Below B w w'∧TQ b w w':=by
 have hjl:(Lib.join (ws.map (·.data.toList)) [32]).length+1=(Bv (ws.map (·.data.toList))).length:=by unfold Bv;rw [List.length_append];rfl
 have HJ:=AA (strings_Join g o c ws ⟨#[32]⟩ w hcells hg (by omega) (by omega) (by show(Lib.join _ [32]).length≤_;omega))
 rw [hn] at HJ
 have hs1:(⟨(Lib.join (ws.map (·.data.toList)) [32]).toArray⟩:ByteArray).size+(⟨#[10]⟩:ByteArray).size≤9223372036854775807:=by
  show(Lib.join (ws.map (·.data.toList)) [32]).toArray.size+1≤_
  simp only [List.size_toArray];omega
 have HL:=AA (jf ws)
 have H:=AA h
 obtain⟨T,hT⟩: ∃T,T=Bv (ws.map (·.data.toList)):=⟨_,rfl⟩
 have HT:=AA hT
 have hT2:l.length+T.length≤140737488355328:=by rw [hT];exact hlen
 rw [←hT]
 clear hcells h hlen hjl hT
 go_enter func28,ntmps28
 go_wp2_with fail
 refine HJ.out.mono ?_
 rintro e w1 ⟨rfl,hb1⟩
 have HB1:=AA hb1
 have hs1':=hb1.size
 clear HJ hb1
 go_wp2_with fail
 rw [HL.out,←HT.out]
 have hTs:(CK T).size=T.length:=by show T.toArray.size=_;simp
 have hTd:(CK T).data.toList=T:=by simp [CK]
 have HW:=AA (Tc B b l (CK T) w1 (H.out.below HB1.out) (by omega) (by omega))
 rw [hTd] at HW
 refine HW.out.mono ?_
 rintro e w2 ⟨rfl,hA,hBw,hK⟩
 have HA:=AA hA;have J_:=AA hBw;have HK:=AA hK
 clear HW hA hBw hK
 go_wp2_with fail
 go_end0
 exact⟨rfl,HA.out,(HB1.out.mono hB).trans J_.out,HK.out.below HB1.out⟩
theorem JM {B b:Nat} {l:List UInt8} (ws:List ByteArray) (ps:List (List UInt8)) (hps:ws.map (·.data.toList)=ps) (n:Nat) (hn:ws.length=n) (g:Nat) (w:World) (hg:w.heap.size=g) (h:Mg B b w l) (hB:B≤w.heap.size) (hlen:(l++Bv ps).length≤1048576) (hw:n≤1000):
 Calls prog 28 #[.slice (some ⟨g,0,none⟩) n n,.pointer (some ⟨b,0,none⟩)] (w.alloc (.cells (ws.map Value.string).toArray 9)) fun e w'=>e= .returned (.tuple #[])∧Mg B b w' (l++Bv ps)∧Below B w w'∧TQ b w w':=by
 subst hps
 subst hg
 have hb:=(Below.refl w.heap.size w).alloc (Nat.le_refl _) (.cells (ws.map Value.string).toArray 9)
 have hrow:=AL.new w 9 (ws.map Value.string)
 rw [List.length_append] at hlen
 refine(oZ B b l ws n w.heap.size 0 n _ hn (h.below hb) (Nat.le_trans hB hb.size) (fun j x hx=> ?_) hrow.lt (Nat.le_refl _) (by omega) (by omega)).mono ?_
 ·have:=hrow.cell j
  rw [List.getElem?_map,hx] at this
  rw [Nat.zero_add]
  exact this
 ·rintro e w' ⟨h1,h2,h3,h4⟩
  exact⟨h1,h2,(hb.mono hB).trans h3,h4.below hb⟩
theorem Xl {α:Type} (f:α→List UInt8) (l:List α) (k:Nat):((l.take k).flatMap f).length≤(l.flatMap f).length:=by
 have h:=List.take_append_drop k l
 conv=>rhs;rw [←h,List.flatMap_append,List.length_append]
 omega
def kW (m:AP):List UInt8:=Bv [KG]
def Xm (x:DI):List UInt8:=Bv [S_,Vm x]
def RF (t:Int):List UInt8:=Bv [MU,Lib.itoa t]
def bT (m:AP):List UInt8:=kW m++m.types.flatMap Xm
def bU (m:AP):List UInt8:=bT m++m.hosts.flatMap RF
def wP (m:AP):List UInt8:=bU m++m.globs.flatMap JH
def fM (m:AP):List UInt8:=wP m++Bv [JL,Lib.itoa m.first,Lib.itoa m.most]
def bV (m:AP):List UInt8:=fM m++m.fns.flatMap Zw
def bW (m:AP):List UInt8:=bV m++m.dat.flatMap R5
def uM (m:AP):List UInt8:=bW m++m.AU.flatMap R6
theorem oh (m:AP):uM m=Gb m:=by
 unfold uM bW bV fM wP bU bT kW Gb dM dN
 show _=(Bv [KG]++(m.types.flatMap Xm++(m.hosts.flatMap RF++(m.globs.flatMap JH++Bv [JL,Lib.itoa m.first,Lib.itoa m.most]))))++(m.fns.flatMap Zw++(m.dat.flatMap R5++m.AU.flatMap R6))
 simp only [List.append_assoc]
theorem VN (m:AP) (h:(Gb m).length≤1048576):(kW m).length≤1048576∧(bT m).length≤1048576∧(bU m).length≤1048576∧(wP m).length≤1048576∧(fM m).length≤1048576∧(bV m).length≤1048576∧(bW m).length≤1048576∧(uM m).length≤1048576:=by
 rw [←oh] at h
 have l1:(bT m).length=(kW m).length+(m.types.flatMap Xm).length:=List.length_append
 have l2:(bU m).length=(bT m).length+(m.hosts.flatMap RF).length:=List.length_append
 have l3:(wP m).length=(bU m).length+(m.globs.flatMap JH).length:=List.length_append
 have l4:(fM m).length=(wP m).length+(Bv [JL,Lib.itoa m.first,Lib.itoa m.most]).length:=List.length_append
 have l5:(bV m).length=(fM m).length+(m.fns.flatMap Zw).length:=List.length_append
 have l6:(bW m).length=(bV m).length+(m.dat.flatMap R5).length:=List.length_append
 have l7:(uM m).length=(bW m).length+(m.AU.flatMap R6).length:=List.length_append
 omega
theorem Jb {α:Type} (pre:List UInt8) (f:α→List UInt8) {l:List α} {k:Nat} {x:α} (h:l[k]?=some x):pre++(l.take k).flatMap f++f x=pre++(l.take (k+1)).flatMap f:=by
 rw [Ev h,List.append_assoc]
theorem GL {α:Type} (pre:List UInt8) (f:α→List UInt8) {l:List α} {k:Nat} {x:α} (h:l[k]?=some x):(pre++(l.take k).flatMap f++f x).length≤(pre++l.flatMap f).length:=by
 rw [Jb pre f h,List.length_append,List.length_append]
 have:=Xl f l (k+1)
 omega
theorem om (s:ByteArray):DV s=CK (Fq s):=by
 unfold DV Fq
 by_cases hz:s=none_
 ·rw [if_pos hz,if_pos (by rw [hz];rfl)];rfl
 ·rw [if_neg hz,if_neg (fun e=>hz (by
   cases s with
   | mk d=>
    have:d.size=0:=e
    rw [show d= #[] from Array.eq_empty_of_size_eq_zero this];rfl)),Og]
theorem N7 {α:Type} (f:α→Nat): ∀ {l:List α} {x:α},x∈l→f x≤A_ f l
 | y::l,x,h=>by
  have e:A_ f (y::l)=f y+A_ f l:=by simp [A_]
  rcases List.mem_cons.1 h with rfl | h
  ·omega
  ·have:=N7 f h;omega
theorem zH {m:AP} {f:GR} (hf:f∈m.fns) (h:Ap m≤2147483647):f.code.length≤2147483647∧ ∀y∈f.code,y.l.length≤2147483647:=by
 have h1:=N7 J2 hf
 have h2:A_ J2 m.fns≤Ap m:=by unfold Ap;omega
 have h3:J2 f=f.loc.size+(f.code.length+A_ (fun i=>i.l.length) f.code):=rfl
 refine⟨by omega,fun y hy=> ?_⟩
 have h4:=N7 (fun i:DL=>i.l.length) hy
 have h5:y.l.length≤A_ (fun i:DL=>i.l.length) f.code:=h4
 omega
theorem uN {m:AP} {d:EU} (hd:d∈m.dat) (h:Ap m≤2147483647):d.b.length≤2147483647:=by
 have h1:=N7 (fun d:EU=>d.b.length) hd
 have h2:A_ (fun d:EU=>d.b.length) m.dat≤Ap m:=by unfold Ap;omega
 have h3:d.b.length≤A_ (fun d:EU=>d.b.length) m.dat:=h1
 omega
theorem oo {x:DI} (h:aI x.p x.r=true):(OJ x.p x.r).1=CK (Vm x):=by
 have hs: ∀s:ByteArray,DV s=CK (Fq s):=fun s=>by
  unfold DV Fq
  by_cases hz:s=none_
  ·rw [if_pos hz,if_pos (by rw [hz];rfl)];rfl
  ·rw [if_neg hz,if_neg (fun e=>hz (by
    cases s with
    | mk d=>
     have:d.size=0:=e
     rw [show d= #[] from Array.eq_empty_of_size_eq_zero this];rfl)),Og]
 unfold OJ Vm
 rw [if_pos h]
 show DV x.p++arrow++DV x.r=_
 rw [hs,hs,←LX,←LX,ByteArray.append_assoc]
 rfl
structure PR (w0 wr:World) (l:List UInt8):Prop where
 IE:Below w0.heap.size w0 wr
 YR:Mg w0.heap.size w0.heap.size wr l
structure Ot (w w2:World) (hi hj:Nat) (m:AP) (A1:Option Addr) (c1:Nat) (A2:Option Addr) (c2:Nat) (A3:Option Addr) (c3:Nat) (A6:Option Addr) (c6:Nat) (A7:Option Addr) (c7:Nat) (A8:Option Addr) (c8:Nat):Prop where
 hhi:hi≤w.heap.size
 Ms:hj≤w.heap.size
 IE:Below w.heap.size w w2
 lt:w.heap.size<w2.heap.size
 env:Dv hj w
 fine:rZ m
 le:(Gb m).length≤1048576
 few:Ap m≤2147483647
 blk:AL w2 w.heap.size 29 [.slice A1 m.types.length c1,.slice A2 m.hosts.length c2,.slice A3 m.globs.length c3,.int .i64 m.first,.int .i64 m.most,.slice A6 m.fns.length c6,.slice A7 m.dat.length c7,.slice A8 m.AU.length c8]
 h1:(LD.sl false).R w 0 hi [.slice A1 m.types.length c1] m.types
 h2:(Rd.i64.sl false).R w 0 hi [.slice A2 m.hosts.length c2] m.hosts
 h3:(Jf.sl false).R w 0 hi [.slice A3 m.globs.length c3] m.globs
 h6:(Rt.sl false).R w 0 hi [.slice A6 m.fns.length c6] m.fns
 h7:(JC.sl false).R w 0 hi [.slice A7 m.dat.length c7] m.dat
 h8:(Lf.sl false).R w 0 hi [.slice A8 m.AU.length c8] m.AU
def Jr:Code→List Code
 | .loop c=> [c]
 | .seq a b=>Jr a++Jr b
 | .block _ c=>Jr c
 | .scope c=>Jr c
 | .cond _ a b=>Jr a++Jr b
 | _=> []
noncomputable def I9 (n:Nat):Code:=((((f10.body.map Jr).getD [])[n]?).getD .skip)
noncomputable def RG (n:Nat):Code:=(((Jr (I9 n))[0]?).getD .skip)
set_option maxRecDepth 1000000 in
theorem Tf {w w2:World} {hi hj:Nat} {m:AP} {A1 A2 A3 A6 A7 A8:Option Addr} {c1 c2 c3 c6 c7 c8:Nat} (C:Hid (Ot w w2 hi hj m A1 c1 A2 c2 A3 c3 A6 c6 A7 c7 A8 c8)) {k:Nat} {wr:World} (hk:k≤m.hosts.length) (HP:Hid (PR w2 wr (bT m++(m.hosts.take k).flatMap RF)))
 (s0 s2 s3 s4 s7 s8 s9 s10 s11 s13 Fw s15 s16 En EN GZ s20 Eo Ga EO s24 EP Ep Ea Eb Ec Ed E9 E_ FB FC FD FE G7 G8 G9 G_ Hf Hl s43 s44 Ho Hq Hw GI s49 Hz H_ IB s53 Ee Er s68 Fx Fy Fz s72 F4 F5 F6 F7 F8 F9 GA GD GH s82 s83 Gw Gx Gy s87 FH FI FJ FK FL FM FN FP FQ Gz G5 G6 BZ Ba Bb Bc Bd Bf Bg Bh Bj Bl Bn Bo Bp CS CU CV CW CX CY Bz B_ CB CF CG CJ BL BF BM BN BO BP BQ BR BS DX DY DZ Da Db Dc Df Dh Di Dj Dk Dl Dm Dn Dp Dq Cb Cc Ce Cg Ch Ci Cj Ck Cm Bt Cn Co Cq Cr Ct Cu Cv Cw Cx Cy Cz C8 C9 C_ DC Bu Tg ML u58 u59 u60 MN MO u63 u64 MP:Value) (K:Act→World→Prop) (Q:Exit→Act→World→Prop) (HK:Hid (∀(Tg ML u58 u59 u60 MN MO u63 u64 MP:Value) (wx:World),k<m.hosts.length→PR w2 wx (bT m++(m.hosts.take (k+1)).flatMap RF)→K ⟨(List.toArray (s0::(.pointer (some ⟨w.heap.size,0,none⟩))::s2::s3::s4::(.pointer (some ⟨w2.heap.size,0,none⟩))::(.func (.func 28) #[] #[.pointer (some ⟨w2.heap.size,0,none⟩)])::s7::s8::s9::s10::s11::Tg::s13::Fw::s15::s16::En::EN::GZ::s20::Eo::Ga::EO::s24::EP::Ep::Ea::Eb::Ec::Ed::E9::E_::FB::FC::FD::FE::G7::G8::G9::G_::Hf::Hl::s43::s44::Ho::Hq::Hw::GI::s49::Hz::H_::IB::s53::(.slice A2 m.hosts.length c2)::(.int .i64 m.hosts.length)::(.int .i64 ((k:Int)+1))::ML::u58::u59::u60::MN::MO::u63::u64::MP::Ee::Er::s68::Fx::Fy::Fz::s72::F4::F5::F6::F7::F8::F9::GA::GD::GH::s82::s83::Gw::Gx::Gy::s87::FH::FI::FJ::FK::FL::FM::FN::FP::FQ::Gz::G5::G6::BZ::Ba::Bb::Bc::Bd::Bf::Bg::Bh::Bj::Bl::Bn::Bo::Bp::CS::CU::CV::CW::CX::CY::Bz::B_::CB::CF::CG::CJ::BL::BF::BM::BN::BO::BP::BQ::BR::BS::DX::DY::DZ::Da::Db::Dc::Df::Dh::Di::Dj::Dk::Dl::Dm::Dn::Dp::Dq::Cb::Cc::Ce::Cg::Ch::Ci::Cj::Ck::Cm::Bt::Cn::Co::Cq::Cr::Ct::Cu::Cv::Cw::Cx::Cy::Cz::C8::C9::C_::DC::Bu:: [])),[]⟩ wx)) (HX:Hid (∀(Tg ML u58 u59 u60 MN MO u63 u64 MP:Value) (wx:World),PR w2 wx (bU m)→Q (.exit 2) ⟨(List.toArray (s0::(.pointer (some ⟨w.heap.size,0,none⟩))::s2::s3::s4::(.pointer (some ⟨w2.heap.size,0,none⟩))::(.func (.func 28) #[] #[.pointer (some ⟨w2.heap.size,0,none⟩)])::s7::s8::s9::s10::s11::Tg::s13::Fw::s15::s16::En::EN::GZ::s20::Eo::Ga::EO::s24::EP::Ep::Ea::Eb::Ec::Ed::E9::E_::FB::FC::FD::FE::G7::G8::G9::G_::Hf::Hl::s43::s44::Ho::Hq::Hw::GI::s49::Hz::H_::IB::s53::(.slice A2 m.hosts.length c2)::(.int .i64 m.hosts.length)::(.int .i64 m.hosts.length)::ML::u58::u59::u60::MN::MO::u63::u64::MP::Ee::Er::s68::Fx::Fy::Fz::s72::F4::F5::F6::F7::F8::F9::GA::GD::GH::s82::s83::Gw::Gx::Gy::s87::FH::FI::FJ::FK::FL::FM::FN::FP::FQ::Gz::G5::G6::BZ::Ba::Bb::Bc::Bd::Bf::Bg::Bh::Bj::Bl::Bn::Bo::Bp::CS::CU::CV::CW::CX::CY::Bz::B_::CB::CF::CG::CJ::BL::BF::BM::BN::BO::BP::BQ::BR::BS::DX::DY::DZ::Da::Db::Dc::Df::Dh::Di::Dj::Dk::Dl::Dm::Dn::Dp::Dq::Cb::Cc::Ce::Cg::Ch::Ci::Cj::Ck::Cm::Bt::Cn::Co::Cq::Cr::Ct::Cu::Cv::Cw::Cx::Cy::Cz::C8::C9::C_::DC::Bu:: [])),[]⟩ wx)):
 Code.wp prog (I9 1) (Exit.then K Q) ⟨(List.toArray (s0::(.pointer (some ⟨w.heap.size,0,none⟩))::s2::s3::s4::(.pointer (some ⟨w2.heap.size,0,none⟩))::(.func (.func 28) #[] #[.pointer (some ⟨w2.heap.size,0,none⟩)])::s7::s8::s9::s10::s11::Tg::s13::Fw::s15::s16::En::EN::GZ::s20::Eo::Ga::EO::s24::EP::Ep::Ea::Eb::Ec::Ed::E9::E_::FB::FC::FD::FE::G7::G8::G9::G_::Hf::Hl::s43::s44::Ho::Hq::Hw::GI::s49::Hz::H_::IB::s53::(.slice A2 m.hosts.length c2)::(.int .i64 m.hosts.length)::(.int .i64 k)::ML::u58::u59::u60::MN::MO::u63::u64::MP::Ee::Er::s68::Fx::Fy::Fz::s72::F4::F5::F6::F7::F8::F9::GA::GD::GH::s82::s83::Gw::Gx::Gy::s87::FH::FI::FJ::FK::FL::FM::FN::FP::FQ::Gz::G5::G6::BZ::Ba::Bb::Bc::Bd::Bf::Bg::Bh::Bj::Bl::Bn::Bo::Bp::CS::CU::CV::CW::CX::CY::Bz::B_::CB::CF::CG::CJ::BL::BF::BM::BN::BO::BP::BQ::BR::BS::DX::DY::DZ::Da::Db::Dc::Df::Dh::Di::Dj::Dk::Dl::Dm::Dn::Dp::Dq::Cb::Cc::Ce::Cg::Ch::Ci::Cj::Ck::Cm::Bt::Cn::Co::Cq::Cr::Ct::Cu::Cv::Cw::Cx::Cy::Cz::C8::C9::C_::DC::Bu:: [])),[]⟩ wr:=by
 conv=>arg 2;whnf
 have J_:=AA (C.out.IE.trans (HP.out.IE.mono C.out.IE.size))
 have hsz:w2.heap.size≤wr.heap.size:=HP.out.IE.size
 have hsw:w.heap.size<w2.heap.size:=C.out.lt
 have iK:w2.heap.size<wr.heap.size:=by obtain⟨_,_,hb⟩:=HP.out.YR;exact hb.blk.lt
 have hhi:=C.out.hhi
 have Ms:=C.out.Ms
 have hk0:(0:Int)≤k:=by omega
 by_cases hlt:k<m.hosts.length
 ·obtain⟨x,hx⟩: ∃x,m.hosts[k]?=some x:=⟨_,List.getElem?_eq_getElem hlt⟩
  have KU:decide ((k:Int)<m.hosts.length)=true:=decide_eq_true (by omega)
  have oq:m.hosts.length≤2147483647:=by have:=C.out.few;unfold Ap at this;omega
  obtain⟨bk,ok,rfl,_,Nw,hc0,NH⟩:=ints_at (Rd.below C.out.h2 J_.out hhi) hx
  have NS:=AA (Jb (bT m) RF hx)
  have MG:=AA (GL (bT m) RF hx)
  have N8:(bT m++m.hosts.flatMap RF).length≤1048576:=by have:=VN m C.out.le;first | exact this.2.1 | exact this.2.2.1 | exact this.2.2.2.1 | exact this.2.2.2.2.1 | exact this.2.2.2.2.2.1 | exact this.2.2.2.2.2.2.1 | exact this.2.2.2.2.2.2.2
  have uO:=AA (List.mem_of_getElem? hx)
  clear hx
  have hs0:wr.heap.size≤wr.heap.size:=Nat.le_refl _
  have HC:=AA (Nr x NH wr (C.out.env.to (J_.out.mono Ms)) (by omega))
  clear HX
  go_wp2_with fail
  refine HC.out.mono ?_
  rintro e w5 ⟨hb5,rfl⟩
  have hs5:wr.heap.size≤w5.heap.size:=hb5.size
  clear HC
  go_wp2_with fail
  refine(JM [Iz,CK (Lib.itoa x)] [MU,Lib.itoa x] (by rw [List.map_cons,List.map_cons,List.map_nil];simp [CK];rfl) 2 rfl _ w5 (by simp) (HP.out.YR.below hb5) (by omega) (Nat.le_trans MG.out N8) (by decide)).mono ?_
  rintro e w6 ⟨rfl,hA,hB,hK⟩
  have Vk:=AA (PR.mk (HP.out.IE.trans ((hb5.mono hsz).trans hB)) (NS.out▸hA))
  clear hA hB hK
  go_wp2_with fail
  apply HK.out
  ·exact hlt
  ·exact Vk.out
 ·obtain rfl:k=m.hosts.length:=by omega
  have KU:decide ((m.hosts.length:Int)<m.hosts.length)=false:=decide_eq_false (by omega)
  have Zc:Hid (PR w2 wr (bU m)):=AA (by have:=HP.out;rw [List.take_length] at this;exact this)
  clear HP HK
  go_wp2_with fail
  apply HX.out
  exact Zc.out
set_option maxRecDepth 1000000 in
theorem jh {w w2:World} {hi hj:Nat} {m:AP} {A1 A2 A3 A6 A7 A8:Option Addr} {c1 c2 c3 c6 c7 c8:Nat} (C:Hid (Ot w w2 hi hj m A1 c1 A2 c2 A3 c3 A6 c6 A7 c7 A8 c8)) {wr:World} (HP:Hid (PR w2 wr (bT m)))
 (s0 s2 s3 s4 s7 s8 s9 s10 s11 s13 Fw s15 s16 En EN GZ s20 Eo Ga EO s24 EP Ep Ea Eb Ec Ed E9 E_ FB FC FD FE G7 G8 G9 G_ Hf Hl s43 s44 Ho Hq Hw GI s49 Hz H_ IB s53 Ee Er s68 Fx Fy Fz s72 F4 F5 F6 F7 F8 F9 GA GD GH s82 s83 Gw Gx Gy s87 FH FI FJ FK FL FM FN FP FQ Gz G5 G6 BZ Ba Bb Bc Bd Bf Bg Bh Bj Bl Bn Bo Bp CS CU CV CW CX CY Bz B_ CB CF CG CJ BL BF BM BN BO BP BQ BR BS DX DY DZ Da Db Dc Df Dh Di Dj Dk Dl Dm Dn Dp Dq Cb Cc Ce Cg Ch Ci Cj Ck Cm Bt Cn Co Cq Cr Ct Cu Cv Cw Cx Cy Cz C8 C9 C_ DC Bu Tg ML u58 u59 u60 MN MO u63 u64 MP:Value) (Q0:Exit→Act→World→Prop) (HX:Hid (∀(Tg ML u58 u59 u60 MN MO u63 u64 MP:Value) (wx:World),PR w2 wx (bU m)→Q0 (.exit 2) ⟨(List.toArray (s0::(.pointer (some ⟨w.heap.size,0,none⟩))::s2::s3::s4::(.pointer (some ⟨w2.heap.size,0,none⟩))::(.func (.func 28) #[] #[.pointer (some ⟨w2.heap.size,0,none⟩)])::s7::s8::s9::s10::s11::Tg::s13::Fw::s15::s16::En::EN::GZ::s20::Eo::Ga::EO::s24::EP::Ep::Ea::Eb::Ec::Ed::E9::E_::FB::FC::FD::FE::G7::G8::G9::G_::Hf::Hl::s43::s44::Ho::Hq::Hw::GI::s49::Hz::H_::IB::s53::(.slice A2 m.hosts.length c2)::(.int .i64 m.hosts.length)::(.int .i64 m.hosts.length)::ML::u58::u59::u60::MN::MO::u63::u64::MP::Ee::Er::s68::Fx::Fy::Fz::s72::F4::F5::F6::F7::F8::F9::GA::GD::GH::s82::s83::Gw::Gx::Gy::s87::FH::FI::FJ::FK::FL::FM::FN::FP::FQ::Gz::G5::G6::BZ::Ba::Bb::Bc::Bd::Bf::Bg::Bh::Bj::Bl::Bn::Bo::Bp::CS::CU::CV::CW::CX::CY::Bz::B_::CB::CF::CG::CJ::BL::BF::BM::BN::BO::BP::BQ::BR::BS::DX::DY::DZ::Da::Db::Dc::Df::Dh::Di::Dj::Dk::Dl::Dm::Dn::Dp::Dq::Cb::Cc::Ce::Cg::Ch::Ci::Cj::Ck::Cm::Bt::Cn::Co::Cq::Cr::Ct::Cu::Cv::Cw::Cx::Cy::Cz::C8::C9::C_::DC::Bu:: [])),[]⟩ wx)):
 Code.wp prog (Code.loop (I9 1)) Q0 ⟨(List.toArray (s0::(.pointer (some ⟨w.heap.size,0,none⟩))::s2::s3::s4::(.pointer (some ⟨w2.heap.size,0,none⟩))::(.func (.func 28) #[] #[.pointer (some ⟨w2.heap.size,0,none⟩)])::s7::s8::s9::s10::s11::Tg::s13::Fw::s15::s16::En::EN::GZ::s20::Eo::Ga::EO::s24::EP::Ep::Ea::Eb::Ec::Ed::E9::E_::FB::FC::FD::FE::G7::G8::G9::G_::Hf::Hl::s43::s44::Ho::Hq::Hw::GI::s49::Hz::H_::IB::s53::(.slice A2 m.hosts.length c2)::(.int .i64 m.hosts.length)::(.int .i64 0)::ML::u58::u59::u60::MN::MO::u63::u64::MP::Ee::Er::s68::Fx::Fy::Fz::s72::F4::F5::F6::F7::F8::F9::GA::GD::GH::s82::s83::Gw::Gx::Gy::s87::FH::FI::FJ::FK::FL::FM::FN::FP::FQ::Gz::G5::G6::BZ::Ba::Bb::Bc::Bd::Bf::Bg::Bh::Bj::Bl::Bn::Bo::Bp::CS::CU::CV::CW::CX::CY::Bz::B_::CB::CF::CG::CJ::BL::BF::BM::BN::BO::BP::BQ::BR::BS::DX::DY::DZ::Da::Db::Dc::Df::Dh::Di::Dj::Dk::Dl::Dm::Dn::Dp::Dq::Cb::Cc::Ce::Cg::Ch::Ci::Cj::Ck::Cm::Bt::Cn::Co::Cq::Cr::Ct::Cu::Cv::Cw::Cx::Cy::Cz::C8::C9::C_::DC::Bu:: [])),[]⟩ wr:=by
 refine wp_loop (fun a wx=> ∃(Tg ML u58 u59 u60 MN MO u63 u64 MP:Value) (k:Nat),k≤m.hosts.length∧PR w2 wx (bT m++(m.hosts.take k).flatMap RF)∧a=⟨(List.toArray (s0::(.pointer (some ⟨w.heap.size,0,none⟩))::s2::s3::s4::(.pointer (some ⟨w2.heap.size,0,none⟩))::(.func (.func 28) #[] #[.pointer (some ⟨w2.heap.size,0,none⟩)])::s7::s8::s9::s10::s11::Tg::s13::Fw::s15::s16::En::EN::GZ::s20::Eo::Ga::EO::s24::EP::Ep::Ea::Eb::Ec::Ed::E9::E_::FB::FC::FD::FE::G7::G8::G9::G_::Hf::Hl::s43::s44::Ho::Hq::Hw::GI::s49::Hz::H_::IB::s53::(.slice A2 m.hosts.length c2)::(.int .i64 m.hosts.length)::(.int .i64 k)::ML::u58::u59::u60::MN::MO::u63::u64::MP::Ee::Er::s68::Fx::Fy::Fz::s72::F4::F5::F6::F7::F8::F9::GA::GD::GH::s82::s83::Gw::Gx::Gy::s87::FH::FI::FJ::FK::FL::FM::FN::FP::FQ::Gz::G5::G6::BZ::Ba::Bb::Bc::Bd::Bf::Bg::Bh::Bj::Bl::Bn::Bo::Bp::CS::CU::CV::CW::CX::CY::Bz::B_::CB::CF::CG::CJ::BL::BF::BM::BN::BO::BP::BQ::BR::BS::DX::DY::DZ::Da::Db::Dc::Df::Dh::Di::Dj::Dk::Dl::Dm::Dn::Dp::Dq::Cb::Cc::Ce::Cg::Ch::Ci::Cj::Ck::Cm::Bt::Cn::Co::Cq::Cr::Ct::Cu::Cv::Cw::Cx::Cy::Cz::C8::C9::C_::DC::Bu:: [])),[]⟩) (fun a _=>m.hosts.length-(intOf (a.tmps.getD 56 undef)).toNat) ?_ ?_
 ·exact⟨Tg,ML,u58,u59,u60,MN,MO,u63,u64,MP,0,Nat.zero_le _,by rw [List.take_zero,List.flatMap_nil,List.append_nil];exact HP.out,rfl⟩
 ·intro a wx hI
  obtain⟨Tg,hI⟩:=hI
  obtain⟨ML,hI⟩:=hI
  obtain⟨u58,hI⟩:=hI
  obtain⟨u59,hI⟩:=hI
  obtain⟨u60,hI⟩:=hI
  obtain⟨MN,hI⟩:=hI
  obtain⟨MO,hI⟩:=hI
  obtain⟨u63,hI⟩:=hI
  obtain⟨u64,hI⟩:=hI
  obtain⟨MP,hI⟩:=hI
  obtain⟨k,hk,hp,rfl⟩:=hI
  refine Tf C hk (AA hp) _ _ _ _ _ _ _ _ _ _ _ _ _ _ _ _ _ _ _ _ _ _ _ _ _ _ _ _ _ _ _ _ _ _ _ _ _ _ _ _ _ _ _ _ _ _ _ _ _ _ _ _ _ _ _ _ _ _ _ _ _ _ _ _ _ _ _ _ _ _ _ _ _ _ _ _ _ _ _ _ _ _ _ _ _ _ _ _ _ _ _ _ _ _ _ _ _ _ _ _ _ _ _ _ _ _ _ _ _ _ _ _ _ _ _ _ _ _ _ _ _ _ _ _ _ _ _ _ _ _ _ _ _ _ _ _ _ _ _ _ _ _ _ _ _ _ _ _ _ _ _ _ _ _ _ _ _ _ _ _ _ _ _ _ _ _ _ _ _ _ _ _ (AA ?_) HX
  intro Tg ML u58 u59 u60 MN MO u63 u64 MP wy hlt hp2
  refine⟨⟨Tg,ML,u58,u59,u60,MN,MO,u63,u64,MP,k+1,hlt,hp2,rfl⟩,?_⟩
  show m.hosts.length-(intOf (.int .i64 ((k+1:Nat):Int))).toNat<m.hosts.length-(intOf (.int .i64 (k:Int))).toNat
  simp [intOf]
  omega
end Go.Proofs.YtejbcledkhioeaaGreatDoor
