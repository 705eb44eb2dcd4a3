/- Part 24 of the proof: RdrS Par2 -/
import Derived.Test.YtejbcledkhioeaaGreatDoorQ20
import Derived.Test.YtejbcledkhioeaaGreatDoorQ22
import Derived.Test.YtejbcledkhioeaaGreatDoorQ23
namespace Go.Proofs.YtejbcledkhioeaaGreatDoor
set_option linter.unusedVariables false
set_option linter.unusedSimpArgs false
set_option maxRecDepth 100000
set_option maxHeartbeats 4000000
open Go.RowKit Tryz
section
variable {B b hi M:Nat} {w:World} {r:Ka} {ln:Nat} {s:ByteArray}
theorem iD.below {W W':World} {m:AP} {fs:List GR} {f:GR} {lo:Nat} {col:Nat→Nat} {v1 v2 v3 v7 v8:Value} {A:Option Addr} {c:Nat} {cells:List Value} {vc:Value} (h:iD B b W m ln fs f lo col v1 v2 v3 v7 v8 A c cells vc) (hb:Below W.heap.size W W'):
 iD B b W' m ln fs f lo (Dy W col 9) v1 v2 v3 v7 v8 A c cells vc:=by
 have hF:=h.fn
 have hK:Keep (fun _=>True) W W':=(Keep.Aq hb).mono fun _ _=>trivial
 have YP:=hF.vo
 refine⟨h.blk.below hb h.blk.lt,h.five.keep hK (fun _ _ _ _=>trivial) _ (fun k hk _=>AV hk rfl) rfl rfl rfl rfl rfl,⟨BI hF.own hb,fun g hg=> ?_,fun k x hk=> ?_,hF.t,hF.loc,hF.code.keep hK (fun _ _ _ _=>trivial) (fun _ _ e=>e),hF.lo_,Nat.le_trans YP hb.size,fun k hk hk2=> ?_⟩,h.fns,h.low,Nat.le_trans h.top hb.size,h.first,h.most⟩
 ·have:=hF.at_ g hg
  exact⟨by rw [AV (by omega) rfl];exact this.1,this.2⟩
 ·obtain⟨l,hh,g1,g2,g3,g4,g5⟩:=hF.els k x hk
  exact⟨l,hh,g1,g2,g3,fun g ha hb'=>by rw [AV (by omega) rfl];exact g4 g ha hb',Rt.below g5 hb (by omega)⟩
 ·by_cases h2:k<W.heap.size
  ·rw [AV h2 rfl];exact hF.new k hk h2
  ·exact EY (by omega)
theorem JW.below {W W':World} {m:AP} (h:JW B b W m ln) (hb:Below W.heap.size W W'):JW B b W' m ln:=by
 obtain⟨fs,f,lo,col,v1,v2,v3,v7,v8,A,c,cells,vc,h⟩:=h
 exact⟨fs,f,lo,_,v1,v2,v3,v7,v8,A,c,cells,vc,h.below hb⟩
theorem Qt.below {W W':World} (h:Qt B b W r ln) (hb:Below W.heap.size W W'):Qt B b W' r ln:=
 h.elim (fun x=> .inl ⟨x.1,x.2.below hb⟩) (fun x=> .inr ⟨x.1,x.2.below hb⟩)
theorem Qt.blk {W:World} (h:Qt B b W r ln): ∃v1 v2 v3 v6 v7 v8,AL W b 104 [v1,v2,v3,.int .i64 r.m.first,.int .i64 r.m.most,v6,v7,v8,.int .i64 r.st,.int .i64 ln]:=by
 obtain⟨col,v1,v2,v3,v6,v7,v8,h⟩:=h.close
 exact⟨v1,v2,v3,v6,v7,v8,h.blk⟩
theorem Xc (h:kU B b hi M w r ln s) (hw:DN s= []):
 Calls prog 59 #[.pointer (some ⟨b,0,none⟩),.string s,.map (some M)] w (Ei B b w ln (some r)):=by
 have hcall:=Ez s (by have:=h.sz;omega) w
 rw [hw] at hcall
 have HI:=AA h
 have EF:=AA hcall
 clear hcall h
 go_enter func59,ntmps59
 go_wp2_with fail
 refine EF.out.mono ?_
 clear EF
 rintro e w1 ⟨A,rfl,hA,ho,hb1⟩
 have HB1:=AA hb1
 clear ho hb1
 go_wp2_with fail
 go_end0
 exact⟨(Keep.Aq HB1.out).Dt (fun k hk _=>hk),.inr ⟨r,rfl,rfl,HI.out.rd.below HB1.out⟩⟩
theorem Xd (h:kU B b hi M w r ln s) {x0:ByteArray} {t:List ByteArray} (hwd:DN s=x0::t) (hsk:GV (x0::t)=true):
 Calls prog 59 #[.pointer (some ⟨b,0,none⟩),.string s,.map (some M)] w (Ei B b w ln (some r)):=by
 have hcall:=Ez s (by have:=h.sz;omega) w
 obtain⟨hws,hpos⟩:=Ey s
 have hsz:=h.sz
 rw [hwd] at hcall hws hpos
 have hx0:=hpos x0 (List.mem_cons_self ..)
 have h59:((x0[0]'hx0).toNat:Int)=59:=by
  have h1:(x0.data.toList.head?==some 59)=true:=hsk
  rw [beq_iff_eq] at h1
  have h2:x0.data.toList[0]?=some 59:=by rw [←List.head?_eq_getElem?];exact h1
  have hl:0<x0.data.toList.length:=by rw [←Lib.size_eq];exact hx0
  rw [List.getElem?_eq_getElem hl] at h2
  injection h2 with h2
  have h3:x0[0]'hx0=59:=h2
  rw [h3];rfl
 obtain⟨n,hn⟩: ∃n,n=(x0::t).length:=⟨_,rfl⟩
 have hn0:0<n:=by rw [hn,List.length_cons];omega
 have hz0:((n:Int)==0)=false:=by rw [beq_eq_false_iff_ne];omega
 have OV:=AA hn
 have HI:=AA h
 have EF:=AA hcall
 clear hcall h
 go_enter func59,ntmps59
 go_wp2_with fail
 refine EF.out.mono ?_
 clear EF
 rintro e w1 ⟨A,rfl,hA,ho,hb1⟩
 have hw1:=JI ho hA (List.cons_ne_nil _ _) (by omega)
 have q0:w1.cell? ⟨A,0,none⟩=some (.string x0):=hw1.at_ 0 _ rfl
 have HB1:=AA hb1
 rw [←OV.out]
 have Om:(((x0[0]'hx0).toNat:Int)==59)=true:=by rw [h59];rfl
 clear hn ho hb1 hw1 hws hpos hwd hsk h59
 go_wp2_with fail
 go_end0
 exact⟨(Keep.Aq HB1.out).Dt (fun k hk _=>hk),.inr ⟨r,rfl,rfl,HI.out.rd.below HB1.out⟩⟩
instance byteLaw:LawfulBEq ByteArray where
 eq_of_beq {a b} h:=by
  cases a;cases b
  exact congrArg ByteArray.mk (eq_of_beq h)
 rfl {a}:=by
  obtain⟨d⟩:=a
  exact beq_self_eq_true d
theorem jE {x:ByteArray} (h:Dx x=0): ∀k∈kinds,x≠k:=by
 intro k hk e
 subst e
 unfold Dx at h
 cases hi:kinds.idxOf? x with
 | none=>rw [List.idxOf?_eq_none_iff] at hi;exact hi hk
 | some i=>rw [hi] at h;simp at h
theorem jF {x:ByteArray} (h:Dx x=0):Instr.findNow .string (.string x) Gf.toList 0=some none:=by
 have hk:=jE h
 have hb: ∀k∈kinds,(x==k)=false:=fun k hm=>beq_eq_false_iff_ne.2 (hk k hm)
 have h1:=hb Iy (by simp [kinds]);have h2:=hb M6 (by simp [kinds]);have h3:=hb Iz (by simp [kinds]);have h4:=hb Et (by simp [kinds])
 have h5:=hb I4 (by simp [kinds]);have h6:=hb M7 (by simp [kinds]);have h7:=hb M8 (by simp [kinds]);have h8:=hb I5 (by simp [kinds])
 unfold Gf
 simp only [Instr.findNow,Instr.sameNow,h1,h2,h3,h4,h5,h6,h7,h8]
theorem jG (W:World):(zeroValue 148).run prog W= .ok (.agg #[.int .i64 0,.nilFunc]) W:=by kernel_rfl
theorem jH {x0:ByteArray} {t:List ByteArray} (h:Dx x0=0):Ar r (x0::t)=if r.st=6 then(Pv r.m x0 t).map (fun m'=>(⟨m',6⟩:Ka)) else none:=by
 unfold Ar
 simp only
 rw [if_pos h]
 split
 ·unfold Pv
  cases Lj x0 with
  | none=>rfl
  | some o=>show(OT o t).map _=((OT o t).map _).map _;cases OT o t<;>rfl
 ·rfl
theorem ZM (h:kU B b hi M w r ln s) {x0:ByteArray} {t:List ByteArray} (hwd:DN s=x0::t) (hsk:GV (x0::t)=false) (hkd:Dx x0=0):
 Calls prog 59 #[.pointer (some ⟨b,0,none⟩),.string s,.map (some M)] w (Ei B b w ln (Ar r (x0::t))):=by
 have hcall:=Ez s (by have:=h.sz;omega) w
 obtain⟨hws,hpos⟩:=Ey s
 have hsz:=h.sz
 rw [hwd] at hcall hws hpos
 have hx0:=hpos x0 (List.mem_cons_self ..)
 have Om:(((x0[0]'hx0).toNat:Int)==59)=false:=by
  rw [beq_eq_false_iff_ne]
  intro e
  have h1:(x0.data.toList.head?==some 59)=false:=hsk
  have hl:0<x0.data.toList.length:=by rw [←Lib.size_eq];exact hx0
  rw [List.head?_eq_getElem?,List.getElem?_eq_getElem hl] at h1
  have h3:x0[0]'hx0=59:=by rw [←UInt8.toNat_inj];have:((x0[0]'hx0).toNat:Int)=((59:Nat):Int):=e;exact Int.ofNat.inj this
  have h4:x0.data.toList[0]=59:=h3
  rw [h4] at h1
  exact absurd h1 (by decide)
 obtain⟨n,hn⟩: ∃n,n=(x0::t).length:=⟨_,rfl⟩
 have hn0:0<n:=by rw [hn,List.length_cons];omega
 rw [←hn] at hcall
 have hz0:((n:Int)==0)=false:=by rw [beq_eq_false_iff_ne];omega
 have OV:Hid (n=t.length+1):=AA (by rw [hn,List.length_cons])
 have hfind:=jF hkd
 have TM:=AA (jH (r:=r) (t:=t) hkd)
 have ZL:=h.mlt
 have hhi:=h.hhi
 have HI:=AA h
 have EF:=AA hcall
 obtain⟨b1,b2,b3,b6,b7,b8,hblk⟩:=h.rd.blk
 have hbl:=hblk.lt
 have Vs:=AA hblk
 clear hcall h hblk
 go_enter func59,ntmps59
 go_wp2_with fail
 refine EF.out.mono ?_
 clear EF
 rintro e w1 ⟨A,rfl,hA,ho,hb1⟩
 rw [hn] at ho
 have hw1:=JI ho hA (List.cons_ne_nil _ _) (by omega)
 have q0:w1.cell? ⟨A,0,none⟩=some (.string x0):=hw1.at_ 0 _ rfl
 have Fv:w1.heap[M]?=some (.map Gf 8):=(hb1.block M ZL).trans HI.out.map
 have KS:=ZK (P:=prog) (W:=w1) (s:=x0) underlying108 underlying9 Fv (jG w1) hfind
 have HB1:=AA hb1;have HW1:=AA hw1
 have hsz1:=hb1.size
 clear hn ho hb1 hw1 hws hpos hwd hsk hkd hfind Fv
 go_wp2_with fail
 generalize hw2:World.alloc _ _=w2
 have GY:Below w1.heap.size w1 w2:=by rw [←hw2];exact(Below.refl _ _).alloc (Nat.le_refl _) _
 have hb2:=HB1.out.trans (GY.mono hsz1)
 have AA_:=HW1.out.below GY
 have hE2:Dv hi w2:=HI.out.env.up hb2 (by omega)
 have hAb:A≠b:=by omega
 clear hw2 GY KS q0 HW1 HB1
 have hfin: ∀(e:Ending) (w6:World) (res:Option AP),(r.st=6→res=Pv r.m x0 t)→(r.st≠6→res=none)→Jd (fun W m'=>JW B b W m' ln) B b w2 res e w6→Ei B b w ln (Ar r (x0::t)) e w6:=by
  intro e w6 res h6 hn6 hm
  rcases hm with⟨h1,h2,h3⟩ | ⟨m',h1,h2,h3,h4⟩
  ·refine⟨((Keep.Aq hb2).Dt (fun k hk _=>hk)).trans ((Keep.Aq h3).Dt (fun k hk _=>hk)),.inl ⟨?_,h2,?_⟩⟩
   ·rw [TM.out]
    split
    ·rename_i hs;rw [←h6 hs,h1];rfl
    ·rfl
   ·have hx:=(Vs.out.below hb2 hbl)
    exact(h3.cell (p:=⟨b,9,none⟩) hx.lt).trans (hx.cell 9)
  ·have hs:r.st=6:=Decidable.byContradiction fun hs=>by rw [hn6 hs] at h1;cases h1
   refine⟨((Keep.Aq hb2).Dt (fun k hk _=>hk)).trans h3,.inr ⟨⟨m',6⟩,?_,h2,.inr ⟨rfl,h4⟩⟩⟩
   rw [TM.out,if_pos hs,←h6 hs,h1]
   rfl
 have Dz:=AA hfin
 have ABA:=HI.out.rd.below hb2
 have ABB:=AA ABA;have HW2:=AA AA_;have HE2:=AA hE2
 clear hfin ABA hb2 AA_ hE2
 by_cases hs:r.st=6
 ·rcases ABB.out with⟨h0,_⟩ | ⟨_,hop⟩
  ·exact absurd hs h0
  obtain⟨fs,f,lo,col,v1,v2,v3,v7,v8,gF,c,cells,Ac,cc,Gd,ho,hc⟩:=hop.parts
  refine(yO ⟨ho,hc,HW2.out,HE2.out,hhi,HI.out.lens⟩ n OV.out).mono ?_
  rintro e w6 hm
  have HP:=AA (Dz.out e w6 _ (fun _=>rfl) (fun h=>absurd hs h) hm)
  clear Dz
  rcases hm with⟨_,rfl,_⟩ | ⟨m',_,rfl,_,_⟩
  ·go_wp2_with fail
   exact⟨rfl,HP.out⟩
  ·go_wp2_with fail
   go_end0
   exact HP.out
 ·obtain⟨col,v1,v2,v3,v6,v7,v8,hr⟩:=ABB.out.close
  refine(iX hs ⟨hr,HW2.out,HE2.out,hhi,HI.out.lens,hAb⟩ n OV.out (fun W m'=>JW B b W m' ln)).mono ?_
  rintro e w6 hm
  have HP:=AA (Dz.out e w6 _ (fun h=>absurd h hs) (fun _=>rfl) hm)
  clear Dz
  rcases hm with⟨_,rfl,_⟩ | ⟨m',h1,rfl,_,_⟩
  ·go_wp2_with fail
   exact⟨rfl,HP.out⟩
  ·cases h1
theorem tF (h:kU B b hi M w r ln s):
 Calls prog 59 #[.pointer (some ⟨b,0,none⟩),.string s,.map (some M)] w (Ei B b w ln (if GV (DN s)=true then some r else Ar r (DN s))):=by
 cases hwd:DN s with
 | nil=>rw [if_pos (show GV []=true from rfl)];exact Xc h hwd
 | cons x0 t=>
  cases hsk:GV (x0::t)with
  | true=>rw [if_pos (rfl:true=true)];exact Xd h hwd hsk
  | false=>
   rw [if_neg Bool.false_ne_true]
   by_cases hk:Dx x0=0
   ·exact ZM h hwd hsk hk
   ·have hm:x0∈kinds:=by
     refine Classical.byContradiction fun hn=>hk ?_
     unfold Dx
     rw [List.idxOf?_eq_none_iff.2 hn]
    simp only [kinds,List.mem_cons,List.not_mem_nil,or_false] at hm
    rcases hm with rfl | rfl | rfl | rfl | rfl | rfl | rfl | rfl
    ·have:=ig h hwd;rwa [hwd] at this
    ·have:=iq h hwd;rwa [hwd] at this
    ·have:=iw h hwd;rwa [hwd] at this
    ·have:=iy h hwd;rwa [hwd] at this
    ·have:=jA h hwd;rwa [hwd] at this
    ·have:=jB h hwd;rwa [hwd] at this
    ·have:=jC h hwd;rwa [hwd] at this
    ·have:=jD h hwd;rwa [hwd] at this
end
section
variable {B b:Nat} {W:World} {m:AP} {ln:Nat}
theorem OL.line {col:Nat→Nat} {v1 v2 v3 v6 v7 v8:Value} {st:Nat} (h:OL B b W col v1 v2 v3 v6 v7 v8 m st ln) (q:Nat):
 OL B b (W.setCell ⟨b,9,none⟩ (.int .i64 q)) col v1 v2 v3 v6 v7 v8 m st q:=by
 have hlow:=h.low
 have hK:Keep (fun k=>k≠b) W (W.setCell ⟨b,9,none⟩ (.int .i64 q)):=(Keep.refl _ W).setCell (p:=⟨b,9,none⟩) (fun e=>e rfl) _
 exact⟨h.blk.set 9 _,h.six.keep hK (fun k hk _ _=>by omega) col (fun _ _ _=>rfl),hlow,Nat.le_trans h.top hK.size,h.first,h.most⟩
theorem iD.line {fs:List GR} {f:GR} {lo:Nat} {col:Nat→Nat} {v1 v2 v3 v7 v8:Value} {A:Option Addr} {c:Nat} {cells:List Value} {vc:Value} (h:iD B b W m ln fs f lo col v1 v2 v3 v7 v8 A c cells vc) (q:Nat):
 iD B b (W.setCell ⟨b,9,none⟩ (.int .i64 q)) m q fs f lo col v1 v2 v3 v7 v8 A c cells vc:=by
 have hlow:=h.low
 have hF:=h.fn
 have YP:=hF.vo
 have hlo:=hF.lo_
 have hK:Keep (fun k=>k≠b) W (W.setCell ⟨b,9,none⟩ (.int .i64 q)):=(Keep.refl _ W).setCell (p:=⟨b,9,none⟩) (fun e=>e rfl) _
 refine⟨h.blk.set 9 _,h.five.keep hK (fun k hk _ _=>by omega) col (fun _ _ _=>rfl) rfl rfl rfl rfl rfl,⟨BD hF.own hK (fun g hg=>by have:=(hF.own.lt g hg).1;omega),hF.at_,fun k x hk=> ?_,hF.t,hF.loc,hF.code.keep hK (fun k hk _ _=>by omega) (fun _ _ e=>e),hlo,Nat.le_trans YP hK.size,fun k hk hk2=>hF.new k hk (by simpa using hk2)⟩,h.fns,hlow,Nat.le_trans h.top hK.size,h.first,h.most⟩
 obtain⟨l,hh,g1,g2,g3,g4,g5⟩:=hF.els k x hk
 exact⟨l,hh,g1,g2,g3,g4,Rd.GX (K:=fun k=>k≠b) g5 hK (by omega) (fun k ha hb'=>by omega)⟩
theorem Qt.line {r:Ka} (h:Qt B b W r ln) (q:Nat):Qt B b (W.setCell ⟨b,9,none⟩ (.int .i64 q)) r q:=by
 rcases h with⟨h0,col,v1,v2,v3,v6,v7,v8,h⟩ | ⟨h0,fs,f,lo,col,v1,v2,v3,v7,v8,A,c,cells,vc,h⟩
 ·exact .inl ⟨h0,col,v1,v2,v3,v6,v7,v8,h.line q⟩
 ·exact .inr ⟨h0,fs,f,lo,col,v1,v2,v3,v7,v8,A,c,cells,vc,h.line q⟩
end
theorem Nz (W:World) (B:Nat):JQ.R W B W.heap.size Q5 Br:=
 EK.2 ⟨_,_,_,_,_,_,rfl,(J6.nil LD 51 B (fun _=>True) W).reads,(J6.nil Rd.i64 3 B (fun _=>True) W).reads,(J6.nil Jf 82 B (fun _=>True) W).reads,⟨by decide,by decide⟩,⟨by decide,by decide⟩,(J6.nil Rt 56 B (fun _=>True) W).reads,(J6.nil JC 59 B (fun _=>True) W).reads,(J6.nil Lf 61 B (fun _=>True) W).reads⟩
def rdZ:List Value:= [.slice none 0 0,.slice none 0 0,.slice none 0 0,.int .i64 0,.int .i64 0,.slice none 0 0,.slice none 0 0,.slice none 0 0,.int .i64 0,.int .i64 0]
theorem oV {B b:Nat} {W:World} (h:AL W b 104 rdZ) (hb:b<B) (hB:B≤W.heap.size):Qt B b W qj 0:=
 .inl ⟨by decide,fun _=>9,_,_,_,_,_,_,h,⟨J6.nil _ _ _ _ _,J6.nil _ _ _ _ _,J6.nil _ _ _ _ _,J6.nil _ _ _ _ _,J6.nil _ _ _ _ _,J6.nil _ _ _ _ _⟩,hb,hB,⟨by decide,by decide⟩,⟨by decide,by decide⟩⟩
def SY (w:World) (s:ByteArray) (e:Ending) (w':World):Prop:=
 Below w.heap.size w w'∧ ∃cs,cs.length=8∧e= .returned (.tuple #[.agg cs.toArray,.int .i64 (Ew s).2.1,.int .i64 (Ew s).2.2])∧JQ.R w' w.heap.size w'.heap.size cs (Ew s).1
structure Zb (w W:World) (h0:Nat) (s:ByteArray):Prop where
 IE:Below w.heap.size w W
 hz:h0=w.heap.size
 top:h0+1+1+1+1+1+1<W.heap.size
 gm:AL W h0 29 Q5
 ge:AL W (h0+1) 33 [.int .i64 0]
 ga:AL W (h0+1+1) 3 [.int .i64 0]
 gr:AL W (h0+1+1+1+1) 102 [.pointer (some ⟨h0+1+1+1,0,none⟩)]
 map:W.heap[h0+1+1+1+1+1]?=some (.map Gf 8)
 spl:AL W (h0+1+1+1+1+1+1) 9 ((EC s).map Value.string)
theorem Zb.at_ {w W:World} {h0:Nat} {s:ByteArray} (h:Zb w W h0 s) (j:Nat) (x:ByteArray) (hx:(EC s)[j]?=some x):W.cell? ⟨h0+1+1+1+1+1+1,j,none⟩=some (.string x):=by
 have:=h.spl.cell j
 rw [List.getElem?_map,hx] at this
 exact this
theorem Zb.keep {w W W':World} {h0:Nat} {s:ByteArray} (h:Zb w W h0 s) (hK:Keep (fun k=>k<h0+7∧k≠h0+1+1+1) W W'):Zb w W' h0 s:=by
 have hz:=h.hz
 have ht:=h.top
 refine⟨h.IE.trans (hK.below h.IE.size fun k hk=>by omega),hz,Nat.lt_of_lt_of_le ht hK.size,h.gm.keep hK (by omega),h.ge.keep hK (by omega),h.ga.keep hK (by omega),h.gr.keep hK (by omega),?_,h.spl.keep hK (by omega)⟩
 exact(hK.block _ (by omega) (by omega)).trans h.map
theorem uH (w:World) (o:Obj) {n:Nat} (hn:w.heap.size=n):(w.alloc o).heap[n]?=some o:=by
 subst hn
 exact Array.getElem?_push_size
theorem jc {w:World} {n:Nat} {o:Obj} (h:w.heap[n]?=some o) (o':Obj):(w.alloc o').heap[n]?=some o:=
 (((Below.refl w.heap.size w).alloc (Nat.le_refl _) o').block n (Array.getElem?_eq_some_iff.1 h).1).trans h
theorem Lv (w:World) (t:TypeId) (xs:List Value) {n:Nat} (hn:w.heap.size=n):AL (w.alloc (.cells xs.toArray t)) n t xs:=hn▸AL.new w t xs
theorem uI (w:World) (s:ByteArray) (t9:TypeId) (ht9:t9=9):Zb w (((((((w.alloc (.cells Q5.toArray 29)).alloc (.cells #[.int .i64 0] 33)).alloc (.cells #[.int .i64 0] 3)).alloc (.cells rdZ.toArray 104)).alloc (.cells #[.pointer (some ⟨w.heap.size+1+1+1,0,none⟩)] 102)).alloc (.map Gf 8)).alloc (.cells ((EC s).map Value.string).toArray t9)) w.heap.size s∧
 AL (((((((w.alloc (.cells Q5.toArray 29)).alloc (.cells #[.int .i64 0] 33)).alloc (.cells #[.int .i64 0] 3)).alloc (.cells rdZ.toArray 104)).alloc (.cells #[.pointer (some ⟨w.heap.size+1+1+1,0,none⟩)] 102)).alloc (.map Gf 8)).alloc (.cells ((EC s).map Value.string).toArray t9)) (w.heap.size+1+1+1) 104 rdZ:=by
 subst ht9
 refine⟨⟨?_,rfl,by simp only [World.size_alloc];omega,(((((((Lv w _ Q5 rfl).alloc _).alloc _).alloc _).alloc _).alloc _).alloc _),((((((Lv _ _ [.int .i64 0] (by simp only [World.size_alloc])).alloc _).alloc _).alloc _).alloc _).alloc _),(((((Lv _ _ [.int .i64 0] (by simp only [World.size_alloc])).alloc _).alloc _).alloc _).alloc _),(((Lv _ _ [.pointer (some ⟨w.heap.size+1+1+1,0,none⟩)] (by simp only [World.size_alloc])).alloc _).alloc _),?_,Lv _ _ ((EC s).map Value.string) (by simp only [World.size_alloc])⟩,((((Lv _ _ rdZ (by simp only [World.size_alloc])).alloc _).alloc _).alloc _)⟩
 ·exact(((((((Below.refl _ _).alloc (Nat.le_refl _) _).alloc (by simp only [World.size_alloc];omega) _).alloc (by simp only [World.size_alloc];omega) _).alloc (by simp only [World.size_alloc];omega) _).alloc (by simp only [World.size_alloc];omega) _).alloc (by simp only [World.size_alloc];omega) _).alloc (by simp only [World.size_alloc];omega) _
 ·exact jc (uH _ _ (by simp only [World.size_alloc])) _
structure wO (w wr:World) (h0:Nat) (s:ByteArray) (k:Nat) (r:Ka):Prop where
 mem:Zb w wr h0 s
 rd:Qt (h0+7) (h0+1+1+1) wr r k
 up:U_ (EC s) k r
theorem RB {W:World} {tmps:Array Value} {g h k:Nat} {e a:Int} {c0 c1 c2 c3 c4 c5 c6 c7:Value} {Q:Ending→World→Prop} (hm:AL W g 29 [c0,c1,c2,c3,c4,c5,c6,c7]) (he:AL W h 33 [.int .i64 e]) (ha:AL W k 3 [.int .i64 a])
 (h2:tmps.getD 2 undef= .pointer (some ⟨g,0,none⟩)) (h3:tmps.getD 3 undef= .pointer (some ⟨h,0,none⟩)) (h4:tmps.getD 4 undef= .pointer (some ⟨k,0,none⟩)) (hq:Q (.returned (.tuple #[.agg #[c0,c1,c2,c3,c4,c5,c6,c7],.int .i64 e,.int .i64 a])) W):
 Leaves prog f14 tmps Q [] .returning W:=by
 rw [Array.getD_eq_getD_getElem?] at h2 h3 h4
 have m0:=hm.q 0 rfl
 have m1:=hm.q 1 rfl
 have m2:=hm.q 2 rfl
 have m3:=hm.q 3 rfl
 have m4:=hm.q 4 rfl
 have m5:=hm.q 5 rfl
 have m6:=hm.q 6 rfl
 have m7:=hm.q 7 rfl
 have k1:=he.q 0 rfl
 have k2:=ha.q 0 rfl
 refine⟨_,?_,hq⟩
 simp [results,results14,go_sem,h2,h3,h4,m0,m1,m2,m3,m4,m5,m6,m7,k1,k2]
theorem uJ {s:ByteArray} (hs:1048576<s.size) (w:World):Calls prog 14 #[.string s] w (SY w s):=by
 have hd:decide ((1048576:Int)<s.size)=true:=decide_eq_true (by omega)
 have HP:Hid (Ew s=(Br,13,0)):=AA (by unfold Ew;rw [if_pos hs])
 clear hs
 go_enter_defers func14,ntmps14
 go_wp2_with fail
 generalize hw1:World.alloc _ _=w1
 have hb:Below w.heap.size w w1:=by rw [←hw1];exact(((Below.refl _ _).alloc (Nat.le_refl _) _).alloc (by simp) _).alloc (by simp;omega) _
 have hm:AL w1 w.heap.size 29 Q5:=by rw [←hw1];exact((AL.new w 29 Q5).alloc _).alloc _
 have he:AL w1 (w.heap.size+1) 33 [.int .i64 13]:=by
  have:=(AL.new (w.alloc (.cells Q5.toArray 29)) 33 [.int .i64 13]).alloc (.cells #[.int .i64 0] 3)
  rw [World.size_alloc] at this
  rw [←hw1];exact this
 have ha:AL w1 (w.heap.size+1+1) 3 [.int .i64 0]:=by
  have:=AL.new ((w.alloc (.cells Q5.toArray 29)).alloc (.cells #[.int .i64 13] 33)) 3 [.int .i64 0]
  simp only [World.size_alloc] at this
  rw [←hw1];exact this
 clear hw1
 refine RB hm he ha rfl rfl rfl ?_
 refine⟨hb,Q5,rfl,?_,?_⟩
 ·rw [HP.out];rfl
 ·rw [HP.out];exact JQ.more (Nat.le_refl _) (Nat.le_refl _) (Nz w1 w.heap.size)
theorem uK {s:ByteArray} (hs:s.size≤1048576) {hi:Nat} (w:World) (hE:Dv hi w) (hhi:hi≤w.heap.size):Calls prog 14 #[.string s] w (SY w s):=by
 have hd:decide ((1048576:Int)<s.size)=false:=decide_eq_false (by omega)
 have HS:=AA hs;have HE:=AA hE
 have hmf: ∀(fn:Fn) (first cap:Array Value) (w:World),(Instr.makeFunc fn first cap).run prog w= .ok (.func fn first cap) w:=fun _ _ _ _=>rfl
 clear hs hE
 go_enter_defers func14,ntmps14
 go_wp2_with fail
 refine(iZ _).mono ?_
 rintro e w2 ⟨rfl,rfl⟩
 go_wp2_with fail
 generalize hw2:World.alloc _ _=w2
 have hb2:Below w.heap.size w w2:=by
  rw [←hw2]
  exact((((((Below.refl _ _).alloc (Nat.le_refl _) _).alloc (by simp only [World.size_alloc];omega) _).alloc (by simp only [World.size_alloc];omega) _).alloc (by simp only [World.size_alloc];omega) _).alloc (by simp only [World.size_alloc];omega) _).alloc (by simp only [World.size_alloc];omega) _
 obtain⟨mx,hmx⟩:=HE.out.mx w2 (hb2.mono hhi)
 refine(strings_Split s _ mx w2 (by have:=HS.out;omega) hmx (by decide)).mono ?_
 rintro e w3 ⟨rfl,hw3⟩
 have hM:Zb w w3 w.heap.size s∧AL w3 (w.heap.size+1+1+1) 104 rdZ:=by
  rw [hw3,←hw2]
  exact uI w s _ rfl
 have h2s:w2.heap.size=w.heap.size+1+1+1+1+1+1:=by rw [←hw2];simp only [World.size_alloc]
 have hn:(EC s).length=Lib.countB s gW+1:=Lib.splitB_all gW (by decide) 0 _ s rfl
 rw [h2s]
 obtain⟨n,hn2⟩: ∃n,n=Lib.countB s gW+1:=⟨_,rfl⟩
 have HN:Hid ((EC s).length=n):=AA (by rw [hn,hn2])
 have hn3:Lib.countB s {data:= #[10]}+1=n:=hn2.symm
 rw [hn3]
 have HL0:Hid (wO w w3 w.heap.size s 0 qj):=AA ⟨hM.1,oV hM.2 (by omega) (by have:=hM.1.top;omega),U_.start _⟩
 clear hw3 hw2 hb2 hmx hM h2s hn hn2 hn3
 go_wp2_with fail
 go_loopw [8,21] (fun v8 i wr=> ∃(k:Nat) (r:Ka),k≤n∧i= .int .i64 k∧wO w wr w.heap.size s k r) (fun _ i _=>n-(intOf i).toNat)
 case atStart=>exact⟨0,qj,Nat.zero_le _,rfl,HL0.out⟩
 case round=>
  obtain⟨k,r,hk,rfl,hl⟩:=hrel
  have HL:=AA hl
  have hk0:(0:Int)≤k:=by omega
  have qb:=hl.mem.gr.q 0 rfl
  obtain⟨c0,c1,c2,c5,c6,c7,hblk⟩:=hl.rd.blk
  have Vs:=AA hblk
  have hbl:=hblk.lt
  clear hl
  by_cases hlt:k<n
  ·obtain⟨x,hx⟩: ∃x,(EC s)[k]?=some x:=⟨_,List.getElem?_eq_getElem (by rw [HN.out];exact hlt)⟩
   have KU:decide ((k:Int)<n)=true:=decide_eq_true (by omega)
   have qa:wr.cell? ⟨w.heap.size+1+1+1+1+1+1,k,none⟩=some (.string x):=HL.out.mem.at_ k x hx
   have qc:=hblk.q 9 rfl
   have qf:=hblk.frozen 9
   have HX:=AA hx
   clear hblk hx
   go_wp2_with fail
   have hnb:n≤1048577:=by rw [←HN.out];have:=Nv s HS.out;have:=Oj (EC s);omega
   have hwr:wrap64 ((k:Int)+1)=((k+1:Nat):Int):=by unfold wrap64;omega
   rw [hwr]
   have hK1:Keep (fun j=>j<w.heap.size+7∧j≠w.heap.size+1+1+1) wr (wr.setCell ⟨w.heap.size+1+1+1,9,none⟩ (.int .i64 ((k+1:Nat):Int))):=(Keep.refl _ _).setCell (p:=⟨w.heap.size+1+1+1,9,none⟩) (fun e=>e.2 rfl) _
   have Z4:=AA (HL.out.mem.keep hK1)
   have hxs:x.size+1≤Em (EC s):=M9 (List.mem_of_getElem? HX.out)
   have hsum:=Nv s HS.out
   have hread:=tF (B:=w.heap.size+7) (b:=w.heap.size+1+1+1) (hi:=hi) (M:=w.heap.size+1+1+1+1+1) (s:=x) ⟨HL.out.rd.line (k+1),Z4.out.map,(Array.getElem?_eq_some_iff.1 Z4.out.map).1,HE.out.to (Z4.out.IE.mono hhi),by omega,HL.out.up.lens.mono (by omega),by omega⟩
   generalize hwl:wr.setCell ⟨w.heap.size+1+1+1,9,none⟩ (.int .i64 ((k+1:Nat):Int))=wl at*
   have ABX:Hid ((if GV (DN x)=true then some r else Ar r (DN x))=QE r x):=AA rfl
   rw [ABX.out] at hread
   refine hread.mono ?_
   clear hread hwr hwl hK1 hxs hsum Vs hbl qb
   rintro e w5 ⟨hk5,⟨hno,rfl,hln⟩ | ⟨r',hyes,rfl,hin⟩⟩
   ·have fK:=AA (Z4.out.keep (hk5.Dt fun j _ h=>by omega))
    have HP:=AA (jL HS.out HL.out.up HX.out hno)
    clear hk5 hno
    go_wp2_with fail
    refine leaves_cons (f:=56) (args:= #[.pointer (some ⟨w.heap.size+1+1+1+1,0,none⟩),.pointer (some ⟨w.heap.size,0,none⟩),.pointer (some ⟨w.heap.size+1,0,none⟩),.pointer (some ⟨w.heap.size+1+1,0,none⟩)]) (by simp) (by simp [go_sem]) ?_
    refine(WX (w.heap.size+1+1+1+1) w.heap.size (w.heap.size+1) (w.heap.size+1+1) (w.heap.size+1+1+1) 0 0 ((k+1:Nat):Int) _ _ _ _ _ _ _ _ w5 fK.out.gr fK.out.gm fK.out.ge fK.out.ga (by omega) (by omega) (by omega) hln (by omega) (by omega) (by omega) (by have:=fK.out.top;omega) (by omega)).mono ?_
    rintro e u' wx ⟨rfl,rfl,hkx,hbm,hbe,hba⟩
    refine RB hbm hbe hba rfl rfl rfl ⟨fK.out.IE.trans (hkx.below fK.out.IE.size fun j hj=>by omega),Q5,rfl,?_,?_⟩
    ·rw [HP.out];rfl
    ·rw [HP.out];exact Nz wx _
   ·have fK:=AA (Z4.out.keep (hk5.Dt fun j _ h=>by omega))
    have HU:=AA (HL.out.up.next HX.out hyes)
    have OM:=AA hin
    clear hk5 hyes hin
    go_wp2_with fail
    exact⟨⟨k+1,r',by omega,by go_num,⟨fK.out,OM.out,HU.out⟩⟩,by simp [intOf];omega⟩
  ·obtain rfl:k=n:=by omega
   have KU:decide ((k:Int)<k)=false:=decide_eq_false (by omega)
   have q8:=hblk.q 8 rfl
   have HP:=AA (jM HS.out HN.out HL.out.up)
   by_cases h5:r.st<5
   ·have hge:decide ((r.st:Int)≥5)=false:=decide_eq_false (by omega)
    have hge':decide ((5:Int)≤r.st)=false:=decide_eq_false (by omega)
    have HP2:Hid (Ew s=(Br,22,k)):=AA (by rw [HP.out,if_pos h5])
    have qc:=hblk.q 9 rfl
    clear hblk h5
    go_wp2_with fail
    refine(AY _).mono ?_
    rintro e w5 ⟨rfl,rfl⟩
    go_wp2_with fail
    refine leaves_cons (f:=56) (args:= #[.pointer (some ⟨w.heap.size+1+1+1+1,0,none⟩),.pointer (some ⟨w.heap.size,0,none⟩),.pointer (some ⟨w.heap.size+1,0,none⟩),.pointer (some ⟨w.heap.size+1+1,0,none⟩)]) (by simp) (by simp [go_sem]) ?_
    refine(WX (w.heap.size+1+1+1+1) w.heap.size (w.heap.size+1) (w.heap.size+1+1) (w.heap.size+1+1+1) 0 0 (k:Int) _ _ _ _ _ _ _ _ wr HL.out.mem.gr HL.out.mem.gm HL.out.mem.ge HL.out.mem.ga (by omega) (by omega) (by omega) qc (by omega) (by omega) (by omega) hbl (by omega)).mono ?_
    rintro e u' wx ⟨rfl,rfl,hkx,hbm,hbe,hba⟩
    refine RB hbm hbe hba rfl rfl rfl ⟨HL.out.mem.IE.trans (hkx.below HL.out.mem.IE.size fun j hj=>by omega),Q5,rfl,?_,?_⟩
    ·rw [HP2.out];rfl
    ·rw [HP2.out];exact Nz wx _
   ·have hge:decide ((r.st:Int)≥5)=true:=decide_eq_true (by omega)
    have hge':decide ((5:Int)≤r.st)=true:=decide_eq_true (by omega)
    have H5:=AA h5
    clear h5
    go_wp2_with fail
    refine(AO _).mono ?_
    rintro e w5 ⟨rfl,rfl⟩
    obtain⟨col,v1,v2,v3,v6,v7,v8,hrc⟩:=HL.out.rd.close
    obtain⟨A1,e1,_,rfl,_⟩:=hrc.six.p1
    obtain⟨A2,e2,_,rfl,_⟩:=hrc.six.p2
    obtain⟨A3,e3,_,rfl,_⟩:=hrc.six.p3
    obtain⟨A6,e6,_,rfl,_⟩:=hrc.six.p6
    obtain⟨A7,e7,_,rfl,_⟩:=hrc.six.p7
    obtain⟨A8,e8,_,rfl,_⟩:=hrc.six.p8
    have HR:=AA hrc.reads
    have HB:=AA hrc.blk
    have q0:=hrc.blk.q 0 rfl
    have q1:=hrc.blk.q 1 rfl
    have q2:=hrc.blk.q 2 rfl
    have q3:=hrc.blk.q 3 rfl
    have q4:=hrc.blk.q 4 rfl
    have q5:=hrc.blk.q 5 rfl
    have q6:=hrc.blk.q 6 rfl
    have q7:=hrc.blk.q 7 rfl
    clear hrc hblk q8
    go_wp2_with fail
    have JE:=Wo [(.slice A1 r.m.types.length e1),(.slice A2 r.m.hosts.length e2),(.slice A3 r.m.globs.length e3),.int .i64 r.m.first,.int .i64 r.m.most,(.slice A6 r.m.fns.length e6),(.slice A7 r.m.dat.length e7),(.slice A8 r.m.AU.length e8)] wr.heap.size r.m wr (JQ.more (Nat.zero_le _) (Nat.le_refl _) HR.out) (Nat.le_refl _) (HL.out.up.small HS.out) (SX HR.out) (fun w' hb=>HE.out.sI w' ((HL.out.mem.IE.mono hhi).trans (hb.mono (Nat.le_trans hhi HL.out.mem.IE.size))))
    refine JE.mono ?_
    clear JE
    rintro e w6 ⟨hb6,rfl⟩
    have Pz:=AA (HL.out.mem.keep ((Keep.Aq hb6).Dt fun j hj _=>hj))
    have Lr:=AA hb6
    have ABY:=hb6.size
    have m0:=Pz.out.gm.q 0 rfl
    have m1:=Pz.out.gm.q 1 rfl
    have m2:=Pz.out.gm.q 2 rfl
    have m3:=Pz.out.gm.q 3 rfl
    have m4:=Pz.out.gm.q 4 rfl
    have m5:=Pz.out.gm.q 5 rfl
    have m6:=Pz.out.gm.q 6 rfl
    have m7:=Pz.out.gm.q 7 rfl
    have n0:=Pz.out.gm.frozen 0
    have n1:=Pz.out.gm.frozen 1
    have n2:=Pz.out.gm.frozen 2
    have n3:=Pz.out.gm.frozen 3
    have n4:=Pz.out.gm.frozen 4
    have n5:=Pz.out.gm.frozen 5
    have n6:=Pz.out.gm.frozen 6
    have n7:=Pz.out.gm.frozen 7
    have k1:=Pz.out.ge.q 0 rfl
    have k2:=Pz.out.ga.q 0 rfl
    have f1:=Pz.out.ge.frozen 0
    have f2:=Pz.out.ga.frozen 0
    have g6:=Pz.out.gr.q 0 rfl
    have HB2:=AA (HB.out.below Lr.out hbl)
    clear hb6 q0 q1 q2 q3 q4 q5 q6 q7 qb HB
    by_cases hz:GU r.m=0
    ·have hz0:(GU r.m !=0)=false:=by rw [hz];rfl
     have HZ:Hid (Ew s=(r.m,0,0)):=AA (by rw [HP.out,if_neg H5.out,if_pos hz])
     have q0:=HB2.out.q 0 rfl
     have q1:=HB2.out.q 1 rfl
     have q2:=HB2.out.q 2 rfl
     have q3:=HB2.out.q 3 rfl
     have q4:=HB2.out.q 4 rfl
     have q5:=HB2.out.q 5 rfl
     have q6:=HB2.out.q 6 rfl
     have q7:=HB2.out.q 7 rfl
     clear hz
     go_wp2_with fail
     generalize hw7:World.setCell _ _ _=w7
     have hK7:Keep (fun j=>j≠w.heap.size∧j≠w.heap.size+1∧j≠w.heap.size+1+1) w6 w7:=by rw [←hw7];exact(((((((((((Keep.refl _ _).setCell (p:=⟨w.heap.size,0,none⟩) (fun e=>e.1 rfl) _).setCell (p:=⟨w.heap.size,1,none⟩) (fun e=>e.1 rfl) _).setCell (p:=⟨w.heap.size,2,none⟩) (fun e=>e.1 rfl) _).setCell (p:=⟨w.heap.size,3,none⟩) (fun e=>e.1 rfl) _).setCell (p:=⟨w.heap.size,4,none⟩) (fun e=>e.1 rfl) _).setCell (p:=⟨w.heap.size,5,none⟩) (fun e=>e.1 rfl) _).setCell (p:=⟨w.heap.size,6,none⟩) (fun e=>e.1 rfl) _).setCell (p:=⟨w.heap.size,7,none⟩) (fun e=>e.1 rfl) _).setCell (p:=⟨w.heap.size+1,0,none⟩) (fun e=>e.2.1 rfl) _).setCell (p:=⟨w.heap.size+1+1,0,none⟩) (fun e=>e.2.2 rfl) _)
     have hM7:AL w7 w.heap.size 29 [(.slice A1 r.m.types.length e1),(.slice A2 r.m.hosts.length e2),(.slice A3 r.m.globs.length e3),.int .i64 r.m.first,.int .i64 r.m.most,(.slice A6 r.m.fns.length e6),(.slice A7 r.m.dat.length e7),(.slice A8 r.m.AU.length e8)]:=by rw [←hw7];exact((((((((((Pz.out.gm.set 0 (.slice A1 r.m.types.length e1)).set 1 (.slice A2 r.m.hosts.length e2)).set 2 (.slice A3 r.m.globs.length e3)).set 3 (.int .i64 r.m.first)).set 4 (.int .i64 r.m.most)).set 5 (.slice A6 r.m.fns.length e6)).set 6 (.slice A7 r.m.dat.length e7)).set 7 (.slice A8 r.m.AU.length e8)).far (p:=⟨w.heap.size+1,0,none⟩) (show w.heap.size≠w.heap.size+1 from by omega) _).far (p:=⟨w.heap.size+1+1,0,none⟩) (show w.heap.size≠w.heap.size+1+1 from by omega) _)
     have hE7:AL w7 (w.heap.size+1) 33 [(.int .i64 0)]:=by rw [←hw7];exact((((((((((Pz.out.ge.far (p:=⟨w.heap.size,0,none⟩) (show w.heap.size+1≠w.heap.size from by omega) _).far (p:=⟨w.heap.size,1,none⟩) (show w.heap.size+1≠w.heap.size from by omega) _).far (p:=⟨w.heap.size,2,none⟩) (show w.heap.size+1≠w.heap.size from by omega) _).far (p:=⟨w.heap.size,3,none⟩) (show w.heap.size+1≠w.heap.size from by omega) _).far (p:=⟨w.heap.size,4,none⟩) (show w.heap.size+1≠w.heap.size from by omega) _).far (p:=⟨w.heap.size,5,none⟩) (show w.heap.size+1≠w.heap.size from by omega) _).far (p:=⟨w.heap.size,6,none⟩) (show w.heap.size+1≠w.heap.size from by omega) _).far (p:=⟨w.heap.size,7,none⟩) (show w.heap.size+1≠w.heap.size from by omega) _).set 0 (.int .i64 0)).far (p:=⟨w.heap.size+1+1,0,none⟩) (show w.heap.size+1≠w.heap.size+1+1 from by omega) _)
     have hA7:AL w7 (w.heap.size+1+1) 3 [.int .i64 0]:=by rw [←hw7];exact((((((((((Pz.out.ga.far (p:=⟨w.heap.size,0,none⟩) (show w.heap.size+1+1≠w.heap.size from by omega) _).far (p:=⟨w.heap.size,1,none⟩) (show w.heap.size+1+1≠w.heap.size from by omega) _).far (p:=⟨w.heap.size,2,none⟩) (show w.heap.size+1+1≠w.heap.size from by omega) _).far (p:=⟨w.heap.size,3,none⟩) (show w.heap.size+1+1≠w.heap.size from by omega) _).far (p:=⟨w.heap.size,4,none⟩) (show w.heap.size+1+1≠w.heap.size from by omega) _).far (p:=⟨w.heap.size,5,none⟩) (show w.heap.size+1+1≠w.heap.size from by omega) _).far (p:=⟨w.heap.size,6,none⟩) (show w.heap.size+1+1≠w.heap.size from by omega) _).far (p:=⟨w.heap.size,7,none⟩) (show w.heap.size+1+1≠w.heap.size from by omega) _).far (p:=⟨w.heap.size+1,0,none⟩) (show w.heap.size+1+1≠w.heap.size+1 from by omega) _).set 0 (.int .i64 0))
     clear hw7
     refine leaves_cons (f:=56) (args:= #[.pointer (some ⟨w.heap.size+1+1+1+1,0,none⟩),.pointer (some ⟨w.heap.size,0,none⟩),.pointer (some ⟨w.heap.size+1,0,none⟩),.pointer (some ⟨w.heap.size+1+1,0,none⟩)]) (by simp) (by simp [go_sem]) ?_
     refine(ZN _ _ _ _ _).mono ?_
     rintro e u' wx ⟨rfl,rfl,rfl⟩
     refine RB hM7 hE7 hA7 rfl rfl rfl ⟨Pz.out.IE.trans (hK7.below Pz.out.IE.size fun j hj=>by omega),[(.slice A1 r.m.types.length e1),(.slice A2 r.m.hosts.length e2),(.slice A3 r.m.globs.length e3),.int .i64 r.m.first,.int .i64 r.m.most,(.slice A6 r.m.fns.length e6),(.slice A7 r.m.dat.length e7),(.slice A8 r.m.AU.length e8)],rfl,?_,?_⟩
     ·rw [HZ.out];rfl
     ·rw [HZ.out];exact JQ.more (by omega) (Nat.le_trans ABY hK7.size) (Rd.GX (JQ.below HR.out Lr.out (Nat.le_refl _)) hK7 ABY fun j ha hb=>by omega)
    ·have hz0:(GU r.m !=0)=true:=bne_iff_ne.2 hz
     have HZ:Hid (Ew s=(Br,GU r.m,0)):=AA (by rw [HP.out,if_neg H5.out,if_neg hz])
     clear hz
     go_wp2_with fail
     generalize hw7:World.setCell _ _ _=w7
     have hK7:Keep (fun j=>j≠w.heap.size∧j≠w.heap.size+1∧j≠w.heap.size+1+1) w6 w7:=by rw [←hw7];exact(((((((((((Keep.refl _ _).setCell (p:=⟨w.heap.size,0,none⟩) (fun e=>e.1 rfl) _).setCell (p:=⟨w.heap.size,1,none⟩) (fun e=>e.1 rfl) _).setCell (p:=⟨w.heap.size,2,none⟩) (fun e=>e.1 rfl) _).setCell (p:=⟨w.heap.size,3,none⟩) (fun e=>e.1 rfl) _).setCell (p:=⟨w.heap.size,4,none⟩) (fun e=>e.1 rfl) _).setCell (p:=⟨w.heap.size,5,none⟩) (fun e=>e.1 rfl) _).setCell (p:=⟨w.heap.size,6,none⟩) (fun e=>e.1 rfl) _).setCell (p:=⟨w.heap.size,7,none⟩) (fun e=>e.1 rfl) _).setCell (p:=⟨w.heap.size+1,0,none⟩) (fun e=>e.2.1 rfl) _).setCell (p:=⟨w.heap.size+1+1,0,none⟩) (fun e=>e.2.2 rfl) _)
     have hM7:AL w7 w.heap.size 29 [.slice none 0 0,.slice none 0 0,.slice none 0 0,.int .i64 0,.int .i64 0,.slice none 0 0,.slice none 0 0,.slice none 0 0]:=by rw [←hw7];exact((((((((((Pz.out.gm.set 0 (.slice none 0 0)).set 1 (.slice none 0 0)).set 2 (.slice none 0 0)).set 3 (.int .i64 0)).set 4 (.int .i64 0)).set 5 (.slice none 0 0)).set 6 (.slice none 0 0)).set 7 (.slice none 0 0)).far (p:=⟨w.heap.size+1,0,none⟩) (show w.heap.size≠w.heap.size+1 from by omega) _).far (p:=⟨w.heap.size+1+1,0,none⟩) (show w.heap.size≠w.heap.size+1+1 from by omega) _)
     have hE7:AL w7 (w.heap.size+1) 33 [(.int .i64 (GU r.m))]:=by rw [←hw7];exact((((((((((Pz.out.ge.far (p:=⟨w.heap.size,0,none⟩) (show w.heap.size+1≠w.heap.size from by omega) _).far (p:=⟨w.heap.size,1,none⟩) (show w.heap.size+1≠w.heap.size from by omega) _).far (p:=⟨w.heap.size,2,none⟩) (show w.heap.size+1≠w.heap.size from by omega) _).far (p:=⟨w.heap.size,3,none⟩) (show w.heap.size+1≠w.heap.size from by omega) _).far (p:=⟨w.heap.size,4,none⟩) (show w.heap.size+1≠w.heap.size from by omega) _).far (p:=⟨w.heap.size,5,none⟩) (show w.heap.size+1≠w.heap.size from by omega) _).far (p:=⟨w.heap.size,6,none⟩) (show w.heap.size+1≠w.heap.size from by omega) _).far (p:=⟨w.heap.size,7,none⟩) (show w.heap.size+1≠w.heap.size from by omega) _).set 0 (.int .i64 (GU r.m))).far (p:=⟨w.heap.size+1+1,0,none⟩) (show w.heap.size+1≠w.heap.size+1+1 from by omega) _)
     have hA7:AL w7 (w.heap.size+1+1) 3 [.int .i64 0]:=by rw [←hw7];exact((((((((((Pz.out.ga.far (p:=⟨w.heap.size,0,none⟩) (show w.heap.size+1+1≠w.heap.size from by omega) _).far (p:=⟨w.heap.size,1,none⟩) (show w.heap.size+1+1≠w.heap.size from by omega) _).far (p:=⟨w.heap.size,2,none⟩) (show w.heap.size+1+1≠w.heap.size from by omega) _).far (p:=⟨w.heap.size,3,none⟩) (show w.heap.size+1+1≠w.heap.size from by omega) _).far (p:=⟨w.heap.size,4,none⟩) (show w.heap.size+1+1≠w.heap.size from by omega) _).far (p:=⟨w.heap.size,5,none⟩) (show w.heap.size+1+1≠w.heap.size from by omega) _).far (p:=⟨w.heap.size,6,none⟩) (show w.heap.size+1+1≠w.heap.size from by omega) _).far (p:=⟨w.heap.size,7,none⟩) (show w.heap.size+1+1≠w.heap.size from by omega) _).far (p:=⟨w.heap.size+1,0,none⟩) (show w.heap.size+1+1≠w.heap.size+1 from by omega) _).set 0 (.int .i64 0))
     clear hw7
     refine leaves_cons (f:=56) (args:= #[.pointer (some ⟨w.heap.size+1+1+1+1,0,none⟩),.pointer (some ⟨w.heap.size,0,none⟩),.pointer (some ⟨w.heap.size+1,0,none⟩),.pointer (some ⟨w.heap.size+1+1,0,none⟩)]) (by simp) (by simp [go_sem]) ?_
     refine(ZN _ _ _ _ _).mono ?_
     rintro e u' wx ⟨rfl,rfl,rfl⟩
     refine RB hM7 hE7 hA7 rfl rfl rfl ⟨Pz.out.IE.trans (hK7.below Pz.out.IE.size fun j hj=>by omega),Q5,rfl,?_,?_⟩
     ·rw [HZ.out];rfl
     ·rw [HZ.out];exact Nz _ _
theorem Sb (s:ByteArray) {hi:Nat} (w:World) (hE:Dv hi w) (hhi:hi≤w.heap.size):Calls prog 14 #[.string s] w (SY w s):=by
 by_cases hs:1048576<s.size
 ·exact uJ hs w
 ·exact uK (by omega) w hE hhi
end Go.Proofs.YtejbcledkhioeaaGreatDoor
