/- Part 36 of the proof: RdrS Par2 WrkP -/
import Derived.Test.YtebgikflpgcnlaaGreatDoorP16
import Derived.Test.YtebgikflpgcnlaaGreatDoorP34
import Derived.Test.YtebgikflpgcnlaaGreatDoorP35
namespace Go.Proofs.YtebgikflpgcnlaaGreatDoor
set_option linter.unusedVariables false
set_option linter.unusedSimpArgs false
set_option maxRecDepth 100000
set_option maxHeartbeats 4000000
open Go.RowKit Tryz
section
variable {B b hi M:Nat} {w:World} {r:Nb} {ln:Nat} {s:ByteArray}
theorem l9.below {W W':World} {m:AQ} {fs:List FL} {f:FL} {lo:Nat} {col:Nat→Nat} {v1 v2 v3 v7 v8:Value} {A:Option Addr} {c:Nat} {cells:List Value} {vc:Value} (h:l9 B b W m ln fs f lo col v1 v2 v3 v7 v8 A c cells vc) (hb:Below W.heap.size W W'):
 l9 B b W' m ln fs f lo (K5 W col 9) v1 v2 v3 v7 v8 A c cells vc:=by
 have hF:=h.fn
 have hK:Keep (fun _=>True) W W':=(Keep.Am hb).mono fun _ _=>trivial
 have dA:=hF.hi_
 refine⟨h.blk.below hb h.blk.lt,h.five.keep hK (fun _ _ _ _=>trivial) _ (fun k hk _=>Ao hk rfl) rfl rfl rfl rfl rfl,⟨CJ hF.own hb,fun g hg=> ?_,fun k x hk=> ?_,hF.t,hF.loc,hF.code.keep hK (fun _ _ _ _=>trivial) (fun _ _ e=>e),hF.lo_,Nat.le_trans dA hb.size,fun k hk hk2=> ?_⟩,h.fns,h.low,Nat.le_trans h.top hb.size,h.first,h.most⟩
 ·have:=hF.at_ g hg
  exact⟨by rw [Ao (by omega) rfl];exact this.1,this.2⟩
 ·obtain⟨l,hh,g1,g2,g3,g4,g5⟩:=hF.els k x hk
  exact⟨l,hh,g1,g2,g3,fun g ha hb'=>by rw [Ao (by omega) rfl];exact g4 g ha hb',Tf.below g5 hb (by omega)⟩
 ·by_cases h2:k<W.heap.size
  ·rw [Ao h2 rfl];exact hF.new k hk h2
  ·exact OE (by omega)
theorem Ko.below {W W':World} {m:AQ} (h:Ko B b W m ln) (hb:Below W.heap.size W W'):Ko B b W' m ln:=by
 obtain⟨fs,f,lo,col,v1,v2,v3,v7,v8,A,c,cells,vc,h⟩:=h
 exact⟨fs,f,lo,_,v1,v2,v3,v7,v8,A,c,cells,vc,h.below hb⟩
theorem TH.below {W W':World} (h:TH B b W r ln) (hb:Below W.heap.size W W'):TH B b W' r ln:=
 h.elim (fun x=> .inl ⟨x.1,x.2.below hb⟩) (fun x=> .inr ⟨x.1,x.2.below hb⟩)
theorem TH.blk {W:World} (h:TH B b W r ln): ∃v1 v2 v3 v6 v7 v8,AV W b 104 [v1,v2,v3,.int .i64 r.m.first,.int .i64 r.m.most,v6,v7,v8,.int .i64 r.st,.int .i64 ln]:=by
 obtain⟨col,v1,v2,v3,v6,v7,v8,h⟩:=h.close
 exact⟨v1,v2,v3,v6,v7,v8,h.blk⟩
theorem Zu (h:qE B b hi M w r ln s) (hw:EP s= []):
 Calls prog 59 #[.pointer (some ⟨b,0,none⟩),.string s,.map (some M)] w (Gw B b w ln (some r)):=by
 have hcall:=Hq s (by have:=h.sz;omega) w
 rw [hw] at hcall
 have HI:=AA h
 have Es:=AA hcall
 clear hcall h
 go_enter func59,ntmps59
 go_wp2_with fail
 refine Es.out.mono ?_
 clear Es
 rintro e w1 ⟨A,rfl,hA,ho,hb1⟩
 have HB1:=AA hb1
 clear ho hb1
 go_wp2_with fail
 go_end0
 exact⟨(Keep.Am HB1.out).ER (fun k hk _=>hk),.inr ⟨r,rfl,rfl,HI.out.rd.below HB1.out⟩⟩
theorem Zv (h:qE B b hi M w r ln s) {x0:ByteArray} {t:List ByteArray} (hwd:EP s=x0::t) (hsk:JQ (x0::t)=true):
 Calls prog 59 #[.pointer (some ⟨b,0,none⟩),.string s,.map (some M)] w (Gw B b w ln (some r)):=by
 have hcall:=Hq s (by have:=h.sz;omega) w
 obtain⟨hws,hpos⟩:=Ho s
 have hsz:=h.sz
 rw [hwd] at hcall hws hpos
 have hx0:=hpos x0 (List.mem_cons_self ..)
 have h59:((x0[0]'hx0).toNat:Int)=59:=by
  have h1:(x0.data.toList.head?==some 59)=true:=hsk
  rw [beq_iff_eq] at h1
  have h2:x0.data.toList[0]?=some 59:=by rw [←List.head?_eq_getElem?];exact h1
  have hl:0<x0.data.toList.length:=by rw [←Lib.size_eq];exact hx0
  rw [List.getElem?_eq_getElem hl] at h2
  injection h2 with h2
  have h3:x0[0]'hx0=59:=h2
  rw [h3];rfl
 obtain⟨n,hn⟩: ∃n,n=(x0::t).length:=⟨_,rfl⟩
 have hn0:0<n:=by rw [hn,List.length_cons];omega
 have hz0:((n:Int)==0)=false:=by rw [beq_eq_false_iff_ne];omega
 have RH:=AA hn
 have HI:=AA h
 have Es:=AA hcall
 clear hcall h
 go_enter func59,ntmps59
 go_wp2_with fail
 refine Es.out.mono ?_
 clear Es
 rintro e w1 ⟨A,rfl,hA,ho,hb1⟩
 have hw1:=KY ho hA (List.cons_ne_nil _ _) (by omega)
 have q0:w1.cell? ⟨A,0,none⟩=some (.string x0):=hw1.at_ 0 _ rfl
 have HB1:=AA hb1
 rw [←RH.out]
 have Qw:(((x0[0]'hx0).toNat:Int)==59)=true:=by rw [h59];rfl
 clear hn ho hb1 hw1 hws hpos hwd hsk h59
 go_wp2_with fail
 go_end0
 exact⟨(Keep.Am HB1.out).ER (fun k hk _=>hk),.inr ⟨r,rfl,rfl,HI.out.rd.below HB1.out⟩⟩
instance byteLaw:LawfulBEq ByteArray where
 eq_of_beq {a b} h:=by
  cases a;cases b
  exact congrArg ByteArray.mk (eq_of_beq h)
 rfl {a}:=by
  obtain⟨d⟩:=a
  exact beq_self_eq_true d
theorem nN {x:ByteArray} (h:EX x=0): ∀k∈kinds,x≠k:=by
 intro k hk e
 subst e
 unfold EX at h
 cases hi:kinds.idxOf? x with
 | none=>rw [List.idxOf?_eq_none_iff] at hi;exact hi hk
 | some i=>rw [hi] at h;simp at h
theorem nO {x:ByteArray} (h:EX x=0):Instr.findNow .string (.string x) JD.toList 0=some none:=by
 have hk:=nN h
 have hb: ∀k∈kinds,(x==k)=false:=fun k hm=>beq_eq_false_iff_ne.2 (hk k hm)
 have h1:=hb Jj (by simp [kinds]);have h2:=hb PU (by simp [kinds]);have h3:=hb Jk (by simp [kinds]);have h4:=hb G7 (by simp [kinds])
 have h5:=hb Jl (by simp [kinds]);have h6:=hb PV (by simp [kinds]);have h7:=hb PW (by simp [kinds]);have h8:=hb Jm (by simp [kinds])
 unfold JD
 simp only [Instr.findNow,Instr.sameNow,h1,h2,h3,h4,h5,h6,h7,h8]
theorem nP (W:World):(zeroValue 148).run prog W= .ok (.agg #[.int .i64 0,.nilFunc]) W:=by kernel_rfl
theorem nQ {x0:ByteArray} {t:List ByteArray} (h:EX x0=0):Ai r (x0::t)=if r.st=6 then(RZ r.m x0 t).map (fun m'=>(⟨m',6⟩:Nb)) else none:=by
 unfold Ai
 simp only
 rw [if_pos h]
 split
 ·unfold RZ
  cases N_ x0 with
  | none=>rfl
  | some o=>show(Qe o t).map _=((Qe o t).map _).map _;cases Qe o t<;>rfl
 ·rfl
theorem dN (h:qE B b hi M w r ln s) {x0:ByteArray} {t:List ByteArray} (hwd:EP s=x0::t) (hsk:JQ (x0::t)=false) (hkd:EX x0=0):
 Calls prog 59 #[.pointer (some ⟨b,0,none⟩),.string s,.map (some M)] w (Gw B b w ln (Ai r (x0::t))):=by
 have hcall:=Hq s (by have:=h.sz;omega) w
 obtain⟨hws,hpos⟩:=Ho s
 have hsz:=h.sz
 rw [hwd] at hcall hws hpos
 have hx0:=hpos x0 (List.mem_cons_self ..)
 have Qw:(((x0[0]'hx0).toNat:Int)==59)=false:=by
  rw [beq_eq_false_iff_ne]
  intro e
  have h1:(x0.data.toList.head?==some 59)=false:=hsk
  have hl:0<x0.data.toList.length:=by rw [←Lib.size_eq];exact hx0
  rw [List.head?_eq_getElem?,List.getElem?_eq_getElem hl] at h1
  have h3:x0[0]'hx0=59:=by rw [←UInt8.toNat_inj];have:((x0[0]'hx0).toNat:Int)=((59:Nat):Int):=e;exact Int.ofNat.inj this
  have h4:x0.data.toList[0]=59:=h3
  rw [h4] at h1
  exact absurd h1 (by decide)
 obtain⟨n,hn⟩: ∃n,n=(x0::t).length:=⟨_,rfl⟩
 have hn0:0<n:=by rw [hn,List.length_cons];omega
 rw [←hn] at hcall
 have hz0:((n:Int)==0)=false:=by rw [beq_eq_false_iff_ne];omega
 have RH:Hid (n=t.length+1):=AA (by rw [hn,List.length_cons])
 have hfind:=nO hkd
 have VI:=AA (nQ (r:=r) (t:=t) hkd)
 have dM:=h.mlt
 have hhi:=h.hhi
 have HI:=AA h
 have Es:=AA hcall
 obtain⟨b1,b2,b3,b6,b7,b8,hblk⟩:=h.rd.blk
 have hbl:=hblk.lt
 have YU:=AA hblk
 clear hcall h hblk
 go_enter func59,ntmps59
 go_wp2_with fail
 refine Es.out.mono ?_
 clear Es
 rintro e w1 ⟨A,rfl,hA,ho,hb1⟩
 rw [hn] at ho
 have hw1:=KY ho hA (List.cons_ne_nil _ _) (by omega)
 have q0:w1.cell? ⟨A,0,none⟩=some (.string x0):=hw1.at_ 0 _ rfl
 have Ie:w1.heap[M]?=some (.map JD 8):=(hb1.block M dM).trans HI.out.map
 have M6:=dL (P:=prog) (W:=w1) (s:=x0) underlying108 underlying9 Ie (nP w1) hfind
 have HB1:=AA hb1;have HW1:=AA hw1
 have hsz1:=hb1.size
 clear hn ho hb1 hw1 hws hpos hwd hsk hkd hfind Ie
 go_wp2_with fail
 generalize hw2:World.alloc _ _=w2
 have I5:Below w1.heap.size w1 w2:=by rw [←hw2];exact(Below.refl _ _).alloc (Nat.le_refl _) _
 have hb2:=HB1.out.trans (I5.mono hsz1)
 have AEC:=HW1.out.below I5
 have hE2:Dt hi w2:=HI.out.env.up hb2 (by omega)
 have hAb:A≠b:=by omega
 clear hw2 I5 M6 q0 HW1 HB1
 have hfin: ∀(e:Ending) (w6:World) (res:Option AQ),(r.st=6→res=RZ r.m x0 t)→(r.st≠6→res=none)→K6 (fun W m'=>Ko B b W m' ln) B b w2 res e w6→Gw B b w ln (Ai r (x0::t)) e w6:=by
  intro e w6 res h6 hn6 hm
  rcases hm with⟨h1,h2,h3⟩ | ⟨m',h1,h2,h3,h4⟩
  ·refine⟨((Keep.Am hb2).ER (fun k hk _=>hk)).trans ((Keep.Am h3).ER (fun k hk _=>hk)),.inl ⟨?_,h2,?_⟩⟩
   ·rw [VI.out]
    split
    ·rename_i hs;rw [←h6 hs,h1];rfl
    ·rfl
   ·have hx:=(YU.out.below hb2 hbl)
    exact(h3.cell (p:=⟨b,9,none⟩) hx.lt).trans (hx.cell 9)
  ·have hs:r.st=6:=Decidable.byContradiction fun hs=>by rw [hn6 hs] at h1;cases h1
   refine⟨((Keep.Am hb2).ER (fun k hk _=>hk)).trans h3,.inr ⟨⟨m',6⟩,?_,h2,.inr ⟨rfl,h4⟩⟩⟩
   rw [VI.out,if_pos hs,←h6 hs,h1]
   rfl
 have TK:=AA hfin
 have AED:=HI.out.rd.below hb2
 have AEE:=AA AED;have HW2:=AA AEC;have HE2:=AA hE2
 clear hfin AED hb2 AEC hE2
 by_cases hs:r.st=6
 ·rcases AEE.out with⟨h0,_⟩ | ⟨_,hop⟩
  ·exact absurd hs h0
  obtain⟨fs,f,lo,col,v1,v2,v3,v7,v8,gF,c,cells,Ac,cc,JU,ho,hc⟩:=hop.parts
  refine(AB6 ⟨ho,hc,HW2.out,HE2.out,hhi,HI.out.lens⟩ n RH.out).mono ?_
  rintro e w6 hm
  have HP:=AA (TK.out e w6 _ (fun _=>rfl) (fun h=>absurd hs h) hm)
  clear TK
  rcases hm with⟨_,rfl,_⟩ | ⟨m',_,rfl,_,_⟩
  ·go_wp2_with fail
   exact⟨rfl,HP.out⟩
  ·go_wp2_with fail
   go_end0
   exact HP.out
 ·obtain⟨col,v1,v2,v3,v6,v7,v8,hr⟩:=AEE.out.close
  refine(nA hs ⟨hr,HW2.out,HE2.out,hhi,HI.out.lens,hAb⟩ n RH.out (fun W m'=>Ko B b W m' ln)).mono ?_
  rintro e w6 hm
  have HP:=AA (TK.out e w6 _ (fun h=>absurd h hs) (fun _=>rfl) hm)
  clear TK
  rcases hm with⟨_,rfl,_⟩ | ⟨m',h1,rfl,_,_⟩
  ·go_wp2_with fail
   exact⟨rfl,HP.out⟩
  ·cases h1
theorem zA (h:qE B b hi M w r ln s):
 Calls prog 59 #[.pointer (some ⟨b,0,none⟩),.string s,.map (some M)] w (Gw B b w ln (if JQ (EP s)=true then some r else Ai r (EP s))):=by
 cases hwd:EP s with
 | nil=>rw [if_pos (show JQ []=true from rfl)];exact Zu h hwd
 | cons x0 t=>
  cases hsk:JQ (x0::t)with
  | true=>rw [if_pos (rfl:true=true)];exact Zv h hwd hsk
  | false=>
   rw [if_neg Bool.false_ne_true]
   by_cases hk:EX x0=0
   ·exact dN h hwd hsk hk
   ·have hm:x0∈kinds:=by
     refine Classical.byContradiction fun hn=>hk ?_
     unfold EX
     rw [List.idxOf?_eq_none_iff.2 hn]
    simp only [kinds,List.mem_cons,List.not_mem_nil,or_false] at hm
    rcases hm with rfl | rfl | rfl | rfl | rfl | rfl | rfl | rfl
    ·have:=nE h hwd;rwa [hwd] at this
    ·have:=nG h hwd;rwa [hwd] at this
    ·have:=nH h hwd;rwa [hwd] at this
    ·have:=nI h hwd;rwa [hwd] at this
    ·have:=nJ h hwd;rwa [hwd] at this
    ·have:=nK h hwd;rwa [hwd] at this
    ·have:=nL h hwd;rwa [hwd] at this
    ·have:=nM h hwd;rwa [hwd] at this
end
section
variable {B b:Nat} {W:World} {m:AQ} {ln:Nat}
theorem QZ.line {col:Nat→Nat} {v1 v2 v3 v6 v7 v8:Value} {st:Nat} (h:QZ B b W col v1 v2 v3 v6 v7 v8 m st ln) (q:Nat):
 QZ B b (W.setCell ⟨b,9,none⟩ (.int .i64 q)) col v1 v2 v3 v6 v7 v8 m st q:=by
 have hlow:=h.low
 have hK:Keep (fun k=>k≠b) W (W.setCell ⟨b,9,none⟩ (.int .i64 q)):=(Keep.refl _ W).setCell (p:=⟨b,9,none⟩) (fun e=>e rfl) _
 exact⟨h.blk.set 9 _,h.six.keep hK (fun k hk _ _=>by omega) col (fun _ _ _=>rfl),hlow,Nat.le_trans h.top hK.size,h.first,h.most⟩
theorem l9.line {fs:List FL} {f:FL} {lo:Nat} {col:Nat→Nat} {v1 v2 v3 v7 v8:Value} {A:Option Addr} {c:Nat} {cells:List Value} {vc:Value} (h:l9 B b W m ln fs f lo col v1 v2 v3 v7 v8 A c cells vc) (q:Nat):
 l9 B b (W.setCell ⟨b,9,none⟩ (.int .i64 q)) m q fs f lo col v1 v2 v3 v7 v8 A c cells vc:=by
 have hlow:=h.low
 have hF:=h.fn
 have dA:=hF.hi_
 have hlo:=hF.lo_
 have hK:Keep (fun k=>k≠b) W (W.setCell ⟨b,9,none⟩ (.int .i64 q)):=(Keep.refl _ W).setCell (p:=⟨b,9,none⟩) (fun e=>e rfl) _
 refine⟨h.blk.set 9 _,h.five.keep hK (fun k hk _ _=>by omega) col (fun _ _ _=>rfl) rfl rfl rfl rfl rfl,⟨Me hF.own hK (fun g hg=>by have:=(hF.own.lt g hg).1;omega),hF.at_,fun k x hk=> ?_,hF.t,hF.loc,hF.code.keep hK (fun k hk _ _=>by omega) (fun _ _ e=>e),hlo,Nat.le_trans dA hK.size,fun k hk hk2=>hF.new k hk (by simpa using hk2)⟩,h.fns,hlow,Nat.le_trans h.top hK.size,h.first,h.most⟩
 obtain⟨l,hh,g1,g2,g3,g4,g5⟩:=hF.els k x hk
 exact⟨l,hh,g1,g2,g3,g4,Rd.Iz (K:=fun k=>k≠b) g5 hK (by omega) (fun k ha hb'=>by omega)⟩
theorem TH.line {r:Nb} (h:TH B b W r ln) (q:Nat):TH B b (W.setCell ⟨b,9,none⟩ (.int .i64 q)) r q:=by
 rcases h with⟨h0,col,v1,v2,v3,v6,v7,v8,h⟩ | ⟨h0,fs,f,lo,col,v1,v2,v3,v7,v8,A,c,cells,vc,h⟩
 ·exact .inl ⟨h0,col,v1,v2,v3,v6,v7,v8,h.line q⟩
 ·exact .inr ⟨h0,fs,f,lo,col,v1,v2,v3,v7,v8,A,c,cells,vc,h.line q⟩
end
theorem QM (W:World) (B:Nat):IZ.R W B W.heap.size TM Dn:=
 DF.2 ⟨_,_,_,_,_,_,rfl,(PD.nil Mr 51 B (fun _=>True) W).reads,(PD.nil Rd.i64 3 B (fun _=>True) W).reads,(PD.nil JG 82 B (fun _=>True) W).reads,⟨by decide,by decide⟩,⟨by decide,by decide⟩,(PD.nil Tf 56 B (fun _=>True) W).reads,(PD.nil Kz 59 B (fun _=>True) W).reads,(PD.nil M_ 61 B (fun _=>True) W).reads⟩
def rdZ:List Value:= [.slice none 0 0,.slice none 0 0,.slice none 0 0,.int .i64 0,.int .i64 0,.slice none 0 0,.slice none 0 0,.slice none 0 0,.int .i64 0,.int .i64 0]
theorem vB {B b:Nat} {W:World} (h:AV W b 104 rdZ) (hb:b<B) (hB:B≤W.heap.size):TH B b W yD 0:=
 .inl ⟨by decide,fun _=>9,_,_,_,_,_,_,h,⟨PD.nil _ _ _ _ _,PD.nil _ _ _ _ _,PD.nil _ _ _ _ _,PD.nil _ _ _ _ _,PD.nil _ _ _ _ _,PD.nil _ _ _ _ _⟩,hb,hB,⟨by decide,by decide⟩,⟨by decide,by decide⟩⟩
def Uw (w:World) (s:ByteArray) (e:Ending) (w':World):Prop:=
 Below w.heap.size w w'∧ ∃cs,cs.length=8∧e= .returned (.tuple #[.agg cs.toArray,.int .i64 (JC s).2.1,.int .i64 (JC s).2.2])∧IZ.R w' w.heap.size w'.heap.size cs (JC s).1
structure dw (w W:World) (h0:Nat) (s:ByteArray):Prop where
 Gg:Below w.heap.size w W
 hz:h0=w.heap.size
 top:h0+1+1+1+1+1+1<W.heap.size
 gm:AV W h0 29 TM
 ge:AV W (h0+1) 33 [.int .i64 0]
 ga:AV W (h0+1+1) 3 [.int .i64 0]
 gr:AV W (h0+1+1+1+1) 102 [.pointer (some ⟨h0+1+1+1,0,none⟩)]
 map:W.heap[h0+1+1+1+1+1]?=some (.map JD 8)
 spl:AV W (h0+1+1+1+1+1+1) 9 ((Em s).map Value.string)
theorem dw.at_ {w W:World} {h0:Nat} {s:ByteArray} (h:dw w W h0 s) (j:Nat) (x:ByteArray) (hx:(Em s)[j]?=some x):W.cell? ⟨h0+1+1+1+1+1+1,j,none⟩=some (.string x):=by
 have:=h.spl.cell j
 rw [List.getElem?_map,hx] at this
 exact this
theorem dw.keep {w W W':World} {h0:Nat} {s:ByteArray} (h:dw w W h0 s) (hK:Keep (fun k=>k<h0+7∧k≠h0+1+1+1) W W'):dw w W' h0 s:=by
 have hz:=h.hz
 have ht:=h.top
 refine⟨h.Gg.trans (hK.below h.Gg.size fun k hk=>by omega),hz,Nat.lt_of_lt_of_le ht hK.size,h.gm.keep hK (by omega),h.ge.keep hK (by omega),h.ga.keep hK (by omega),h.gr.keep hK (by omega),?_,h.spl.keep hK (by omega)⟩
 exact(hK.block _ (by omega) (by omega)).trans h.map
theorem zX (w:World) (o:Obj) {n:Nat} (hn:w.heap.size=n):(w.alloc o).heap[n]?=some o:=by
 subst hn
 exact Array.getElem?_push_size
theorem oJ {w:World} {n:Nat} {o:Obj} (h:w.heap[n]?=some o) (o':Obj):(w.alloc o').heap[n]?=some o:=
 (((Below.refl w.heap.size w).alloc (Nat.le_refl _) o').block n (Array.getElem?_eq_some_iff.1 h).1).trans h
theorem OL (w:World) (t:TypeId) (xs:List Value) {n:Nat} (hn:w.heap.size=n):AV (w.alloc (.cells xs.toArray t)) n t xs:=hn▸AV.new w t xs
theorem zY (w:World) (s:ByteArray) (t9:TypeId) (ht9:t9=9):dw w (((((((w.alloc (.cells TM.toArray 29)).alloc (.cells #[.int .i64 0] 33)).alloc (.cells #[.int .i64 0] 3)).alloc (.cells rdZ.toArray 104)).alloc (.cells #[.pointer (some ⟨w.heap.size+1+1+1,0,none⟩)] 102)).alloc (.map JD 8)).alloc (.cells ((Em s).map Value.string).toArray t9)) w.heap.size s∧
 AV (((((((w.alloc (.cells TM.toArray 29)).alloc (.cells #[.int .i64 0] 33)).alloc (.cells #[.int .i64 0] 3)).alloc (.cells rdZ.toArray 104)).alloc (.cells #[.pointer (some ⟨w.heap.size+1+1+1,0,none⟩)] 102)).alloc (.map JD 8)).alloc (.cells ((Em s).map Value.string).toArray t9)) (w.heap.size+1+1+1) 104 rdZ:=by
 subst ht9
 refine⟨⟨?_,rfl,by simp only [World.size_alloc];omega,(((((((OL w _ TM rfl).alloc _).alloc _).alloc _).alloc _).alloc _).alloc _),((((((OL _ _ [.int .i64 0] (by simp only [World.size_alloc])).alloc _).alloc _).alloc _).alloc _).alloc _),(((((OL _ _ [.int .i64 0] (by simp only [World.size_alloc])).alloc _).alloc _).alloc _).alloc _),(((OL _ _ [.pointer (some ⟨w.heap.size+1+1+1,0,none⟩)] (by simp only [World.size_alloc])).alloc _).alloc _),?_,OL _ _ ((Em s).map Value.string) (by simp only [World.size_alloc])⟩,((((OL _ _ rdZ (by simp only [World.size_alloc])).alloc _).alloc _).alloc _)⟩
 ·exact(((((((Below.refl _ _).alloc (Nat.le_refl _) _).alloc (by simp only [World.size_alloc];omega) _).alloc (by simp only [World.size_alloc];omega) _).alloc (by simp only [World.size_alloc];omega) _).alloc (by simp only [World.size_alloc];omega) _).alloc (by simp only [World.size_alloc];omega) _).alloc (by simp only [World.size_alloc];omega) _
 ·exact oJ (zX _ _ (by simp only [World.size_alloc])) _
structure ABD (w wr:World) (h0:Nat) (s:ByteArray) (k:Nat) (r:Nb):Prop where
 mem:dw w wr h0 s
 rd:TH (h0+7) (h0+1+1+1) wr r k
 up:Xc (Em s) k r
theorem TT {W:World} {tmps:Array Value} {g h k:Nat} {e a:Int} {c0 c1 c2 c3 c4 c5 c6 c7:Value} {Q:Ending→World→Prop} (hm:AV W g 29 [c0,c1,c2,c3,c4,c5,c6,c7]) (he:AV W h 33 [.int .i64 e]) (ha:AV W k 3 [.int .i64 a])
 (h2:tmps.getD 2 undef= .pointer (some ⟨g,0,none⟩)) (h3:tmps.getD 3 undef= .pointer (some ⟨h,0,none⟩)) (h4:tmps.getD 4 undef= .pointer (some ⟨k,0,none⟩)) (hq:Q (.returned (.tuple #[.agg #[c0,c1,c2,c3,c4,c5,c6,c7],.int .i64 e,.int .i64 a])) W):
 Leaves prog f14 tmps Q [] .returning W:=by
 rw [Array.getD_eq_getD_getElem?] at h2 h3 h4
 have m0:=hm.q 0 rfl
 have m1:=hm.q 1 rfl
 have m2:=hm.q 2 rfl
 have m3:=hm.q 3 rfl
 have m4:=hm.q 4 rfl
 have m5:=hm.q 5 rfl
 have m6:=hm.q 6 rfl
 have m7:=hm.q 7 rfl
 have k1:=he.q 0 rfl
 have k2:=ha.q 0 rfl
 refine⟨_,?_,hq⟩
 simp [results,results14,go_sem,h2,h3,h4,m0,m1,m2,m3,m4,m5,m6,m7,k1,k2]
theorem zZ {s:ByteArray} (hs:1048576<s.size) (w:World):Calls prog 14 #[.string s] w (Uw w s):=by
 have hd:decide ((1048576:Int)<s.size)=true:=decide_eq_true (by omega)
 have HP:Hid (JC s=(Dn,13,0)):=AA (by unfold JC;rw [if_pos hs])
 clear hs
 go_enter_defers func14,ntmps14
 go_wp2_with fail
 generalize hw1:World.alloc _ _=w1
 have hb:Below w.heap.size w w1:=by rw [←hw1];exact(((Below.refl _ _).alloc (Nat.le_refl _) _).alloc (by simp) _).alloc (by simp;omega) _
 have hm:AV w1 w.heap.size 29 TM:=by rw [←hw1];exact((AV.new w 29 TM).alloc _).alloc _
 have he:AV w1 (w.heap.size+1) 33 [.int .i64 13]:=by
  have:=(AV.new (w.alloc (.cells TM.toArray 29)) 33 [.int .i64 13]).alloc (.cells #[.int .i64 0] 3)
  rw [World.size_alloc] at this
  rw [←hw1];exact this
 have ha:AV w1 (w.heap.size+1+1) 3 [.int .i64 0]:=by
  have:=AV.new ((w.alloc (.cells TM.toArray 29)).alloc (.cells #[.int .i64 13] 33)) 3 [.int .i64 0]
  simp only [World.size_alloc] at this
  rw [←hw1];exact this
 clear hw1
 refine TT hm he ha rfl rfl rfl ?_
 refine⟨hb,TM,rfl,?_,?_⟩
 ·rw [HP.out];rfl
 ·rw [HP.out];exact IZ.more (Nat.le_refl _) (Nat.le_refl _) (QM w1 w.heap.size)
theorem za {s:ByteArray} (hs:s.size≤1048576) {hi:Nat} (w:World) (hE:Dt hi w) (hhi:hi≤w.heap.size):Calls prog 14 #[.string s] w (Uw w s):=by
 have hd:decide ((1048576:Int)<s.size)=false:=decide_eq_false (by omega)
 have HS:=AA hs;have HE:=AA hE
 have hmf: ∀(fn:Fn) (first cap:Array Value) (w:World),(Instr.makeFunc fn first cap).run prog w= .ok (.func fn first cap) w:=fun _ _ _ _=>rfl
 clear hs hE
 go_enter_defers func14,ntmps14
 go_wp2_with fail
 refine(nD _).mono ?_
 rintro e w2 ⟨rfl,rfl⟩
 go_wp2_with fail
 generalize hw2:World.alloc _ _=w2
 have hb2:Below w.heap.size w w2:=by
  rw [←hw2]
  exact((((((Below.refl _ _).alloc (Nat.le_refl _) _).alloc (by simp only [World.size_alloc];omega) _).alloc (by simp only [World.size_alloc];omega) _).alloc (by simp only [World.size_alloc];omega) _).alloc (by simp only [World.size_alloc];omega) _).alloc (by simp only [World.size_alloc];omega) _
 obtain⟨mx,hmx⟩:=HE.out.mx w2 (hb2.mono hhi)
 refine(strings_Split s _ mx w2 (by have:=HS.out;omega) hmx (by decide)).mono ?_
 rintro e w3 ⟨rfl,hw3⟩
 have hM:dw w w3 w.heap.size s∧AV w3 (w.heap.size+1+1+1) 104 rdZ:=by
  rw [hw3,←hw2]
  exact zY w s _ rfl
 have h2s:w2.heap.size=w.heap.size+1+1+1+1+1+1:=by rw [←hw2];simp only [World.size_alloc]
 have hn:(Em s).length=Lib.countB s lT+1:=Lib.splitB_all lT (by decide) 0 _ s rfl
 rw [h2s]
 obtain⟨n,hn2⟩: ∃n,n=Lib.countB s lT+1:=⟨_,rfl⟩
 have HN:Hid ((Em s).length=n):=AA (by rw [hn,hn2])
 have hn3:Lib.countB s {data:= #[10]}+1=n:=hn2.symm
 rw [hn3]
 have HL0:Hid (ABD w w3 w.heap.size s 0 yD):=AA ⟨hM.1,vB hM.2 (by omega) (by have:=hM.1.top;omega),Xc.start _⟩
 clear hw3 hw2 hb2 hmx hM h2s hn hn2 hn3
 go_wp2_with fail
 go_loopw [8,21] (fun v8 i wr=> ∃(k:Nat) (r:Nb),k≤n∧i= .int .i64 k∧ABD w wr w.heap.size s k r) (fun _ i _=>n-(intOf i).toNat)
 case atStart=>exact⟨0,yD,Nat.zero_le _,rfl,HL0.out⟩
 case round=>
  obtain⟨k,r,hk,rfl,hl⟩:=hrel
  have HL:=AA hl
  have hk0:(0:Int)≤k:=by omega
  have qb:=hl.mem.gr.q 0 rfl
  obtain⟨c0,c1,c2,c5,c6,c7,hblk⟩:=hl.rd.blk
  have YU:=AA hblk
  have hbl:=hblk.lt
  clear hl
  by_cases hlt:k<n
  ·obtain⟨x,hx⟩: ∃x,(Em s)[k]?=some x:=⟨_,List.getElem?_eq_getElem (by rw [HN.out];exact hlt)⟩
   have Lr:decide ((k:Int)<n)=true:=decide_eq_true (by omega)
   have qa:wr.cell? ⟨w.heap.size+1+1+1+1+1+1,k,none⟩=some (.string x):=HL.out.mem.at_ k x hx
   have qc:=hblk.q 9 rfl
   have qf:=hblk.frozen 9
   have HX:=AA hx
   clear hblk hx
   go_wp2_with fail
   have hnb:n≤1048577:=by rw [←HN.out];have:=R8 s HS.out;have:=Qu (Em s);omega
   have hwr:wrap64 ((k:Int)+1)=((k+1:Nat):Int):=by unfold wrap64;omega
   rw [hwr]
   have hK1:Keep (fun j=>j<w.heap.size+7∧j≠w.heap.size+1+1+1) wr (wr.setCell ⟨w.heap.size+1+1+1,9,none⟩ (.int .i64 ((k+1:Nat):Int))):=(Keep.refl _ _).setCell (p:=⟨w.heap.size+1+1+1,9,none⟩) (fun e=>e.2 rfl) _
   have Y2:=AA (HL.out.mem.keep hK1)
   have hxs:x.size+1≤Io (Em s):=PY (List.mem_of_getElem? HX.out)
   have hsum:=R8 s HS.out
   have hread:=zA (B:=w.heap.size+7) (b:=w.heap.size+1+1+1) (hi:=hi) (M:=w.heap.size+1+1+1+1+1) (s:=x) ⟨HL.out.rd.line (k+1),Y2.out.map,(Array.getElem?_eq_some_iff.1 Y2.out.map).1,HE.out.to (Y2.out.Gg.mono hhi),by omega,HL.out.up.lens.mono (by omega),by omega⟩
   generalize hwl:wr.setCell ⟨w.heap.size+1+1+1,9,none⟩ (.int .i64 ((k+1:Nat):Int))=wl at*
   have AEc:Hid ((if JQ (EP x)=true then some r else Ai r (EP x))=TN r x):=AA rfl
   rw [AEc.out] at hread
   refine hread.mono ?_
   clear hread hwr hwl hK1 hxs hsum YU hbl qb
   rintro e w5 ⟨hk5,⟨hno,rfl,hln⟩ | ⟨r',hyes,rfl,hin⟩⟩
   ·have Ya:=AA (Y2.out.keep (hk5.ER fun j _ h=>by omega))
    have HP:=AA (nV HS.out HL.out.up HX.out hno)
    clear hk5 hno
    go_wp2_with fail
    refine leaves_cons (f:=56) (args:= #[.pointer (some ⟨w.heap.size+1+1+1+1,0,none⟩),.pointer (some ⟨w.heap.size,0,none⟩),.pointer (some ⟨w.heap.size+1,0,none⟩),.pointer (some ⟨w.heap.size+1+1,0,none⟩)]) (by simp) (by simp [go_sem]) ?_
    refine(Y6 (w.heap.size+1+1+1+1) w.heap.size (w.heap.size+1) (w.heap.size+1+1) (w.heap.size+1+1+1) 0 0 ((k+1:Nat):Int) _ _ _ _ _ _ _ _ w5 Ya.out.gr Ya.out.gm Ya.out.ge Ya.out.ga (by omega) (by omega) (by omega) hln (by omega) (by omega) (by omega) (by have:=Ya.out.top;omega) (by omega)).mono ?_
    rintro e u' wx ⟨rfl,rfl,hkx,hbm,hbe,hba⟩
    refine TT hbm hbe hba rfl rfl rfl ⟨Ya.out.Gg.trans (hkx.below Ya.out.Gg.size fun j hj=>by omega),TM,rfl,?_,?_⟩
    ·rw [HP.out];rfl
    ·rw [HP.out];exact QM wx _
   ·have Ya:=AA (Y2.out.keep (hk5.ER fun j _ h=>by omega))
    have HU:=AA (HL.out.up.next HX.out hyes)
    have OJ:=AA hin
    clear hk5 hyes hin
    go_wp2_with fail
    exact⟨⟨k+1,r',by omega,by go_num,⟨Ya.out,OJ.out,HU.out⟩⟩,by simp [intOf];omega⟩
  ·obtain rfl:k=n:=by omega
   have Lr:decide ((k:Int)<k)=false:=decide_eq_false (by omega)
   have q8:=hblk.q 8 rfl
   have HP:=AA (nW HS.out HN.out HL.out.up)
   by_cases h5:r.st<5
   ·have hge:decide ((r.st:Int)≥5)=false:=decide_eq_false (by omega)
    have hge':decide ((5:Int)≤r.st)=false:=decide_eq_false (by omega)
    have HP2:Hid (JC s=(Dn,22,k)):=AA (by rw [HP.out,if_pos h5])
    have qc:=hblk.q 9 rfl
    clear hblk h5
    go_wp2_with fail
    refine(AZ _).mono ?_
    rintro e w5 ⟨rfl,rfl⟩
    go_wp2_with fail
    refine leaves_cons (f:=56) (args:= #[.pointer (some ⟨w.heap.size+1+1+1+1,0,none⟩),.pointer (some ⟨w.heap.size,0,none⟩),.pointer (some ⟨w.heap.size+1,0,none⟩),.pointer (some ⟨w.heap.size+1+1,0,none⟩)]) (by simp) (by simp [go_sem]) ?_
    refine(Y6 (w.heap.size+1+1+1+1) w.heap.size (w.heap.size+1) (w.heap.size+1+1) (w.heap.size+1+1+1) 0 0 (k:Int) _ _ _ _ _ _ _ _ wr HL.out.mem.gr HL.out.mem.gm HL.out.mem.ge HL.out.mem.ga (by omega) (by omega) (by omega) qc (by omega) (by omega) (by omega) hbl (by omega)).mono ?_
    rintro e u' wx ⟨rfl,rfl,hkx,hbm,hbe,hba⟩
    refine TT hbm hbe hba rfl rfl rfl ⟨HL.out.mem.Gg.trans (hkx.below HL.out.mem.Gg.size fun j hj=>by omega),TM,rfl,?_,?_⟩
    ·rw [HP2.out];rfl
    ·rw [HP2.out];exact QM wx _
   ·have hge:decide ((r.st:Int)≥5)=true:=decide_eq_true (by omega)
    have hge':decide ((5:Int)≤r.st)=true:=decide_eq_true (by omega)
    have H5:=AA h5
    clear h5
    go_wp2_with fail
    refine(AP _).mono ?_
    rintro e w5 ⟨rfl,rfl⟩
    obtain⟨col,v1,v2,v3,v6,v7,v8,hrc⟩:=HL.out.rd.close
    obtain⟨A1,e1,_,rfl,_⟩:=hrc.six.p1
    obtain⟨A2,e2,_,rfl,_⟩:=hrc.six.p2
    obtain⟨A3,e3,_,rfl,_⟩:=hrc.six.p3
    obtain⟨A6,e6,_,rfl,_⟩:=hrc.six.p6
    obtain⟨A7,e7,_,rfl,_⟩:=hrc.six.p7
    obtain⟨A8,e8,_,rfl,_⟩:=hrc.six.p8
    have HR:=AA hrc.reads
    have HB:=AA hrc.blk
    have q0:=hrc.blk.q 0 rfl
    have q1:=hrc.blk.q 1 rfl
    have q2:=hrc.blk.q 2 rfl
    have q3:=hrc.blk.q 3 rfl
    have q4:=hrc.blk.q 4 rfl
    have q5:=hrc.blk.q 5 rfl
    have q6:=hrc.blk.q 6 rfl
    have q7:=hrc.blk.q 7 rfl
    clear hrc hblk q8
    go_wp2_with fail
    have K4:=ZE [(.slice A1 r.m.types.length e1),(.slice A2 r.m.hosts.length e2),(.slice A3 r.m.globs.length e3),.int .i64 r.m.first,.int .i64 r.m.most,(.slice A6 r.m.fns.length e6),(.slice A7 r.m.dat.length e7),(.slice A8 r.m.AO.length e8)] wr.heap.size r.m wr (IZ.more (Nat.zero_le _) (Nat.le_refl _) HR.out) (Nat.le_refl _) (HL.out.up.small HS.out) (Uv HR.out) (fun w' hb=>HE.out.asc w' ((HL.out.mem.Gg.mono hhi).trans (hb.mono (Nat.le_trans hhi HL.out.mem.Gg.size))))
    refine K4.mono ?_
    clear K4
    rintro e w6 ⟨hb6,rfl⟩
    have QN:=AA (HL.out.mem.keep ((Keep.Am hb6).ER fun j hj _=>hj))
    have MU:=AA hb6
    have AEd:=hb6.size
    have m0:=QN.out.gm.q 0 rfl
    have m1:=QN.out.gm.q 1 rfl
    have m2:=QN.out.gm.q 2 rfl
    have m3:=QN.out.gm.q 3 rfl
    have m4:=QN.out.gm.q 4 rfl
    have m5:=QN.out.gm.q 5 rfl
    have m6:=QN.out.gm.q 6 rfl
    have m7:=QN.out.gm.q 7 rfl
    have n0:=QN.out.gm.frozen 0
    have n1:=QN.out.gm.frozen 1
    have n2:=QN.out.gm.frozen 2
    have n3:=QN.out.gm.frozen 3
    have n4:=QN.out.gm.frozen 4
    have n5:=QN.out.gm.frozen 5
    have n6:=QN.out.gm.frozen 6
    have n7:=QN.out.gm.frozen 7
    have k1:=QN.out.ge.q 0 rfl
    have k2:=QN.out.ga.q 0 rfl
    have f1:=QN.out.ge.frozen 0
    have f2:=QN.out.ga.frozen 0
    have g6:=QN.out.gr.q 0 rfl
    have HB2:=AA (HB.out.below MU.out hbl)
    clear hb6 q0 q1 q2 q3 q4 q5 q6 q7 qb HB
    by_cases hz:FM r.m=0
    ·have hz0:(FM r.m !=0)=false:=by rw [hz];rfl
     have HZ:Hid (JC s=(r.m,0,0)):=AA (by rw [HP.out,if_neg H5.out,if_pos hz])
     have q0:=HB2.out.q 0 rfl
     have q1:=HB2.out.q 1 rfl
     have q2:=HB2.out.q 2 rfl
     have q3:=HB2.out.q 3 rfl
     have q4:=HB2.out.q 4 rfl
     have q5:=HB2.out.q 5 rfl
     have q6:=HB2.out.q 6 rfl
     have q7:=HB2.out.q 7 rfl
     clear hz
     go_wp2_with fail
     generalize hw7:World.setCell _ _ _=w7
     have hK7:Keep (fun j=>j≠w.heap.size∧j≠w.heap.size+1∧j≠w.heap.size+1+1) w6 w7:=by rw [←hw7];exact(((((((((((Keep.refl _ _).setCell (p:=⟨w.heap.size,0,none⟩) (fun e=>e.1 rfl) _).setCell (p:=⟨w.heap.size,1,none⟩) (fun e=>e.1 rfl) _).setCell (p:=⟨w.heap.size,2,none⟩) (fun e=>e.1 rfl) _).setCell (p:=⟨w.heap.size,3,none⟩) (fun e=>e.1 rfl) _).setCell (p:=⟨w.heap.size,4,none⟩) (fun e=>e.1 rfl) _).setCell (p:=⟨w.heap.size,5,none⟩) (fun e=>e.1 rfl) _).setCell (p:=⟨w.heap.size,6,none⟩) (fun e=>e.1 rfl) _).setCell (p:=⟨w.heap.size,7,none⟩) (fun e=>e.1 rfl) _).setCell (p:=⟨w.heap.size+1,0,none⟩) (fun e=>e.2.1 rfl) _).setCell (p:=⟨w.heap.size+1+1,0,none⟩) (fun e=>e.2.2 rfl) _)
     have hM7:AV w7 w.heap.size 29 [(.slice A1 r.m.types.length e1),(.slice A2 r.m.hosts.length e2),(.slice A3 r.m.globs.length e3),.int .i64 r.m.first,.int .i64 r.m.most,(.slice A6 r.m.fns.length e6),(.slice A7 r.m.dat.length e7),(.slice A8 r.m.AO.length e8)]:=by rw [←hw7];exact((((((((((QN.out.gm.set 0 (.slice A1 r.m.types.length e1)).set 1 (.slice A2 r.m.hosts.length e2)).set 2 (.slice A3 r.m.globs.length e3)).set 3 (.int .i64 r.m.first)).set 4 (.int .i64 r.m.most)).set 5 (.slice A6 r.m.fns.length e6)).set 6 (.slice A7 r.m.dat.length e7)).set 7 (.slice A8 r.m.AO.length e8)).far (p:=⟨w.heap.size+1,0,none⟩) (show w.heap.size≠w.heap.size+1 from by omega) _).far (p:=⟨w.heap.size+1+1,0,none⟩) (show w.heap.size≠w.heap.size+1+1 from by omega) _)
     have hE7:AV w7 (w.heap.size+1) 33 [(.int .i64 0)]:=by rw [←hw7];exact((((((((((QN.out.ge.far (p:=⟨w.heap.size,0,none⟩) (show w.heap.size+1≠w.heap.size from by omega) _).far (p:=⟨w.heap.size,1,none⟩) (show w.heap.size+1≠w.heap.size from by omega) _).far (p:=⟨w.heap.size,2,none⟩) (show w.heap.size+1≠w.heap.size from by omega) _).far (p:=⟨w.heap.size,3,none⟩) (show w.heap.size+1≠w.heap.size from by omega) _).far (p:=⟨w.heap.size,4,none⟩) (show w.heap.size+1≠w.heap.size from by omega) _).far (p:=⟨w.heap.size,5,none⟩) (show w.heap.size+1≠w.heap.size from by omega) _).far (p:=⟨w.heap.size,6,none⟩) (show w.heap.size+1≠w.heap.size from by omega) _).far (p:=⟨w.heap.size,7,none⟩) (show w.heap.size+1≠w.heap.size from by omega) _).set 0 (.int .i64 0)).far (p:=⟨w.heap.size+1+1,0,none⟩) (show w.heap.size+1≠w.heap.size+1+1 from by omega) _)
     have hA7:AV w7 (w.heap.size+1+1) 3 [.int .i64 0]:=by rw [←hw7];exact((((((((((QN.out.ga.far (p:=⟨w.heap.size,0,none⟩) (show w.heap.size+1+1≠w.heap.size from by omega) _).far (p:=⟨w.heap.size,1,none⟩) (show w.heap.size+1+1≠w.heap.size from by omega) _).far (p:=⟨w.heap.size,2,none⟩) (show w.heap.size+1+1≠w.heap.size from by omega) _).far (p:=⟨w.heap.size,3,none⟩) (show w.heap.size+1+1≠w.heap.size from by omega) _).far (p:=⟨w.heap.size,4,none⟩) (show w.heap.size+1+1≠w.heap.size from by omega) _).far (p:=⟨w.heap.size,5,none⟩) (show w.heap.size+1+1≠w.heap.size from by omega) _).far (p:=⟨w.heap.size,6,none⟩) (show w.heap.size+1+1≠w.heap.size from by omega) _).far (p:=⟨w.heap.size,7,none⟩) (show w.heap.size+1+1≠w.heap.size from by omega) _).far (p:=⟨w.heap.size+1,0,none⟩) (show w.heap.size+1+1≠w.heap.size+1 from by omega) _).set 0 (.int .i64 0))
     clear hw7
     refine leaves_cons (f:=56) (args:= #[.pointer (some ⟨w.heap.size+1+1+1+1,0,none⟩),.pointer (some ⟨w.heap.size,0,none⟩),.pointer (some ⟨w.heap.size+1,0,none⟩),.pointer (some ⟨w.heap.size+1+1,0,none⟩)]) (by simp) (by simp [go_sem]) ?_
     refine(dO _ _ _ _ _).mono ?_
     rintro e u' wx ⟨rfl,rfl,rfl⟩
     refine TT hM7 hE7 hA7 rfl rfl rfl ⟨QN.out.Gg.trans (hK7.below QN.out.Gg.size fun j hj=>by omega),[(.slice A1 r.m.types.length e1),(.slice A2 r.m.hosts.length e2),(.slice A3 r.m.globs.length e3),.int .i64 r.m.first,.int .i64 r.m.most,(.slice A6 r.m.fns.length e6),(.slice A7 r.m.dat.length e7),(.slice A8 r.m.AO.length e8)],rfl,?_,?_⟩
     ·rw [HZ.out];rfl
     ·rw [HZ.out];exact IZ.more (by omega) (Nat.le_trans AEd hK7.size) (Rd.Iz (IZ.below HR.out MU.out (Nat.le_refl _)) hK7 AEd fun j ha hb=>by omega)
    ·have hz0:(FM r.m !=0)=true:=bne_iff_ne.2 hz
     have HZ:Hid (JC s=(Dn,FM r.m,0)):=AA (by rw [HP.out,if_neg H5.out,if_neg hz])
     clear hz
     go_wp2_with fail
     generalize hw7:World.setCell _ _ _=w7
     have hK7:Keep (fun j=>j≠w.heap.size∧j≠w.heap.size+1∧j≠w.heap.size+1+1) w6 w7:=by rw [←hw7];exact(((((((((((Keep.refl _ _).setCell (p:=⟨w.heap.size,0,none⟩) (fun e=>e.1 rfl) _).setCell (p:=⟨w.heap.size,1,none⟩) (fun e=>e.1 rfl) _).setCell (p:=⟨w.heap.size,2,none⟩) (fun e=>e.1 rfl) _).setCell (p:=⟨w.heap.size,3,none⟩) (fun e=>e.1 rfl) _).setCell (p:=⟨w.heap.size,4,none⟩) (fun e=>e.1 rfl) _).setCell (p:=⟨w.heap.size,5,none⟩) (fun e=>e.1 rfl) _).setCell (p:=⟨w.heap.size,6,none⟩) (fun e=>e.1 rfl) _).setCell (p:=⟨w.heap.size,7,none⟩) (fun e=>e.1 rfl) _).setCell (p:=⟨w.heap.size+1,0,none⟩) (fun e=>e.2.1 rfl) _).setCell (p:=⟨w.heap.size+1+1,0,none⟩) (fun e=>e.2.2 rfl) _)
     have hM7:AV w7 w.heap.size 29 [.slice none 0 0,.slice none 0 0,.slice none 0 0,.int .i64 0,.int .i64 0,.slice none 0 0,.slice none 0 0,.slice none 0 0]:=by rw [←hw7];exact((((((((((QN.out.gm.set 0 (.slice none 0 0)).set 1 (.slice none 0 0)).set 2 (.slice none 0 0)).set 3 (.int .i64 0)).set 4 (.int .i64 0)).set 5 (.slice none 0 0)).set 6 (.slice none 0 0)).set 7 (.slice none 0 0)).far (p:=⟨w.heap.size+1,0,none⟩) (show w.heap.size≠w.heap.size+1 from by omega) _).far (p:=⟨w.heap.size+1+1,0,none⟩) (show w.heap.size≠w.heap.size+1+1 from by omega) _)
     have hE7:AV w7 (w.heap.size+1) 33 [(.int .i64 (FM r.m))]:=by rw [←hw7];exact((((((((((QN.out.ge.far (p:=⟨w.heap.size,0,none⟩) (show w.heap.size+1≠w.heap.size from by omega) _).far (p:=⟨w.heap.size,1,none⟩) (show w.heap.size+1≠w.heap.size from by omega) _).far (p:=⟨w.heap.size,2,none⟩) (show w.heap.size+1≠w.heap.size from by omega) _).far (p:=⟨w.heap.size,3,none⟩) (show w.heap.size+1≠w.heap.size from by omega) _).far (p:=⟨w.heap.size,4,none⟩) (show w.heap.size+1≠w.heap.size from by omega) _).far (p:=⟨w.heap.size,5,none⟩) (show w.heap.size+1≠w.heap.size from by omega) _).far (p:=⟨w.heap.size,6,none⟩) (show w.heap.size+1≠w.heap.size from by omega) _).far (p:=⟨w.heap.size,7,none⟩) (show w.heap.size+1≠w.heap.size from by omega) _).set 0 (.int .i64 (FM r.m))).far (p:=⟨w.heap.size+1+1,0,none⟩) (show w.heap.size+1≠w.heap.size+1+1 from by omega) _)
     have hA7:AV w7 (w.heap.size+1+1) 3 [.int .i64 0]:=by rw [←hw7];exact((((((((((QN.out.ga.far (p:=⟨w.heap.size,0,none⟩) (show w.heap.size+1+1≠w.heap.size from by omega) _).far (p:=⟨w.heap.size,1,none⟩) (show w.heap.size+1+1≠w.heap.size from by omega) _).far (p:=⟨w.heap.size,2,none⟩) (show w.heap.size+1+1≠w.heap.size from by omega) _).far (p:=⟨w.heap.size,3,none⟩) (show w.heap.size+1+1≠w.heap.size from by omega) _).far (p:=⟨w.heap.size,4,none⟩) (show w.heap.size+1+1≠w.heap.size from by omega) _).far (p:=⟨w.heap.size,5,none⟩) (show w.heap.size+1+1≠w.heap.size from by omega) _).far (p:=⟨w.heap.size,6,none⟩) (show w.heap.size+1+1≠w.heap.size from by omega) _).far (p:=⟨w.heap.size,7,none⟩) (show w.heap.size+1+1≠w.heap.size from by omega) _).far (p:=⟨w.heap.size+1,0,none⟩) (show w.heap.size+1+1≠w.heap.size+1 from by omega) _).set 0 (.int .i64 0))
     clear hw7
     refine leaves_cons (f:=56) (args:= #[.pointer (some ⟨w.heap.size+1+1+1+1,0,none⟩),.pointer (some ⟨w.heap.size,0,none⟩),.pointer (some ⟨w.heap.size+1,0,none⟩),.pointer (some ⟨w.heap.size+1+1,0,none⟩)]) (by simp) (by simp [go_sem]) ?_
     refine(dO _ _ _ _ _).mono ?_
     rintro e u' wx ⟨rfl,rfl,rfl⟩
     refine TT hM7 hE7 hA7 rfl rfl rfl ⟨QN.out.Gg.trans (hK7.below QN.out.Gg.size fun j hj=>by omega),TM,rfl,?_,?_⟩
     ·rw [HZ.out];rfl
     ·rw [HZ.out];exact QM _ _
theorem ZF (s:ByteArray) {hi:Nat} (w:World) (hE:Dt hi w) (hhi:hi≤w.heap.size):Calls prog 14 #[.string s] w (Uw w s):=by
 by_cases hs:1048576<s.size
 ·exact zZ hs w
 ·exact za (by omega) w hE hhi
def kM:AQ:=⟨[⟨⟨#[119]⟩,⟨#[]⟩⟩],[],[],1,2,[⟨0,⟨#[108]⟩,[⟨9,0,[0,1]⟩,⟨6,0,[]⟩]⟩],[],[]⟩
def kT:ByteArray:=⟨#[102,108,97,103,111,110,10,116,121,112,101,32,119,32,45,62,32,45,10,109,101,109,111,114,121,32,49,32,50,10,102,117,110,99,32,48,32,108,10,32,32,98,114,116,97,98,108,101,32,48,32,49,10,32,32,101,110,100,10]⟩
def kB:ByteArray:=⟨#[102,108,97,103,111,110,10,101,120,116,101,114,110]⟩
theorem ABs:LM kM:=⟨by decide,by decide,by decide,by decide,(by decide: ∀f∈kM.fns,f.t<9223372036854775808∧ ∀x∈f.code,(-9223372036854775808≤x.a∧x.a<9223372036854775808)∧ ∀n∈x.l,n<9223372036854775808),by decide,by decide⟩
theorem ABt:FM kM=0:=by decide+kernel
theorem ADu:BA (Il kM)=kT:=by decide+kernel
theorem sN:JC kT=(kM,0,0):=by rw [←ADu];exact bZ ABt ABs
theorem sO:JC kB=(Dn,22,2):=by kernel_rfl
end Go.Proofs.YtebgikflpgcnlaaGreatDoor
