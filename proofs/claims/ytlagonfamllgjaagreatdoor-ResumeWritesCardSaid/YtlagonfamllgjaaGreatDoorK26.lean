/- Part 26 of the proof: R10F R10G R10H -/
import Derived.Test.YtlagonfamllgjaaGreatDoorK25
namespace Go.Proofs.YtlagonfamllgjaaGreatDoor
set_option linter.unusedVariables false
set_option linter.unusedSimpArgs false
set_option maxRecDepth 100000
set_option maxHeartbeats 4000000
open Go.RowKit Tryz
theorem GA {op k:Nat} {t:Int} (ho:op=k) (hk:k<256) (ht:Ij k=t) (w:World):Calls prog 179 #[.int .u8 (op:Int)] w fun e w'=>Below w.heap.size w w'∧e= .returned (.int .i8 t):=by
 subst ho ht
 exact U8 op hk w
theorem dD (s:ByteArray) (a b:Nat) (i j:Int) (hi:i=a) (hj:j=b) (h1:a≤b) (h2:b≤s.size) (W:World):(Instr.slice 9 (.string s) (some (.int .i64 i)) (some (.int .i64 j)) none).run prog W= .ok (.string (s.extract a b)) W:=by
 subst hi hj
 have:=run_slice_string (P:=prog) W 9 s .i64 .i64 (a:Int) (b:Int) underlying9 (by omega) (by omega) (by omega)
 simpa using this
section
variable {h1 g:Nat} {y:Fy} {m:AP} {f:Bv} {c:Ai} {vF vS:Value} {fl:List Int} {sh:List ByteArray}
theorem QN (x:Ad) (v:Value) (w:World) (h:Dt w h1 g y m f c vF vS fl sh) (h18:x.op.toNat=18∨x.op.toNat=19∨x.op.toNat=20) (hn: -9223372036854775808≤x.a∧x.a<9223372036854775808) (hl:(CS m f).size≤1000000):
 Calls prog 148 #[.pointer (some ⟨g,0,none⟩),.agg #[.int .u8 (x.op.toNat:Int),.int .i64 x.a,v]] w fun e w'=>e= .returned (.tuple #[.string (BR m f x).1,.int .i64 (BR m f x).2])∧Below w.heap.size w w':=by
 have H:=AA h
 have HT:Hid (∀w,Calls prog 179 #[.int .u8 (x.op.toNat:Int)] w fun e w'=>Below w.heap.size w w'∧e= .returned (.int .i8 6)):=AA (fun w=>by
  rcases h18 with e | e | e
  ·exact GA e (by decide) (by kernel_rfl) w
  ·exact GA e (by decide) (by kernel_rfl) w
  ·exact GA e (by decide) (by kernel_rfl) w)
 have HL:Hid (BR m f x=if FE x.a (CS m f).size then((CS m f).extract x.a.toNat (x.a.toNat+1),0) else(Dm,30)):=AA (by unfold BR;rw [if_pos h18])
 have hlc:=h.loc
 have hg0:g<w.heap.size:=Nat.lt_of_lt_of_le h.gh h.hh
 clear h h18
 go_enter func148,ntmps148
 go_upto_region 1 with fail
 generalize hw1:w.alloc (.cells #[.int .u8 (x.op.toNat:Int),.int .i64 x.a,v] 122)=w1
 have HB1:Hid (Below w.heap.size w w1):=AA (by rw [←hw1];exact(Below.refl _ _).alloc (Nat.le_refl _) _)
 have CX:Hid (AQ w1 w.heap.size 122 [.int .u8 (x.op.toNat:Int),.int .i64 x.a,v]):=AA (by rw [←hw1];exact AQ.new w 122 _)
 have c0:=CX.out.q 0 rfl
 clear hw1
 go_wp2_with fail
 refine(HT.out w1).mono ?_
 rintro e w2 ⟨hb2,rfl⟩
 have HB2:Hid (Below w.heap.size w w2):=AA (HB1.out.trans (hb2.mono HB1.out.size))
 have CV:=AA (CX.out.below hb2 CX.out.lt)
 have HW2:=AA (H.out.below HB2.out)
 clear hb2 c0
 have c1:=CV.out.q 1 rfl
 have c10:w2.cell? ⟨g,10,none⟩=some (.string (CS m f)):=by rw [←hlc];exact HW2.out.blk.cell 10
 clear hlc
 by_cases hi:FE x.a (CS m f).size=true
 ·have HI: ∀w,Calls prog 180 #[.int .i64 x.a,.int .i64 ((CS m f).size:Int)] w fun e w'=>w=w'∧e= .returned (.bool true):=fun w=>by
   have:=EB x.a (CS m f).size w hn hl
   rw [hi] at this;exact this
  have HI:=AA HI
  obtain⟨k,hk,hkl⟩:=Ed hi
  have HL2:Hid (BR m f x=((CS m f).extract k (k+1),0)):=AA (by rw [HL.out,if_pos hi,hk];rfl)
  rw [hk] at c1 HI
  have hk0:(0:Int)≤k:=by omega
  have hk1:(k:Int)+1≤(CS m f).size:=by omega
  have hk2:(0:Int)≤(k:Int)+1:=by omega
  have hk3:((k:Int)+1).toNat=k+1:=by omega
  have hwr:IntKind.i64.wrap ((k:Int)+1)=(k:Int)+1:=IntWalk.i64_in _ (by omega)
  have hsl:=dD (CS m f) k (k+1) (k:Int) ((k:Int)+1) rfl (by omega) (by omega) (by omega)
  clear hi hk hn
  go_wp2_with fail
  go_quiet ((go_at_call 180;first | exact BA (HI.out _) | exact BF (HI.out _)))
  go_wp2_with fail
  go_quiet (fail)
  go_wp2_with fail
  go_ret2
  rw [HL2.out]
  exact⟨rfl,below_drewN (below_drewN HB2.out _) _⟩
 ·have HI: ∀w,Calls prog 180 #[.int .i64 x.a,.int .i64 ((CS m f).size:Int)] w fun e w'=>w=w'∧e= .returned (.bool false):=fun w=>by
   have:=EB x.a (CS m f).size w hn hl
   rw [Bool.eq_false_iff.2 hi] at this;exact this
  have HI:=AA HI
  have HL2:Hid (BR m f x=(Dm,30)):=AA (by rw [HL.out,if_neg hi])
  clear hi hn
  go_wp2_with fail
  go_quiet ((go_at_call 180;first | exact BA (HI.out _) | exact BF (HI.out _)))
  go_wp2_with fail
  go_ret2
  rw [HL2.out]
  exact⟨rfl,below_drewN HB2.out _⟩
theorem PI (x:Ad) (v:Value) (w:World) (h:Dt w h1 g y m f c vF vS fl sh) (h21:x.op.toNat=21∨x.op.toNat=22) (hn: -9223372036854775808≤x.a∧x.a<9223372036854775808):
 Calls prog 148 #[.pointer (some ⟨g,0,none⟩),.agg #[.int .u8 (x.op.toNat:Int),.int .i64 x.a,v]] w fun e w'=>e= .returned (.tuple #[.string (BR m f x).1,.int .i64 (BR m f x).2])∧Below w.heap.size w w':=by
 have H:=AA h
 have HT:Hid (∀w,Calls prog 179 #[.int .u8 (x.op.toNat:Int)] w fun e w'=>Below w.heap.size w w'∧e= .returned (.int .i8 7)):=AA (fun w=>by
  rcases h21 with e | e
  ·exact GA e (by decide) (by kernel_rfl) w
  ·exact GA e (by decide) (by kernel_rfl) w)
 have HL:Hid (BR m f x=match (if 0≤x.a then m.globs[x.a.toNat]? else none)with
  | none=>(Dm,30)
  | some g=>if x.op.toNat=22∧g.m=false then(Dm,39) else(⟨#[g.l]⟩,0)):=AA (by unfold BR;rw [if_neg (by omega)];rfl)
 have hg0:g<w.heap.size:=Nat.lt_of_lt_of_le h.gh h.hh
 have hng:m.globs.length≤64:=h.md.ok.ng
 obtain⟨v1,v2,v3,v4,v5,v6,e,_,_,h2,_⟩:=Am.1 h.md.rd
 injection e with e0 e;injection e with e1 e;injection e with e2 e
 obtain⟨A2,c2,rfl⟩:=AB h2
 have HG:=AA h2
 have hcg:w.cell? ⟨g,2,none⟩=some (.slice A2 m.globs.length c2):=(h.blk.cell 2).trans (by rw [←e2];rfl)
 clear h h2 e0 e1 e2 e
 go_enter func148,ntmps148
 go_upto_region 1 with fail
 generalize hw1:w.alloc (.cells #[.int .u8 (x.op.toNat:Int),.int .i64 x.a,v] 122)=w1
 have HB1:Hid (Below w.heap.size w w1):=AA (by rw [←hw1];exact(Below.refl _ _).alloc (Nat.le_refl _) _)
 have CX:Hid (AQ w1 w.heap.size 122 [.int .u8 (x.op.toNat:Int),.int .i64 x.a,v]):=AA (by rw [←hw1];exact AQ.new w 122 _)
 have c0:=CX.out.q 0 rfl
 clear hw1
 go_wp2_with fail
 refine(HT.out w1).mono ?_
 rintro e w2 ⟨hb2,rfl⟩
 have HB2:Hid (Below w.heap.size w w2):=AA (HB1.out.trans (hb2.mono HB1.out.size))
 have CV:=AA (CX.out.below hb2 CX.out.lt)
 clear hb2 c0
 have c0:=CV.out.q 0 rfl
 have c1:=CV.out.q 1 rfl
 have c2':w2.cell? ⟨g,2,none⟩=some (.slice A2 m.globs.length c2):=(HB2.out.cell hg0 (p:=⟨g,2,none⟩)).trans hcg
 clear hcg
 by_cases hi:FE x.a m.globs.length=true
 ·have HI: ∀w,Calls prog 180 #[.int .i64 x.a,.int .i64 (m.globs.length:Int)] w fun e w'=>w=w'∧e= .returned (.bool true):=fun w=>by
   have:=EB x.a m.globs.length w hn (by omega)
   rw [hi] at this;exact this
  have HI:=AA HI
  obtain⟨k,hk,hkl⟩:=Ed hi
  obtain⟨gl,hgl⟩: ∃gl,m.globs[k]?=some gl:=⟨_,List.getElem?_eq_getElem hkl⟩
  obtain⟨bg,og,eA,_,hbg,hg0',hg1,hg2,_⟩:=Eh HG.out hgl
  subst eA
  have HL2:Hid (BR m f x=if x.op.toNat=22∧gl.m=false then(Dm,39) else(⟨#[gl.l]⟩,0)):=AA (by rw [HL.out,hk,if_pos (by omega)];simp only [Int.toNat_natCast,hgl])
  have HK:=AA hk
  rw [hk] at c1 HI
  have hk0:(0:Int)≤k:=by omega
  have hk1:(k:Int)<m.globs.length:=by omega
  have g0:w2.cell? ⟨bg,og+k*3,none⟩=some (.int .u8 (gl.l.toNat:Int)):=(HB2.out.cell (by simp;omega) (p:=⟨bg,og+k*3,none⟩)).trans hg0'
  have g1:w2.cell? ⟨bg,og+k*3+1,none⟩=some (.bool gl.m):=(HB2.out.cell (by simp;omega) (p:=⟨bg,og+k*3+1,none⟩)).trans hg1
  have g2:w2.cell? ⟨bg,og+k*3+2,none⟩=some (.int .u64 (gl.v:Int)):=(HB2.out.cell (by simp;omega) (p:=⟨bg,og+k*3+2,none⟩)).trans hg2
  clear hi hk hn hgl hg0' hg1 hg2 hkl
  go_wp2_with fail
  go_quiet ((go_at_call 180;first | exact BA (HI.out _) | exact BF (HI.out _)))
  go_wp2_with fail
  generalize hw3:w2.drewN _=w3
  have HB3:Hid (Below w.heap.size w w3):=AA (by rw [←hw3];exact below_drewN HB2.out _)
  have OT:Hid (AQ w3 w.heap.size 122 [.int .u8 (x.op.toNat:Int),.int .i64 k,v]):=AA (by rw [←hw3,←HK.out];exact CV.out.drewN _)
  have c0:=OT.out.q 0 rfl
  have c1:=OT.out.q 1 rfl
  have c2':w3.cell? ⟨g,2,none⟩=some (.slice (some ⟨bg,og,none⟩) m.globs.length c2):=by rw [←hw3];exact c2'
  have g0:w3.cell? ⟨bg,og+k*3,none⟩=some (.int .u8 (gl.l.toNat:Int)):=by rw [←hw3];exact g0
  have g1:w3.cell? ⟨bg,og+k*3+1,none⟩=some (.bool gl.m):=by rw [←hw3];exact g1
  have g2:w3.cell? ⟨bg,og+k*3+2,none⟩=some (.int .u64 (gl.v:Int)):=by rw [←hw3];exact g2
  have hz:w.heap.size<w3.heap.size:=OT.out.lt
  have l2:g<w3.heap.size:=by omega
  have l3:bg<w3.heap.size:=by omega
  have n1:w.heap.size≠w3.heap.size:=by omega
  have n2:g≠w3.heap.size:=by omega
  have n3:bg≠w3.heap.size:=by omega
  clear hw3
  go_region_held3 (fun W=>W.cell? ⟨w.heap.size,1,none⟩=some (.int .i64 k)∧W.cell? ⟨g,2,none⟩=some (.slice (some ⟨bg,og,none⟩) m.globs.length c2)∧W.cell? ⟨bg,og+k*3,none⟩=some (.int .u8 (gl.l.toNat:Int))∧W.cell? ⟨bg,og+k*3+1,none⟩=some (.bool gl.m)∧W.cell? ⟨bg,og+k*3+2,none⟩=some (.int .u64 (gl.v:Int))) (go_keep) (fail)
  generalize hw4:World.drew (w3.alloc (.cells #[.int .u8 (gl.l.toNat:Int),.bool gl.m,.int .u64 (gl.v:Int)] 139))=w4
  have C9:Hid (Below w3.heap.size w3 w4):=AA (by rw [←hw4];exact below_drewN ((Below.refl _ _).alloc (Nat.le_refl _) _) 1)
  have PK:Hid (AQ w4 w3.heap.size 139 [.int .u8 (gl.l.toNat:Int),.bool gl.m,.int .u64 (gl.v:Int)]):=AA (by rw [←hw4];exact(AQ.new w3 139 _).drewN 1)
  have HI4:=AA (OT.out.below C9.out OT.out.lt)
  clear hw4 c0 c1 c2' g0 g1 g2 l2 l3 n1 n2 n3
  have c0:=HI4.out.q 0 rfl
  have e0:=PK.out.q 0 rfl
  have e1:=PK.out.q 1 rfl
  have D8:Hid (Below w.heap.size w w4):=AA (HB3.out.trans (C9.out.mono HB3.out.size))
  have hcv:(convert 40 9 (.slice (some ⟨w4.heap.size,0,none⟩) 1 1)).run prog (w4.alloc (.cells #[.int .u8 (gl.l.toNat:Int)] 5))= .ok (.string ⟨#[gl.l]⟩) (w4.alloc (.cells #[.int .u8 (gl.l.toNat:Int)] 5)):=
   Nu _ _ _ underlying40 underlying5 underlying9 _ _ _ 1 1 [gl.l] rfl (row_one w4 _ _)
  by_cases h22:x.op.toNat=22
  ·have q:((x.op.toNat:Int)==22)=true:=by simp;omega
   cases hgm:gl.m with
   | false=>
    have qm:Hid (BR m f x=(Dm,39)):=AA (by rw [HL2.out,if_pos ⟨h22,hgm⟩])
    rw [hgm] at e1
    clear hgm h22
    go_wp2_with fail
    go_ret2
    rw [qm.out]
    exact⟨rfl,D8.out⟩
   | true=>
    have qm:Hid (BR m f x=(⟨#[gl.l]⟩,0)):=AA (by rw [HL2.out,if_neg (by rw [hgm];simp)])
    rw [hgm] at e1
    clear hgm h22
    go_wp2_with fail
    go_ret2
    rw [qm.out]
    exact⟨rfl,D8.out.alloc D8.out.size _⟩
  ·have q:((x.op.toNat:Int)==22)=false:=by simp;omega
   have qm:Hid (BR m f x=(⟨#[gl.l]⟩,0)):=AA (by rw [HL2.out,if_neg (by omega)])
   clear h22
   go_wp2_with fail
   go_ret2
   rw [qm.out]
   exact⟨rfl,D8.out.alloc D8.out.size _⟩
 ·have HI: ∀w,Calls prog 180 #[.int .i64 x.a,.int .i64 (m.globs.length:Int)] w fun e w'=>w=w'∧e= .returned (.bool false):=fun w=>by
   have:=EB x.a m.globs.length w hn (by omega)
   rw [Bool.eq_false_iff.2 hi] at this;exact this
  have HI:=AA HI
  have HL2:Hid (BR m f x=(Dm,30)):=AA (by
   rw [HL.out]
   by_cases h0:0≤x.a
   ·rw [if_pos h0,List.getElem?_eq_none (by
     by_cases hh:m.globs.length≤x.a.toNat
     ·exact hh
     ·exact absurd (decide_eq_true (p:=0≤x.a∧x.a<m.globs.length) (by omega)) hi)]
   ·rw [if_neg h0])
  clear hi hn
  go_wp2_with fail
  go_quiet ((go_at_call 180;first | exact BA (HI.out _) | exact BF (HI.out _)))
  go_wp2_with fail
  go_ret2
  rw [HL2.out]
  exact⟨rfl,below_drewN HB2.out _⟩
end
def VI (o:Option Cg):Value:=match o with
 | none=> .tuple #[.agg #[.string Dm,.string Dm],.bool false]
 | some s=> .tuple #[.agg #[.string s.p,.string s.r],.bool true]
theorem NU {W:World} {lo hi:Nat} {A:Option Addr} {n c:Nat} {xs:List Int} (h:(Rd.i64.sl false).R W lo hi [.slice A n c] xs) {k:Nat} {t:Int} (hk:xs[k]?=some t): ∃b o,A=some ⟨b,o,none⟩∧b<hi∧W.cell? ⟨b,o+k,none⟩=some (.int .i64 t):=by
 obtain⟨b,o,e,_,hb,cs,hc,hr⟩:=DC h hk
 obtain⟨rfl,_⟩:=hr
 exact⟨b,o,e,hb,by have:=hc 0 _ rfl;simpa [Rd.i64,Rd.one] using this⟩
section
variable {h1 g:Nat} {y:Fy} {m:AP} {f:Bv} {c:Ai} {vF vS:Value} {fl:List Int} {sh:List ByteArray}
theorem AAE (x:Ad) (v:Value) (w:World) (h:Dt w h1 g y m f c vF vS fl sh) (hop:x.op.toNat=11∨x.op.toNat=12∨x.op.toNat=2∨x.op.toNat=3∨x.op.toNat=4) (hn: -9223372036854775808≤x.a∧x.a<9223372036854775808):
 Calls prog 146 #[.pointer (some ⟨g,0,none⟩),.agg #[.int .u8 (x.op.toNat:Int),.int .i64 x.a,v]] w fun e w'=>e= .returned (VI (CO m x))∧Below w.heap.size w w':=by
 have H:=AA h
 obtain⟨tk,hHT,kind⟩: ∃tk:Int,(∀w,Calls prog 179 #[.int .u8 (x.op.toNat:Int)] w fun e w'=>Below w.heap.size w w'∧e= .returned (.int .i8 tk))∧(tk=4∧x.op.toNat=11∨tk=5∧x.op.toNat=12∨tk=1∧x.op.toNat≠11∧x.op.toNat≠12):=by
  rcases hop with e | e | e | e | e
  ·exact⟨4,fun w=>GA e (by decide) (by kernel_rfl) w,.inl ⟨rfl,e⟩⟩
  ·exact⟨5,fun w=>GA e (by decide) (by kernel_rfl) w,.inr (.inl ⟨rfl,e⟩)⟩
  all_goals exact⟨1,fun w=>GA e (by decide) (by kernel_rfl) w,.inr (.inr ⟨rfl,by omega,by omega⟩)⟩
 have HT:=AA hHT
 have KIND:=AA kind
 have hg0:g<w.heap.size:=Nat.lt_of_lt_of_le h.gh h.hh
 have bn:=AA h.md.ok
 have HN:=AA hn
 obtain⟨v1,v2,v3,v4,v5,v6,e,h0,h1',_,_,_,h5,_⟩:=Am.1 h.md.rd
 injection e with e0 e;injection e with e1 e;injection e with e2 e;injection e with e3 e;injection e with e4 e;injection e with e5 e
 obtain⟨A0,c0,rfl⟩:=AB h0
 obtain⟨A1,c1,rfl⟩:=AB h1'
 obtain⟨A5,c5,rfl⟩:=AB h5
 have H0:=AA h0;have H1:=AA h1';have H5:=AA h5
 have Q0:=AA ((h.blk.cell 0).trans (by rw [←e0];rfl):w.cell? ⟨g,0,none⟩=some (.slice A0 m.types.length c0))
 have Q1:=AA ((h.blk.cell 1).trans (by rw [←e1];rfl):w.cell? ⟨g,1,none⟩=some (.slice A1 m.hosts.length c1))
 have Q5:=AA ((h.blk.cell 5).trans (by rw [←e5];rfl):w.cell? ⟨g,5,none⟩=some (.slice A5 m.fns.length c5))
 clear h h0 h1' h5 e0 e1 e2 e3 e4 e5 e hop kind hHT hn
 go_enter func146,ntmps146
 go_upto_region 1 with fail
 generalize hwb:w.alloc (.cells #[.int .u8 (x.op.toNat:Int),.int .i64 x.a,v] 122)=wb
 have nJ:Hid (Below w.heap.size w wb):=AA (by rw [←hwb];exact(Below.refl _ _).alloc (Nat.le_refl _) _)
 have jf:Hid (AQ wb w.heap.size 122 [.int .u8 (x.op.toNat:Int),.int .i64 x.a,v]):=AA (by rw [←hwb];exact AQ.new w 122 _)
 have hzb:wb.heap.size=w.heap.size+1:=by rw [←hwb];simp
 clear hwb
 generalize hw1:wb.alloc (.cells #[.string ⟨#[]⟩,.string ⟨#[]⟩] 93)=w1
 have HB1:Hid (Below w.heap.size w w1):=AA (by rw [←hw1];exact nJ.out.alloc nJ.out.size _)
 have CX:Hid (AQ w1 w.heap.size 122 [.int .u8 (x.op.toNat:Int),.int .i64 x.a,v]):=AA (by rw [←hw1];exact jf.out.alloc _)
 have RG:Hid (AQ w1 (w.heap.size+1) 93 [.string ⟨#[]⟩,.string ⟨#[]⟩]):=AA (by rw [←hw1,←hzb];exact AQ.new wb 93 _)
 have c0':=CX.out.q 0 rfl
 clear hw1
 try rw [hzb]
 clear hzb nJ jf
 go_wp2_with fail
 refine(HT.out w1).mono ?_
 rintro e w2 ⟨hb2,rfl⟩
 have HB2:Hid (Below w.heap.size w w2):=AA (HB1.out.trans (hb2.mono HB1.out.size))
 have CV:=AA (CX.out.below hb2 CX.out.lt)
 have HS2:=AA (RG.out.below hb2 RG.out.lt)
 clear hb2 c0'
 have c1':=CV.out.q 1 rfl
 have W:=fun(L:Nat) (hL:L≤128) (w:World)=>EB x.a L w HN.out (by omega)
 have T:=fun(t:Nat) (ty:Cg) (hty:m.types[t]?=some ty)=>CZ H0.out hty
 have E2: ∀b i v,b≤g→w.cell? ⟨b,i,none⟩=some v→w2.cell? ⟨b,i,none⟩=some v:=fun b i v hb h=>(HB2.out.cell (Nat.lt_of_le_of_lt hb hg0) (p:=⟨b,i,none⟩)).trans h
 have KD: ∃L,CO m x=(if FE x.a L then CO m x else none)∧L≤128∧(tk=4∧L=m.fns.length∨tk=5∧L=m.hosts.length∨tk=1∧L=m.types.length)∧(∀k:Nat,x.a=k→k<L→ ∃(t:Nat) (ty:Cg),m.types[t]?=some ty∧CO m x=some ty∧
  (tk=4∧L=m.fns.length∧(∃b o,A5=some ⟨b,o,none⟩∧w2.cell? ⟨b,o+k*3,none⟩=some (.int .i64 t))∨tk=5∧L=m.hosts.length∧(∃b o,A1=some ⟨b,o,none⟩∧w2.cell? ⟨b,o+k,none⟩=some (.int .i64 t))∨tk=1∧L=m.types.length∧k=t)):=by
  rcases KIND.out with⟨rfl,hop⟩ | ⟨rfl,hop⟩ | ⟨rfl,hop,hop'⟩
  ·have hT:CO m x=if FE x.a m.fns.length then some (B_ m (RU m x.a).t) else none:=by unfold CO;rw [if_pos hop]
   refine⟨_,?_,by have:=bn.out.nf;omega,.inl ⟨rfl,rfl⟩,fun k hk hkl=> ?_⟩
   ·rw [hT];split<;>rfl
   have hi:FE x.a m.fns.length=true:=by unfold FE;exact decide_eq_true (by omega)
   obtain⟨fn,hfn⟩: ∃fn,m.fns[k]?=some fn:=⟨_,List.getElem?_eq_getElem hkl⟩
   obtain⟨b,o,TJ,Ko,gZ,_,hb,hf0,_,_,_,_,_⟩:=Eu H5.out hfn
   have hfo:=bn.out.fns fn (List.mem_of_getElem? hfn)
   obtain⟨t,ht⟩: ∃t:Nat,fn.t=(t:Int):=⟨fn.t.toNat,by have:=hfo.t0;omega⟩
   obtain⟨ty,hty⟩: ∃ty,m.types[t]?=some ty:=⟨_,List.getElem?_eq_getElem (by have:=hfo.t1;omega)⟩
   refine⟨t,ty,hty,?_,.inl ⟨rfl,rfl,b,o,gZ,?_⟩⟩
   ·rw [hT,if_pos hi,hk,OG hfn,ht,FC hty]
   ·rw [←ht];exact E2 _ _ _ (Nat.le_of_lt hb) hf0
  ·have hT:CO m x=if FE x.a m.hosts.length then some (B_ m (m.hosts[x.a.toNat]?.getD 0)) else none:=by unfold CO;rw [if_neg (by omega),if_pos hop]
   refine⟨_,?_,by have:=bn.out.nh;omega,.inr (.inl ⟨rfl,rfl⟩),fun k hk hkl=> ?_⟩
   ·rw [hT];split<;>rfl
   have hi:FE x.a m.hosts.length=true:=by unfold FE;exact decide_eq_true (by omega)
   obtain⟨t',hht⟩: ∃t',m.hosts[k]?=some t':=⟨_,List.getElem?_eq_getElem hkl⟩
   obtain⟨b,o,eA1,hb,hf0⟩:=NU H1.out hht
   have hfo:=bn.out.host t' (List.mem_of_getElem? hht)
   obtain⟨t,ht⟩: ∃t:Nat,t'=(t:Int):=⟨t'.toNat,by omega⟩
   obtain⟨ty,hty⟩: ∃ty,m.types[t]?=some ty:=⟨_,List.getElem?_eq_getElem (by omega)⟩
   refine⟨t,ty,hty,?_,.inr (.inl ⟨rfl,rfl,b,o,eA1,?_⟩)⟩
   ·rw [hT,if_pos hi,hk,Int.toNat_natCast,hht,Option.getD_some,ht,FC hty]
   ·rw [←ht];exact E2 _ _ _ (Nat.le_of_lt hb) hf0
  ·have hT:CO m x=if FE x.a m.types.length then some (B_ m x.a) else none:=by unfold CO;rw [if_neg (by omega),if_neg (by omega)]
   refine⟨_,?_,by have:=bn.out.nt;omega,.inr (.inr ⟨rfl,rfl⟩),fun k hk hkl=> ?_⟩
   ·rw [hT];split<;>rfl
   have hi:FE x.a m.types.length=true:=by unfold FE;exact decide_eq_true (by omega)
   obtain⟨ty,hty⟩: ∃ty,m.types[k]?=some ty:=⟨_,List.getElem?_eq_getElem hkl⟩
   refine⟨k,ty,hty,?_,.inr (.inr ⟨rfl,rfl,rfl⟩)⟩
   rw [hT,if_pos hi,hk,FC hty]
 obtain⟨L,hL,Kg,kL,kd⟩:=KD
 have KL:=AA kL
 have q0:w2.cell? ⟨g,0,none⟩=some (.slice A0 m.types.length c0):=E2 _ _ _ (Nat.le_refl _) Q0.out
 have q1:w2.cell? ⟨g,1,none⟩=some (.slice A1 m.hosts.length c1):=E2 _ _ _ (Nat.le_refl _) Q1.out
 have q5:w2.cell? ⟨g,5,none⟩=some (.slice A5 m.fns.length c5):=E2 _ _ _ (Nat.le_refl _) Q5.out
 by_cases hi:FE x.a L=true
 ·obtain⟨k,hk,hkl⟩:=Ed hi
  obtain⟨t,ty,hty,uP,ex⟩:=kd k hk hkl
  have htl:=(List.getElem?_eq_some_iff.1 hty).1
  obtain⟨bt,ot,S_,_,hbt,ht0,ht1,_,_⟩:=T t ty hty
  subst S_
  have HL2:=AA uP
  have hI: ∀w,Calls prog 180 #[.int .i64 x.a,.int .i64 (L:Int)] w fun e w'=>w=w'∧e= .returned (.bool true):=fun w=>by
   have:=W L Kg w
   rw [hi] at this;exact this
  rw [hk] at c1' hI
  have hk0:(0:Int)≤k:=by omega
  have hk1:(k:Int)<L:=by omega
  have ht0':(0:Int)≤t:=by omega
  have ht1':(t:Int)<m.types.length:=by omega
  have d0:w2.cell? ⟨bt,ot+t*2,none⟩=some (.string ty.p):=E2 _ _ _ (Nat.le_of_lt hbt) ht0
  have d1:w2.cell? ⟨bt,ot+t*2+1,none⟩=some (.string ty.r):=E2 _ _ _ (Nat.le_of_lt hbt) ht1
  have HI:=AA hI
  clear hi hk hty uP ht0 ht1 hkl kd W T hL E2 hI kL
  rcases ex with⟨rfl,rfl,b,o,rfl,d2⟩ | ⟨rfl,rfl,b,o,rfl,d2⟩ | ⟨rfl,rfl,rfl⟩
  all_goals
   clear KL
   go_wp2_with fail
   go_quiet ((go_at_call 180;first | exact BA (HI.out _) | exact BF (HI.out _)))
   go_wp2_with fail
   generalize hw3:w2.drewN _=w3
   have HB3:Hid (Below w.heap.size w w3):=AA (by rw [←hw3];exact below_drewN HB2.out _)
   have XH:Hid (AQ w3 (w.heap.size+1) 93 [.string ⟨#[]⟩,.string ⟨#[]⟩]):=AA (by rw [←hw3];exact HS2.out.drewN _)
   have E: ∀a,w3.cell? a=w2.cell? a:=fun a=>by rw [←hw3];rfl
   replace c1':=(E _).trans c1'
   replace q0:=(E _).trans q0
   replace q1:=(E _).trans q1
   replace q5:=(E _).trans q5
   replace d0:=(E _).trans d0
   replace d1:=(E _).trans d1
   try replace d2:=(E _).trans d2
   clear hw3 E
   first
   | (have _t:w.cell? ⟨g,5,none⟩=some (.slice (some ⟨b,o,none⟩) m.fns.length c5):=Q5.out
      go_still_tail 17,(by kernel_rfl))
   | (have _t:w.cell? ⟨g,1,none⟩=some (.slice (some ⟨b,o,none⟩) m.hosts.length c1):=Q1.out
      go_still_tail 16,(by kernel_rfl))
   | (go_still_tail 9,(by kernel_rfl))
   repeat still_step
   try refine wpStill_nil ?_
   change wpList _ _ _ _ _ w3.drew
   have C9:Hid (Below w.heap.size w w3.drew):=AA (below_drewN HB3.out 1)
   have QO:Hid (AQ w3.drew (w.heap.size+1) 93 [.string ⟨#[]⟩,.string ⟨#[]⟩]):=AA XH.out
   have s0:=QO.out.q 0 rfl
   have s1:=QO.out.q 1 rfl
   have f0:=QO.out.frozen 0
   have f1:=QO.out.frozen 1
   clear c1' q0 q1 q5 d0 d1
   try clear d2
   generalize w3.drew=w4 at*
   go_wp2_with fail
   have hT:=(QO.out.set 0 (.string ty.p)).set 1 (.string ty.r)
   have hB:=(C9.out.setCell (p:=⟨w.heap.size+1,0,none⟩) (Nat.le_succ _) (.string ty.p)).setCell (p:=⟨w.heap.size+1,1,none⟩) (Nat.le_succ _) (.string ty.r)
   generalize (w4.setCell ⟨w.heap.size+1,0,none⟩ (.string ty.p)).setCell ⟨w.heap.size+1,1,none⟩ (.string ty.r)=w5 at hT hB⊢
   have z0:=hT.q 0 rfl
   have z1:=hT.q 1 rfl
   rw [HL2.out]
   refine⟨rfl,.tuple #[.agg #[.string ty.p,.string ty.r],.bool true],?_,rfl,hB⟩
   simp [results,results146,go_sem,z0,z1]
   try rfl
 ·have hI: ∀w,Calls prog 180 #[.int .i64 x.a,.int .i64 (L:Int)] w fun e w'=>w=w'∧e= .returned (.bool false):=fun w=>by
   have:=W L Kg w
   rw [Bool.eq_false_iff.2 hi] at this;exact this
  have HI:=AA hI
  have HL2:Hid (CO m x=none):=AA (by rw [hL,if_neg hi])
  have s0:=HS2.out.q 0 rfl
  have s1:=HS2.out.q 1 rfl
  have f0:=HS2.out.frozen 0
  have f1:=HS2.out.frozen 1
  clear hi W T hI kd hL E2 kL
  rcases KL.out with⟨rfl,rfl⟩ | ⟨rfl,rfl⟩ | ⟨rfl,rfl⟩
  all_goals
   clear KL
   go_wp2_with fail
   go_quiet ((go_at_call 180;first | exact BA (HI.out _) | exact BF (HI.out _)))
   go_wp2_with fail
   have VJ:=HS2.out.drewN nq
   have hB3:=below_drewN HB2.out nq
   generalize w2.drewN nq=w3 at*
   have hT:=(VJ.set 0 (.string ⟨#[]⟩)).set 1 (.string ⟨#[]⟩)
   have hB:=(hB3.setCell (p:=⟨w.heap.size+1,0,none⟩) (Nat.le_succ _) (.string ⟨#[]⟩)).setCell (p:=⟨w.heap.size+1,1,none⟩) (Nat.le_succ _) (.string ⟨#[]⟩)
   generalize (w3.setCell ⟨w.heap.size+1,0,none⟩ (.string ⟨#[]⟩)).setCell ⟨w.heap.size+1,1,none⟩ (.string ⟨#[]⟩)=w5 at hT hB⊢
   have z0:=hT.q 0 rfl
   have z1:=hT.q 1 rfl
   rw [HL2.out]
   refine⟨rfl,.tuple #[.agg #[.string ⟨#[]⟩,.string ⟨#[]⟩],.bool false],?_,rfl,hB⟩
   simp [results,results146,go_sem,z0,z1]
   try rfl
end
structure g_ (m:AP) (f:Bv) (c:Ai) (fl:List Int) (sh:List ByteArray) (pc:Nat) (ops:List Bt) (l:List Nat):Prop where
 own:c.A_[pc]?=some (EL l)
 ch:Chain c.A_ l
 len:l.length≤1000
 is: ∀n:Int,(BL ops n).isSome=X8 n l.length
 at_: ∀(n:Int) (q:Bt),BL ops n=some q→q.pc=EL (l.drop n.toNat)∧OC m f sh fl q
def Lab1 (ops:List Bt) (l:List Int) (k:Nat):Prop:= ∀(j:Nat) (n:Int),j<k→l[j]?=some n→(BL ops n).isSome=true
def Lab2 (ops:List Bt) (l:List Int) (k:Nat):Prop:= ∀(j:Nat) (n:Int),j<k→l[j]?=some n→Gl ops n=Gl ops (l.headD 0)
section
variable {h1 g:Nat} {y:Fy} {m:AP} {f:Bv} {c:Ai} {vF vS:Value} {fl:List Int} {sh:List ByteArray} {pc:Nat} {ops:List Bt} {l:List Nat}
theorem PL {n:Int} {q:Bt} (hb:g_ m f c fl sh pc ops l) (hq:BL ops n=some q) (hn: -9223372036854775808≤n∧n<9223372036854775808) (hm:f.code.length≤1000000) (W:World) (h:Dt W h1 g y m f c vF vS fl sh):
 Calls prog 181 #[.pointer (some ⟨g,0,none⟩),.int .i64 pc,.int .i64 n] W fun e w'=>W=w'∧e= .returned (.tuple #[.int .i64 q.pc,.bool true]):=by
 have h2:=VH n pc l W h hb.own hb.ch hb.len hn hm
 rw [←(hb.at_ n q hq).1,←hb.is n,hq] at h2
 exact h2
theorem YW {n:Int} (hb:g_ m f c fl sh pc ops l) (hq:BL ops n=none) (hn: -9223372036854775808≤n∧n<9223372036854775808) (hm:f.code.length≤1000000) (W:World) (h:Dt W h1 g y m f c vF vS fl sh):
 Calls prog 181 #[.pointer (some ⟨g,0,none⟩),.int .i64 pc,.int .i64 n] W fun e w'=>W=w'∧e= .returned (.tuple #[.int .i64 (EL (l.drop n.toNat)),.bool false]):=by
 have h2:=VH n pc l W h hb.own hb.ch hb.len hn hm
 rw [←hb.is n,hq] at h2
 exact h2
theorem aA {n:Int} {q:Bt} (h:BL ops n=some q):0≤n:=by
 unfold BL at h
 by_cases h0:0≤n
 ·exact h0
 ·rw [if_neg h0] at h;cases h
theorem QS (x:Ad) (v:Value) (w:World) (h:Dt w h1 g y m f c vF vS fl sh) (hb:g_ m f c fl sh pc ops l) (h9:x.op.toNat≠9) (hn: -9223372036854775808≤x.a∧x.a<9223372036854775808) (hm:f.code.length≤1000000):
 Calls prog 147 #[.pointer (some ⟨g,0,none⟩),.int .i64 pc,.agg #[.int .u8 (x.op.toNat:Int),.int .i64 x.a,v]] w fun e w'=>e= .returned (.tuple #[.string (BH ops x).1,.int .i64 (BH ops x).2])∧Below w.heap.size w w':=by
 have H:=AA h;have HN:=AA hn;have HM:=AA hm;have jZ:=AA hb
 have HL:Hid (BH ops x=if(BL ops x.a).isSome then(Gl ops x.a,0) else(Dm,31)):=AA (by unfold BH;rw [if_pos h9])
 have q9:((x.op.toNat:Int) !=9)=true:=by simp;omega
 clear h hb h9 hn hm
 cases hq:BL ops x.a with
 | none=>
  have HC:=AA (YW jZ.out hq HN.out HM.out (h1:=h1) (g:=g) (y:=y) (vF:=vF) (vS:=vS))
  have HL2:Hid (BH ops x=(Dm,31)):=AA (by rw [HL.out,hq];rfl)
  clear hq
  go_enter func147,ntmps147
  go_upto_region 1 with fail
  generalize hw1:w.alloc (.cells #[.int .u8 (x.op.toNat:Int),.int .i64 x.a,v] 122)=w1
  have HB1:Hid (Below w.heap.size w w1):=AA (by rw [←hw1];exact(Below.refl _ _).alloc (Nat.le_refl _) _)
  have CX:Hid (AQ w1 w.heap.size 122 [.int .u8 (x.op.toNat:Int),.int .i64 x.a,v]):=AA (by rw [←hw1];exact AQ.new w 122 _)
  have c0:=CX.out.q 0 rfl
  have c1:=CX.out.q 1 rfl
  clear hw1
  go_wp2_with fail
  refine(HC.out w1 (H.out.below HB1.out)).mono ?_
  rintro e w2 ⟨rfl,rfl⟩
  go_wp2_with fail
  go_ret2
  rw [HL2.out]
  exact⟨rfl,HB1.out⟩
 | some q=>
  have HC:=AA (PL jZ.out hq HN.out HM.out (h1:=h1) (g:=g) (y:=y) (vF:=vF) (vS:=vS))
  have HL2:Hid (BH ops x=(Bo q,0)):=AA (by rw [HL.out];unfold Gl;rw [hq];rfl)
  have HQ:=AA (jZ.out.at_ _ _ hq).2
  have ha:=aA hq
  have hd:decide (x.a<0)=false:=decide_eq_false (by omega)
  clear hq
  go_enter func147,ntmps147
  go_upto_region 1 with fail
  generalize hw1:w.alloc (.cells #[.int .u8 (x.op.toNat:Int),.int .i64 x.a,v] 122)=w1
  have HB1:Hid (Below w.heap.size w w1):=AA (by rw [←hw1];exact(Below.refl _ _).alloc (Nat.le_refl _) _)
  have CX:Hid (AQ w1 w.heap.size 122 [.int .u8 (x.op.toNat:Int),.int .i64 x.a,v]):=AA (by rw [←hw1];exact AQ.new w 122 _)
  have c0:=CX.out.q 0 rfl
  have c1:=CX.out.q 1 rfl
  clear hw1
  go_wp2_with fail
  refine(HC.out w1 (H.out.below HB1.out)).mono ?_
  rintro e w2 ⟨rfl,rfl⟩
  go_wp2_with fail
  refine(Ld q w1 (H.out.below HB1.out) HQ.out).mono ?_
  rintro e w2 ⟨rfl,hb2⟩
  have HB2:Hid (Below w.heap.size w w2):=AA (HB1.out.trans (hb2.mono HB1.out.size))
  clear hb2
  go_wp2_with fail
  go_ret2
  rw [HL2.out]
  exact⟨rfl,HB2.out⟩
theorem OU (x:Ad) (A:Option Addr) (d hi:Nat) (w:World) (h:Dt w h1 g y m f c vF vS fl sh) (hb:g_ m f c fl sh pc ops l) (h9:x.op.toNat=9) (hx:(Rd.i64.sl false).R w 0 hi [.slice A x.l.length d] x.l) (hhi:hi≤w.heap.size) (hne:1≤x.l.length) (hle:x.l.length≤1000)
 (hsm: ∀n∈x.l,0≤n∧n≤2147483647) (hm:f.code.length≤1000000):
 Calls prog 147 #[.pointer (some ⟨g,0,none⟩),.int .i64 pc,.agg #[.int .u8 (x.op.toNat:Int),.int .i64 x.a,.slice A x.l.length d]] w fun e w'=>e= .returned (.tuple #[.string (BH ops x).1,.int .i64 (BH ops x).2])∧Below w.heap.size w w':=by
 have H:=AA h;have HM:=AA hm;have jZ:=AA hb;have HSM:=AA hsm;have HX:=AA hx
 have HL:Hid (BH ops x=if x.l.all (fun n=>(BL ops n).isSome) then(if x.l.all (fun n=>decide (Gl ops n=Gl ops (x.l.headD 0))) then(Gl ops (x.l.headD 0),0) else(Dm,32)) else(Dm,31)):=AA (by unfold BH;rw [if_neg (by omega)])
 have q9:((x.op.toNat:Int) !=9)=false:=by simp;omega
 obtain⟨n0,hn0⟩: ∃n0,x.l[0]?=some n0:=⟨_,List.getElem?_eq_getElem (by omega)⟩
 obtain⟨b,o,eA,hbl,hc0⟩:=NU hx hn0
 subst eA
 have Ra:Hid (x.l.headD 0=n0):=AA (by cases hh:x.l with | nil=>rw [hh] at hn0;cases hn0 | cons a r=>rw [hh] at hn0;injection hn0)
 have AAX:=AA hn0
 have nK:Hid (∀(W:World),Below w.heap.size w W→ ∀(k:Nat) (n:Int),x.l[k]?=some n→W.cell? ⟨b,o+k,none⟩=some (.int .i64 n)):=AA (fun W hW k n hk=>by
  obtain⟨b',o',e,_,hc⟩:=NU hx hk
  injection e with e;injection e with e1 e2 _;subst e1 e2
  exact(hW.cell (by simp;omega) (p:=⟨b,o+k,none⟩)).trans hc)
 clear h hb h9 hm hx hn0 hc0 hsm
 go_enter func147,ntmps147
 go_upto_region 1 with fail
 generalize hw1:w.alloc (.cells #[.int .u8 (x.op.toNat:Int),.int .i64 x.a,.slice (some ⟨b,o,none⟩) x.l.length d] 122)=w1
 have HB1:Hid (Below w.heap.size w w1):=AA (by rw [←hw1];exact(Below.refl _ _).alloc (Nat.le_refl _) _)
 have CX:Hid (AQ w1 w.heap.size 122 [.int .u8 (x.op.toNat:Int),.int .i64 x.a,.slice (some ⟨b,o,none⟩) x.l.length d]):=AA (by rw [←hw1];exact AQ.new w 122 _)
 have c0:=CX.out.q 0 rfl
 have c2:=CX.out.q 2 rfl
 have HW1:=AA (H.out.below HB1.out)
 clear hw1
 go_wp2_with fail
 go_loop [10,11,12] (fun i _ _=> ∃k:Nat,k≤x.l.length∧i= .int .i64 k∧Lab1 ops x.l k) (fun i _ _=>x.l.length-(intOf i).toNat)
 case atStart=>exact⟨0,Nat.zero_le _,rfl,fun j n hj=>absurd hj (Nat.not_lt_zero _)⟩
 case round=>
  obtain⟨k,hk,rfl,hl1⟩:=hrel
  have rA:=AA hl1
  clear hl1 c0
  by_cases hlt:k<x.l.length
  ·obtain⟨n,hn⟩: ∃n,x.l[k]?=some n:=⟨_,List.getElem?_eq_getElem hlt⟩
   have hcn:=nK.out w1 HB1.out k n hn
   have hk0:(0:Int)≤k:=by omega
   have hk1:(k:Int)<x.l.length:=by omega
   have hsn:=HSM.out n (List.mem_of_getElem? hn)
   have hd:decide (n<0)=false:=decide_eq_false (by omega)
   have uh:=AA hn
   clear hn
   cases hq:BL ops n with
   | none=>
    have HC:=AA (YW jZ.out hq (by omega) HM.out (h1:=h1) (g:=g) (y:=y) (vF:=vF) (vS:=vS))
    have HL2:Hid (BH ops x=(Dm,31)):=AA (by
     rw [HL.out,if_neg]
     intro hall
     have:=List.all_eq_true.1 hall n (List.mem_of_getElem? uh.out)
     rw [hq] at this;cases this)
    clear hq
    go_wp2_with fail
    refine(HC.out w1 HW1.out).mono ?_
    rintro e w2 ⟨rfl,rfl⟩
    go_wp2_with fail
    go_ret2
    rw [HL2.out]
    exact⟨rfl,HB1.out⟩
   | some q=>
    have HC:=AA (PL jZ.out hq (by omega) HM.out (h1:=h1) (g:=g) (y:=y) (vF:=vF) (vS:=vS))
    have HQ:=AA hq
    clear hq
    go_wp2_with fail
    refine(HC.out w1 HW1.out).mono ?_
    rintro e w2 ⟨rfl,rfl⟩
    go_wp2_with fail
    go_round
    case rel=>exact⟨k+1,by omega,by go_num,fun j n' hj hn'=>by
     by_cases e:j=k
     ·subst e;rw [uh.out] at hn';injection hn' with hn';subst hn';rw [HQ.out];rfl
     ·exact rA.out j n' (by omega) hn'⟩
    case measure=>simp [intOf];omega
  ·obtain rfl:x.l.length=k:=by omega
   have Mq:Hid (x.l.all (fun n=>(BL ops n).isSome)=true):=AA (List.all_eq_true.2 fun n hn=>by
    obtain⟨j,hj⟩:=List.getElem?_of_mem hn
    exact rA.out j n (List.getElem?_eq_some_iff.1 hj).1 hj)
   have hcn:w1.cell? ⟨b,o,none⟩=some (.int .i64 n0):=nK.out w1 HB1.out 0 n0 AAX.out
   have hs0:=HSM.out n0 (List.mem_of_getElem? AAX.out)
   have hl0:(0:Int)<x.l.length:=by omega
   obtain⟨q0,hq0⟩: ∃q0,BL ops n0=some q0:=Option.isSome_iff_exists.1 (List.all_eq_true.1 Mq.out n0 (List.mem_of_getElem? AAX.out))
   have HC0:=AA (PL jZ.out hq0 (by omega) HM.out (h1:=h1) (g:=g) (y:=y) (vF:=vF) (vS:=vS))
   have h_:Hid (Gl ops (x.l.headD 0)=Bo q0):=AA (by rw [Ra.out];unfold Gl;rw [hq0])
   have HO0:=AA (jZ.out.at_ _ _ hq0).2
   clear hq0
   go_wp2_with fail
   refine(HC0.out w1 HW1.out).mono ?_
   rintro e w2 ⟨rfl,rfl⟩
   go_wp2_with fail
   clear hcn
   go_loopw [15,16,17] (fun i _ _ wr=> ∃k:Nat,k≤x.l.length∧i= .int .i64 k∧Lab2 ops x.l k∧Below w1.heap.size w1 wr) (fun i _ _ _=>x.l.length-(intOf i).toNat)
   case atStart=>exact⟨0,Nat.zero_le _,rfl,fun j n hj=>absurd hj (Nat.not_lt_zero _),Below.refl _ _⟩
   case round=>
    obtain⟨k,hk,rfl,hl2,hbr⟩:=hrel
    have HL2:=AA hl2
    have JG:=AA hbr
    have EP:Hid (Below w.heap.size w wr):=AA (HB1.out.trans (hbr.mono HB1.out.size))
    have HWR:=AA (HW1.out.below hbr)
    have c2:=(CX.out.below hbr CX.out.lt).q 2 rfl
    clear hl2 hbr
    by_cases hlt:k<x.l.length
    ·obtain⟨n,hn⟩: ∃n,x.l[k]?=some n:=⟨_,List.getElem?_eq_getElem hlt⟩
     have hcn:=nK.out wr EP.out k n hn
     have hk0:(0:Int)≤k:=by omega
     have hk1:(k:Int)<x.l.length:=by omega
     have hsn:=HSM.out n (List.mem_of_getElem? hn)
     have uh:=AA hn
     obtain⟨q,hq⟩: ∃q,BL ops n=some q:=Option.isSome_iff_exists.1 (List.all_eq_true.1 Mq.out n (List.mem_of_getElem? hn))
     have HC:=AA (PL jZ.out hq (by omega) HM.out (h1:=h1) (g:=g) (y:=y) (vF:=vF) (vS:=vS))
     have HS:Hid (Gl ops n=Bo q):=AA (by unfold Gl;rw [hq])
     have HO:=AA (jZ.out.at_ _ _ hq).2
     clear hn hq
     go_wp2_with fail
     refine(HC.out wr HWR.out).mono ?_
     rintro e w2 ⟨rfl,rfl⟩
     clear hcn
     go_wp2_with fail
     refine(Ld q wr HWR.out HO.out).mono ?_
     rintro e w2 ⟨rfl,hb2⟩
     have HB2:=AA hb2
     have HW2:=AA (HWR.out.below hb2)
     clear hb2 c2
     go_wp2_with fail
     refine(Ld q0 w2 HW2.out HO0.out).mono ?_
     rintro e w3 ⟨rfl,hb3⟩
     have HB3:Hid (Below wr.heap.size wr w3):=AA (HB2.out.trans (hb3.mono HB2.out.size))
     have HB3':Hid (Below w.heap.size w w3):=AA (EP.out.trans (HB3.out.mono EP.out.size))
     clear hb3
     by_cases he:Bo q=Bo q0
     ·have e1:((Bo q).toList==(Bo q0).toList)=true:=by rw [he];simp
      have HE:=AA he
      clear he
      go_wp2_with fail
      go_roundw
      case rel=>exact⟨k+1,by omega,by go_num,fun j n' hj hn'=>by
       by_cases e:j=k
       ·subst e;rw [uh.out] at hn';injection hn' with hn';subst hn';rw [HS.out,h_.out];exact HE.out
       ·exact HL2.out j n' (by omega) hn',JG.out.trans (HB3.out.mono JG.out.size)⟩
      case measure=>simp [intOf];omega
     ·have e1:((Bo q).toList==(Bo q0).toList)=false:=by
       rw [beq_eq_false_iff_ne]
       intro e
       rw [ByteArray.toList_eq,ByteArray.toList_eq] at e
       exact he (ByteArray.ext (Array.toList_inj.1 e))
      have HE:Hid (BH ops x=(Dm,32)):=AA (by
       rw [HL.out,if_pos Mq.out,if_neg]
       intro hall
       have:=of_decide_eq_true (List.all_eq_true.1 hall n (List.mem_of_getElem? uh.out))
       rw [HS.out,h_.out] at this
       exact he this)
      clear he
      go_wp2_with fail
      go_ret2
      rw [HE.out]
      exact⟨rfl,HB3'.out⟩
    ·obtain rfl:x.l.length=k:=by omega
     have HE:Hid (BH ops x=(Bo q0,0)):=AA (by
      rw [HL.out,if_pos Mq.out,if_pos,h_.out]
      refine List.all_eq_true.2 fun n hn=>decide_eq_true ?_
      obtain⟨j,hj⟩:=List.getElem?_of_mem hn
      exact HL2.out j n (List.getElem?_eq_some_iff.1 hj).1 hj)
     go_wp2_with fail
     refine(Ld q0 wr HWR.out HO0.out).mono ?_
     rintro e w2 ⟨rfl,hb2⟩
     have HB2:Hid (Below w.heap.size w w2):=AA (EP.out.trans (hb2.mono EP.out.size))
     clear hb2
     go_wp2_with fail
     go_ret2
     rw [HE.out]
     exact⟨rfl,HB2.out⟩
end
end Go.Proofs.YtlagonfamllgjaaGreatDoor
