/- Part 36 of the proof: FrmE -/
import Derived.Test.YtlagonfamllgjaaGreatDoorR35
namespace Go.Proofs.YtlagonfamllgjaaGreatDoor
set_option linter.unusedVariables false
set_option linter.unusedSimpArgs false
set_option maxRecDepth 100000
set_option maxHeartbeats 4000000
open Go.RowKit Tryz
def rV (w2:World) (x:Int) (a b c:Value) (wx:World):Prop:= ∃br bh bt:Nat,a= .pointer (some ⟨br,0,none⟩)∧b= .pointer (some ⟨bh,0,none⟩)∧c= .pointer (some ⟨bt,0,none⟩)∧AQ wx br 4 [.bool (decide (x=1))]∧AQ wx bh 4 [.bool (decide (x=2))]∧AQ wx bt 4 [.bool (decide (x=3))]∧Below w2.heap.size w2 wx
def SN (ds:List Value) (vc:Array Value) (x:Int) (w:World) (e:Ending) (w':World):Prop:=Below w.heap.size w w'∧ ∃b bs br bh bt:Nat,e= .returned (.slice (some ⟨b,0,none⟩) 8 8)∧AQ w' bs 35 ds∧AQ w' br 4 [.bool (decide (x=1))]∧AQ w' bh 4 [.bool (decide (x=2))]∧AQ w' bt 4 [.bool (decide (x=3))]∧
 AQ w' b 37 [.func (.func 93) #[] #[.pointer (some ⟨br,0,none⟩),.pointer (some ⟨bh,0,none⟩),.pointer (some ⟨bt,0,none⟩)],.func (.func 94) #[] #[.pointer (some ⟨br,0,none⟩),.pointer (some ⟨bs,0,none⟩)],.func (.func 95) #[] #[.pointer (some ⟨bs,0,none⟩),.pointer (some ⟨bh,0,none⟩)],.func (.func 96) #[] #[.pointer (some ⟨bt,0,none⟩),.pointer (some ⟨bs,0,none⟩)],.func (.func 97) #[] #[.pointer (some ⟨bs,0,none⟩)],.func (.func 98) #[] #[.pointer (some ⟨bs,0,none⟩)],.func (.func 99) #[.agg vc] #[],.func (.func 100) #[.agg vc] #[]]
theorem Uv {W:World} {o:Obj} {a:Addr} {v:Value} (h:W.cell? a=some v):(W.alloc o).cell? a=some v:=(World.cell?_alloc_some W a o (by rw [h];rfl)).trans h
theorem X7 {w2:World} {x y z:Value} {wx:World} (h:((w2.alloc (.cells #[x] 4)).alloc (.cells #[y] 4)).alloc (.cells #[z] 4)=wx):
 AQ wx w2.heap.size 4 [x]∧AQ wx (w2.heap.size+1) 4 [y]∧AQ wx (w2.heap.size+1+1) 4 [z]∧Below w2.heap.size w2 wx:=by
 obtain⟨b1,k1⟩:=EK (w:=w2) (cs:= #[x]) (t:=4) rfl
 obtain⟨b2,k2⟩:=EK (w:=w2.alloc (.cells #[x] 4)) (cs:= #[y]) (t:=4) rfl
 obtain⟨b3,k3⟩:=EK (w:=(w2.alloc (.cells #[x] 4)).alloc (.cells #[y] 4)) (cs:= #[z]) (t:=4) rfl
 rw [h] at b3 k3
 have z1:(w2.alloc (.cells #[x] 4)).heap.size=w2.heap.size+1:=by simp
 have z2:((w2.alloc (.cells #[x] 4)).alloc (.cells #[y] 4)).heap.size=w2.heap.size+1+1:=by simp
 have e1:=k1.below b2 k1.lt
 have e2:=e1.below b3 e1.lt
 have e3:=k2.below b3 k2.lt
 rw [z1] at e3
 rw [z2] at k3
 exact⟨e2,e3,k3,(b1.trans (b2.mono b1.size)).trans (b3.mono (b1.trans (b2.mono b1.size)).size)⟩
theorem rW (cs ds:List Value) (vt:Value) (hi:Nat) (m:AP) (s:FU) (w:World) (hm:Db.R w 0 hi cs m) (hs:K8.R w 0 hi ds s) (hhi:hi≤w.heap.size):
 Calls prog 65 #[.agg (cs++vt::ds).toArray] w (SN ds (cs++vt::ds).toArray s.end_ w):=by
 obtain⟨v1,v2,v3,v4,v5,v6,rfl,_,_,h2,hf3,XZ,_⟩:=Av.1 hm
 obtain⟨u0,u1,u2,u5,rfl,s0,s1,s2,sr,_,s5,_,su⟩:=DR.1 hs
 obtain⟨A2,c2,rfl⟩:=AJ h2
 obtain⟨B1,d1,rfl⟩:=AJ s1
 obtain⟨B2,d2,rfl⟩:=AJ s2
 obtain⟨B0,d0,rfl⟩:=AJ s0
 obtain⟨B5,d5,rfl⟩:=AJ s5
 have H2:=AA h2;have CJ:=AA hhi;have S1:=AA s1;have S2:=AA s2
 unfold Rd.Gd at hf3 XZ sr su
 clear hm hs h2 s0 s1 s2 s5 hhi
 show Calls prog 65 #[.agg #[v1,v2,.slice A2 m.globs.length c2,.int .i64 m.first,.int .i64 m.most,v4,v5,v6,vt,.slice B0 s.frames.length d0,.slice B1 s.globs.length d1,.slice B2 s.pages.length d2,.int .i64 s.CU,.int .i8 s.end_,.slice B5 s.res.length d5,.int .i8 s.trap,.int .i64 s.used]] w (SN [.slice B0 s.frames.length d0,.slice B1 s.globs.length d1,.slice B2 s.pages.length d2,.int .i64 s.CU,.int .i8 s.end_,.slice B5 s.res.length d5,.int .i8 s.trap,.int .i64 s.used] #[v1,v2,.slice A2 m.globs.length c2,.int .i64 m.first,.int .i64 m.most,v4,v5,v6,vt,.slice B0 s.frames.length d0,.slice B1 s.globs.length d1,.slice B2 s.pages.length d2,.int .i64 s.CU,.int .i8 s.end_,.slice B5 s.res.length d5,.int .i8 s.trap,.int .i64 s.used] s.end_ w)
 go_enter func65,ntmps65
 go_upto_region 1 with fail
 generalize hw1:w.alloc (.cells #[v1,v2,.slice A2 m.globs.length c2,.int .i64 m.first,.int .i64 m.most,v4,v5,v6,vt,.slice B0 s.frames.length d0,.slice B1 s.globs.length d1,.slice B2 s.pages.length d2,.int .i64 s.CU,.int .i8 s.end_,.slice B5 s.res.length d5,.int .i8 s.trap,.int .i64 s.used] 127)=w1
 obtain⟨hb1,hx1⟩:=EK hw1
 have hz1:w1.heap.size=w.heap.size+1:=by rw [←hw1];simp
 have HB1:=AA hb1;have CS:=AA hx1
 clear hw1 hb1 hx1
 have q9:=CS.out.q 9 rfl
 have q10:=CS.out.q 10 rfl
 have q11:=CS.out.q 11 rfl
 have q12:=CS.out.q 12 rfl
 have iW:=CS.out.q 13 rfl
 have q14:=CS.out.q 14 rfl
 have q15:=CS.out.q 15 rfl
 have q16:=CS.out.q 16 rfl
 go_upto_region 2 with fail
 generalize hw2:w1.alloc (.cells #[.slice B0 s.frames.length d0,.slice B1 s.globs.length d1,.slice B2 s.pages.length d2,.int .i64 s.CU,.int .i8 s.end_,.slice B5 s.res.length d5,.int .i8 s.trap,.int .i64 s.used] 35)=w2
 obtain⟨hb2,hx2⟩:=EK hw2
 rw [hz1] at hx2
 try rw [hz1]
 have HS2:=AA hx2
 have kZ:=AA (CS.out.below hb2 CS.out.lt)
 have HB2:Hid (Below w.heap.size w w2):=AA (HB1.out.trans (hb2.mono HB1.out.size))
 clear hw2 hb2 hx2 hz1 q9 q10 q11 q12 iW q14 q15 q16
 have c4:=HS2.out.q 4 rfl
 have hlt:w.heap.size+1<w2.heap.size:=HS2.out.lt
 go_cut [4,5,6] from 9 to 17 (fun a b c wx=>rV w2 s.end_ a b c wx)
 case first=>
  go_region_held3 (fun W=>W.cell? ⟨w.heap.size+1,4,none⟩=some (.int .i8 s.end_))
   (first | exact c4 | exact Uv c4 | exact Uv (Uv c4) | exact Uv (Uv (Uv c4)))
   (fail)
  all_goals
   generalize hW:((w2.alloc _).alloc _).alloc _=W3
   obtain⟨k1,k2,k3,kb⟩:=X7 hW
   have k1':=k1.drewN 1;have k2':=k2.drewN 1;have k3':=k3.drewN 1;have kb':=below_drewN kb 1
   clear hW k1 k2 k3 kb
   go_wp2_with fail
   go_meet
   first
   | exact⟨_,_,_,rfl,rfl,rfl,k1',k2',k3',kb'⟩
   | exact⟨_,_,_,rfl,rfl,rfl,k1',k3',k2',kb'⟩
   | exact⟨_,_,_,rfl,rfl,rfl,k2',k1',k3',kb'⟩
   | exact⟨_,_,_,rfl,rfl,rfl,k2',k3',k1',kb'⟩
   | exact⟨_,_,_,rfl,rfl,rfl,k3',k1',k2',kb'⟩
   | exact⟨_,_,_,rfl,rfl,rfl,k3',k2',k1',kb'⟩
 case rest=>
  obtain⟨br,bh,bt,rfl,rfl,rfl,k1,k2,k3,kb⟩:=hcut
  have Ls:=AA k1;have GN:=AA k2;have GQ:=AA k3
  have FQ:Hid (Below w.heap.size w wc):=AA (HB2.out.trans (kb.mono HB2.out.size))
  have HSX:=AA (HS2.out.below kb HS2.out.lt)
  have X8:=AA (kZ.out.below kb kZ.out.lt)
  clear k1 k2 k3 kb c4 hlt
  have p0:=X8.out.q 0 rfl
  have p1:=X8.out.q 1 rfl
  have p2:=X8.out.q 2 rfl
  have p3:=X8.out.q 3 rfl
  have p4:=X8.out.q 4 rfl
  have p5:=X8.out.q 5 rfl
  have p6:=X8.out.q 6 rfl
  have p7:=X8.out.q 7 rfl
  have p8:=X8.out.q 8 rfl
  have p9:=X8.out.q 9 rfl
  have p10:=X8.out.q 10 rfl
  have p11:=X8.out.q 11 rfl
  have p12:=X8.out.q 12 rfl
  have p13:=X8.out.q 13 rfl
  have p14:=X8.out.q 14 rfl
  have p15:=X8.out.q 15 rfl
  have p16:=X8.out.q 16 rfl
  go_wp2_with fail
  generalize hwz:wc.alloc _=wz
  obtain⟨hbz,hkz⟩:=EK hwz
  clear hwz
  go_ret
  exact⟨FQ.out.trans (hbz.mono FQ.out.size),_,_,_,_,_,rfl,HSX.out.below hbz HSX.out.lt,Ls.out.below hbz Ls.out.lt,GN.out.below hbz GN.out.lt,GQ.out.below hbz GQ.out.lt,hkz⟩
end Go.Proofs.YtlagonfamllgjaaGreatDoor
