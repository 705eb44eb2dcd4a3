/- Part 25 of the proof: FrmE VdN R10A R10B R10P R10C R10D R10E -/
import Derived.Test.YtlagonfamllgjaaGreatDoorK24
namespace Go.Proofs.YtlagonfamllgjaaGreatDoor
set_option linter.unusedVariables false
set_option linter.unusedSimpArgs false
set_option maxRecDepth 100000
set_option maxHeartbeats 4000000
open Go.RowKit Tryz
def uX (w2:World) (x:Int) (a b c:Value) (wx:World):Prop:= ∃br bh bt:Nat,a= .pointer (some ⟨br,0,none⟩)∧b= .pointer (some ⟨bh,0,none⟩)∧c= .pointer (some ⟨bt,0,none⟩)∧AQ wx br 4 [.bool (decide (x=1))]∧AQ wx bh 4 [.bool (decide (x=2))]∧AQ wx bt 4 [.bool (decide (x=3))]∧Below w2.heap.size w2 wx
def TB (ds:List Value) (vc:Array Value) (x:Int) (w:World) (e:Ending) (w':World):Prop:=Below w.heap.size w w'∧ ∃b bs br bh bt:Nat,e= .returned (.slice (some ⟨b,0,none⟩) 8 8)∧AQ w' bs 35 ds∧AQ w' br 4 [.bool (decide (x=1))]∧AQ w' bh 4 [.bool (decide (x=2))]∧AQ w' bt 4 [.bool (decide (x=3))]∧
 AQ w' b 37 [.func (.func 93) #[] #[.pointer (some ⟨br,0,none⟩),.pointer (some ⟨bh,0,none⟩),.pointer (some ⟨bt,0,none⟩)],.func (.func 94) #[] #[.pointer (some ⟨br,0,none⟩),.pointer (some ⟨bs,0,none⟩)],.func (.func 95) #[] #[.pointer (some ⟨bs,0,none⟩),.pointer (some ⟨bh,0,none⟩)],.func (.func 96) #[] #[.pointer (some ⟨bt,0,none⟩),.pointer (some ⟨bs,0,none⟩)],.func (.func 97) #[] #[.pointer (some ⟨bs,0,none⟩)],.func (.func 98) #[] #[.pointer (some ⟨bs,0,none⟩)],.func (.func 99) #[.agg vc] #[],.func (.func 100) #[.agg vc] #[]]
theorem VE {W:World} {o:Obj} {a:Addr} {v:Value} (h:W.cell? a=some v):(W.alloc o).cell? a=some v:=(World.cell?_alloc_some W a o (by rw [h];rfl)).trans h
theorem YR {w2:World} {x y z:Value} {wx:World} (h:((w2.alloc (.cells #[x] 4)).alloc (.cells #[y] 4)).alloc (.cells #[z] 4)=wx):
 AQ wx w2.heap.size 4 [x]∧AQ wx (w2.heap.size+1) 4 [y]∧AQ wx (w2.heap.size+1+1) 4 [z]∧Below w2.heap.size w2 wx:=by
 obtain⟨b1,k1⟩:=ES (w:=w2) (cs:= #[x]) (t:=4) rfl
 obtain⟨b2,k2⟩:=ES (w:=w2.alloc (.cells #[x] 4)) (cs:= #[y]) (t:=4) rfl
 obtain⟨b3,k3⟩:=ES (w:=(w2.alloc (.cells #[x] 4)).alloc (.cells #[y] 4)) (cs:= #[z]) (t:=4) rfl
 rw [h] at b3 k3
 have z1:(w2.alloc (.cells #[x] 4)).heap.size=w2.heap.size+1:=by simp
 have z2:((w2.alloc (.cells #[x] 4)).alloc (.cells #[y] 4)).heap.size=w2.heap.size+1+1:=by simp
 have e1:=k1.below b2 k1.lt
 have e2:=e1.below b3 e1.lt
 have e3:=k2.below b3 k2.lt
 rw [z1] at e3
 rw [z2] at k3
 exact⟨e2,e3,k3,(b1.trans (b2.mono b1.size)).trans (b3.mono (b1.trans (b2.mono b1.size)).size)⟩
theorem uY (cs ds:List Value) (vt:Value) (hi:Nat) (m:AP) (s:FH) (w:World) (hm:DJ.R w 0 hi cs m) (hs:K7.R w 0 hi ds s) (hhi:hi≤w.heap.size):
 Calls prog 65 #[.agg (cs++vt::ds).toArray] w (TB ds (cs++vt::ds).toArray s.end_ w):=by
 obtain⟨v1,v2,v3,v4,v5,v6,rfl,_,_,h2,hf3,Xj,_⟩:=Am.1 hm
 obtain⟨u0,u1,u2,u5,rfl,s0,s1,s2,sr,_,s5,_,su⟩:=CU.1 hs
 obtain⟨A2,c2,rfl⟩:=AB h2
 obtain⟨B1,d1,rfl⟩:=AB s1
 obtain⟨B2,d2,rfl⟩:=AB s2
 obtain⟨B0,d0,rfl⟩:=AB s0
 obtain⟨B5,d5,rfl⟩:=AB s5
 have H2:=AA h2;have Bw:=AA hhi;have S1:=AA s1;have S2:=AA s2
 unfold Rd.G8 at hf3 Xj sr su
 clear hm hs h2 s0 s1 s2 s5 hhi
 show Calls prog 65 #[.agg #[v1,v2,.slice A2 m.globs.length c2,.int .i64 m.first,.int .i64 m.most,v4,v5,v6,vt,.slice B0 s.frames.length d0,.slice B1 s.globs.length d1,.slice B2 s.pages.length d2,.int .i64 s.Bj,.int .i8 s.end_,.slice B5 s.res.length d5,.int .i8 s.trap,.int .i64 s.used]] w (TB [.slice B0 s.frames.length d0,.slice B1 s.globs.length d1,.slice B2 s.pages.length d2,.int .i64 s.Bj,.int .i8 s.end_,.slice B5 s.res.length d5,.int .i8 s.trap,.int .i64 s.used] #[v1,v2,.slice A2 m.globs.length c2,.int .i64 m.first,.int .i64 m.most,v4,v5,v6,vt,.slice B0 s.frames.length d0,.slice B1 s.globs.length d1,.slice B2 s.pages.length d2,.int .i64 s.Bj,.int .i8 s.end_,.slice B5 s.res.length d5,.int .i8 s.trap,.int .i64 s.used] s.end_ w)
 go_enter func65,ntmps65
 go_upto_region 1 with fail
 generalize hw1:w.alloc (.cells #[v1,v2,.slice A2 m.globs.length c2,.int .i64 m.first,.int .i64 m.most,v4,v5,v6,vt,.slice B0 s.frames.length d0,.slice B1 s.globs.length d1,.slice B2 s.pages.length d2,.int .i64 s.Bj,.int .i8 s.end_,.slice B5 s.res.length d5,.int .i8 s.trap,.int .i64 s.used] 127)=w1
 obtain⟨hb1,hx1⟩:=ES hw1
 have hz1:w1.heap.size=w.heap.size+1:=by rw [←hw1];simp
 have HB1:=AA hb1;have CX:=AA hx1
 clear hw1 hb1 hx1
 have q9:=CX.out.q 9 rfl
 have q10:=CX.out.q 10 rfl
 have q11:=CX.out.q 11 rfl
 have q12:=CX.out.q 12 rfl
 have je:=CX.out.q 13 rfl
 have q14:=CX.out.q 14 rfl
 have q15:=CX.out.q 15 rfl
 have q16:=CX.out.q 16 rfl
 go_upto_region 2 with fail
 generalize hw2:w1.alloc (.cells #[.slice B0 s.frames.length d0,.slice B1 s.globs.length d1,.slice B2 s.pages.length d2,.int .i64 s.Bj,.int .i8 s.end_,.slice B5 s.res.length d5,.int .i8 s.trap,.int .i64 s.used] 35)=w2
 obtain⟨hb2,hx2⟩:=ES hw2
 rw [hz1] at hx2
 try rw [hz1]
 have HS2:=AA hx2
 have uL:=AA (CX.out.below hb2 CX.out.lt)
 have HB2:Hid (Below w.heap.size w w2):=AA (HB1.out.trans (hb2.mono HB1.out.size))
 clear hw2 hb2 hx2 hz1 q9 q10 q11 q12 je q14 q15 q16
 have c4:=HS2.out.q 4 rfl
 have hlt:w.heap.size+1<w2.heap.size:=HS2.out.lt
 go_cut [4,5,6] from 9 to 17 (fun a b c wx=>uX w2 s.end_ a b c wx)
 case first=>
  go_region_held3 (fun W=>W.cell? ⟨w.heap.size+1,4,none⟩=some (.int .i8 s.end_))
   (first | exact c4 | exact VE c4 | exact VE (VE c4) | exact VE (VE (VE c4)))
   (fail)
  all_goals
   generalize hW:((w2.alloc _).alloc _).alloc _=W3
   obtain⟨k1,k2,k3,kb⟩:=YR hW
   have k1':=k1.drewN 1;have k2':=k2.drewN 1;have k3':=k3.drewN 1;have kb':=below_drewN kb 1
   clear hW k1 k2 k3 kb
   go_wp2_with fail
   go_meet
   first
   | exact⟨_,_,_,rfl,rfl,rfl,k1',k2',k3',kb'⟩
   | exact⟨_,_,_,rfl,rfl,rfl,k1',k3',k2',kb'⟩
   | exact⟨_,_,_,rfl,rfl,rfl,k2',k1',k3',kb'⟩
   | exact⟨_,_,_,rfl,rfl,rfl,k2',k3',k1',kb'⟩
   | exact⟨_,_,_,rfl,rfl,rfl,k3',k1',k2',kb'⟩
   | exact⟨_,_,_,rfl,rfl,rfl,k3',k2',k1',kb'⟩
 case rest=>
  obtain⟨br,bh,bt,rfl,rfl,rfl,k1,k2,k3,kb⟩:=hcut
  have Pt:=AA k1;have Iu:=AA k2;have Lp:=AA k3
  have Gn:Hid (Below w.heap.size w wc):=AA (HB2.out.trans (kb.mono HB2.out.size))
  have HSX:=AA (HS2.out.below kb HS2.out.lt)
  have YS:=AA (uL.out.below kb uL.out.lt)
  clear k1 k2 k3 kb c4 hlt
  have p0:=YS.out.q 0 rfl
  have p1:=YS.out.q 1 rfl
  have p2:=YS.out.q 2 rfl
  have p3:=YS.out.q 3 rfl
  have p4:=YS.out.q 4 rfl
  have p5:=YS.out.q 5 rfl
  have p6:=YS.out.q 6 rfl
  have p7:=YS.out.q 7 rfl
  have p8:=YS.out.q 8 rfl
  have p9:=YS.out.q 9 rfl
  have p10:=YS.out.q 10 rfl
  have p11:=YS.out.q 11 rfl
  have p12:=YS.out.q 12 rfl
  have p13:=YS.out.q 13 rfl
  have p14:=YS.out.q 14 rfl
  have p15:=YS.out.q 15 rfl
  have p16:=YS.out.q 16 rfl
  go_wp2_with fail
  generalize hwz:wc.alloc _=wz
  obtain⟨hbz,hkz⟩:=ES hwz
  clear hwz
  go_ret
  exact⟨Gn.out.trans (hbz.mono Gn.out.size),_,_,_,_,_,rfl,HSX.out.below hbz HSX.out.lt,Pt.out.below hbz Pt.out.lt,Iu.out.below hbz Iu.out.lt,Lp.out.below hbz Lp.out.lt,hkz⟩
theorem YT {code:List Ad}: ∀(n:Nat) {st c:Ai},n≤code.length→MJ code.length (code.length-n) st→IC code n st= .inr c→MJ code.length code.length c
 | 0,st,c,_,h,hg=>by
  unfold IC at hg
  split at hg
  ·injection hg with hg;subst hg;simpa using h
  ·cases hg
 | n+1,st,c,hn,h,hg=>by
  unfold IC at hg
  cases hs:Ah code st (code.length-(n+1))with
  | inl e=>rw [hs] at hg;cases hg
  | inr st'=>
   rw [hs] at hg
   have:=K_ h hs
   rw [show code.length-(n+1)+1=code.length-n from by omega] at this
   exact YT n (by omega) this hg
theorem QM {code:List Ad} {c:Ai} (h:ctl code= .inr c):MJ code.length code.length c:=
 YT _ (Nat.le_refl _) (by rw [Nat.sub_self];exact J2 _) h
structure yX (m:AP) (f:Bv) (AJ:List Int) (p:Nat) (st:Cn) (y:Ad):Prop where
 top:(BU st).base.size≤st.shape.size
 ne: ∃o r,st.op=o::r∧r.length≤1000
 size:st.shape.size≤256
 fl:st.floors.length=p+1
 ops: ∀o∈st.op,o.base.size≤256∧o.s.p.size≤8∧o.s.r.size≤8
 live:AZ y.op=false→st.dead=false
 shut:AZ y.op=true→st.dead=true→st.shape=(BU st).base++(BU st).s.r
 opn: ∀o∈st.op,o.o.toNat=4→ ∃q:Nat,o.pc=q∧q<AJ.length
section
variable {m:AP} {f:Bv} {c:Ai} {pc:Nat} {sc:Ai} {st st1:Cn} {x:Ad}
theorem Lock.len (h:Lock m f c pc sc st) (hx:f.code[pc]?=some x):st.op.length≤33:=by
 have h1:=h.val.xX
 rw [h.ND hx] at h1
 have h2:=congrArg List.length h1
 have h3:=h.ok.few
 simp at h2
 omega
theorem Lock.op8 (hm:Kc m) (h:Lock m f c pc sc st): ∀o∈st.op,o.base.size≤256∧o.s.p.size≤8∧o.s.r.size≤8:=by
 intro o ho
 have h1:=h.val.each o ho
 refine⟨h1.size h.val.bnd,?_⟩
 rcases h1 with e | ⟨p,n,y,s,a1,a2,a3,a4,a5,a6,a7,a8,a9,XF,Uw,a12⟩
 ·rw [e];exact⟨by simp [Jc,Dm],(IL hm f.t).2⟩
 ·rw [a7];exact IL hm _
theorem Lock.row (hm:Kc m) (hc:ctl f.code= .inr c) (h:Lock m f c pc sc st) (hx:f.code[pc]?=some x) (hb:Cr st x= .inr st1):yX m f c.AJ pc (Cy st1) x:=by
 obtain⟨n1,n2,n3,n4,n5,n6,n7,n8,n9,n10⟩:=R5 h.val hb
 have hlt:=(List.getElem?_eq_some_iff.1 hx).1
 obtain⟨o,r,hop⟩:=h.val.ne (h.ND hx)
 have hlen:=h.len hx
 have hop8:=h.op8 hm
 have htop:BU (Cy st1)=BU st:=by unfold BU;rw [n1]
 refine⟨n6,⟨o,r,by rw [n1];exact hop,by rw [hop] at hlen;simp at hlen;omega⟩,n5,n3,fun q hq=>hop8 q (by rw [←n1];exact hq),fun hcl=> ?_,fun hcl hd=> ?_,fun q hq h4=> ?_⟩
 ·unfold Cr at hb
  split at hb
  ·cases hb
  ·rename_i hd
   injection hb with hb;subst hb
   show st.dead=false
   simpa using hd
 ·rw [htop]
  unfold Cr at hb
  split at hb
  ·split at hb
   ·cases hb
   split at hb
   ·cases hb
   ·injection hb with hb;subst hb;rfl
  ·rename_i hd'
   injection hb with hb;subst hb
   exact absurd hd (by simpa [Cy] using hd')
 ·rw [n1] at hq
  rcases h.val.each q hq with e | ⟨p,n,y,s,a1,a2,a3,a4,a5,a6,a7,a8,a9,XF,Uw,a12⟩
  ·rw [e] at h4;exact absurd h4 (by show ¬((0:UInt8).toNat=4);decide)
  ·rw [h.val.shapes] at a2
   exact⟨p,a1,by rw [(QM hc).AJ];omega⟩
end
theorem Rk {m:AP} {f:Bv} {AJ:List Int} {pc:Nat} {st:Cn} {x:Ad} {e:Int} (hx:f.code[pc]?=some x) (hs:EF m f AJ pc st x= .inl e):P7 m f AJ (f.code.length-pc) st= .inl (e,(pc:Int)):=by
 have hlt:=(List.getElem?_eq_some_iff.1 hx).1
 rw [show f.code.length-pc=(f.code.length-(pc+1))+1 from by omega]
 unfold P7
 rw [show f.code.length-(f.code.length-(pc+1)+1)=pc from by omega,hx]
 simp only [hs]
theorem YU {m:AP} {f:Bv} {AJ:List Int} {pc:Nat} {st st':Cn} {x:Ad} (hx:f.code[pc]?=some x) (hs:EF m f AJ pc st x= .inr st'):P7 m f AJ (f.code.length-pc) st=P7 m f AJ (f.code.length-(pc+1)) st':=by
 have hlt:=(List.getElem?_eq_some_iff.1 hx).1
 rw [show f.code.length-pc=(f.code.length-(pc+1))+1 from by omega]
 conv=>lhs;unfold P7
 rw [show f.code.length-(f.code.length-(pc+1)+1)=pc from by omega,hx]
 simp only [hs]
theorem nH (o:UInt8) (w:World):Calls prog 87 #[.int .u8 (o.toNat:Int)] w fun e w'=>e= .returned (.bool (DF o))∧w'=w:=by
 go_enter func87,ntmps87
 have e0:DF o=(decide ((o.toNat:Int)=0)||(decide ((o.toNat:Int)=7)||(decide ((o.toNat:Int)=9)||decide ((o.toNat:Int)=10)))):=by
  unfold DF
  rw [Bool.eq_iff_iff]
  simp only [decide_eq_true_eq,Bool.or_eq_true]
  omega
 by_cases h0:(o.toNat:Int)=0
 ·go_wp2_with fail
  go_ret
  exact⟨by rw [e0];simp [h0],rfl⟩
 ·by_cases h7:(o.toNat:Int)=7
  ·go_wp2_with fail
   go_ret
   exact⟨by rw [e0];simp [h7],rfl⟩
  ·by_cases h9:(o.toNat:Int)=9
   ·go_wp2_with fail
    go_ret
    exact⟨by rw [e0];simp [h9],rfl⟩
   ·go_wp2_with fail
    go_ret
    have eo:((o.toNat:Int)==0||(o.toNat:Int)==7||(o.toNat:Int)==9||(o.toNat:Int)==10)=DF o:=by
     rw [e0,Bool.eq_iff_iff]
     simp only [Bool.or_eq_true,beq_iff_eq,decide_eq_true_eq]
     omega
    exact⟨congrArg (fun b=>Ending.returned (.bool b)) eo,rfl⟩
structure Fy where
 m0:Value
 m1:Value
 m2:Value
 m3:Value
 m4:Value
 m5:Value
 m6:Value
 m7:Value
 fn:Nat
 loc:ByteArray
 code:Value
 ends:Value
 AJ:Value
 A_:Value
def wkC (y:Fy) (vF vS:Value):List Value:= [y.m0,y.m1,y.m2,y.m3,y.m4,y.m5,y.m6,y.m7,.int .i64 (y.fn:Int),y.code,.string y.loc,y.ends,y.AJ,y.A_,vF,vS]
structure uZ (W:World) (hi:Nat) (y:Fy) (m:AP) (f:Bv):Prop where
 rd:DJ.R W 0 hi [y.m0,y.m1,y.m2,y.m3,y.m4,y.m5,y.m6,y.m7] m
 fn:m.fns[y.fn]?=some f
 ok:Kc m
theorem Qx {hi g:Nat} {y:Fy} {m:AP} {f:Bv} {vF vS:Value} (w:World) (h:AQ w g 152 (wkC y vF vS)) (hm:uZ w hi y m f):
 Calls prog 114 #[.pointer (some ⟨g,0,none⟩)] w fun e w'=>e= .returned (.string (B_ m f.t).r)∧ ∃k,w'=w.drewN k:=by
 obtain⟨v1,v2,v3,v4,v5,v6,e,h0,h1,h2,_,_,h5,_,_⟩:=Am.1 hm.rd
 injection e with e0 e;injection e with e1 e;injection e with e2 e;injection e with e3 e;injection e with e4 e;injection e with e5 e
 obtain⟨A5,c5,rfl⟩:=AB h5
 obtain⟨A0,c0,rfl⟩:=AB h0
 obtain⟨bf,of,TJ,Ko,gZ,_,hbf,hf0,hf1,hf2,hfB,X0,jX⟩:=Eu h5 hm.fn
 subst gZ
 have hfo:=hm.ok.fns f (List.mem_of_getElem? hm.fn)
 obtain⟨t,ht⟩: ∃t:Nat,f.t=(t:Int):=⟨f.t.toNat,by have:=hfo.t0;omega⟩
 have htl:t<m.types.length:=by have:=hfo.t1;omega
 obtain⟨ty,hty⟩: ∃ty,m.types[t]?=some ty:=⟨_,List.getElem?_eq_getElem htl⟩
 obtain⟨bt,ot,S_,_,hbt,ht0,ht1,htp,htr⟩:=CZ h0 hty
 subst S_
 have Ho:B_ m f.t=ty:=by rw [ht];exact FC hty
 have TD:=AA Ho
 have hlt:=(List.getElem?_eq_some_iff.1 hm.fn).1
 have c0':w.cell? ⟨g,0,none⟩=some (.slice (some ⟨bt,ot,none⟩) m.types.length c0):=(h.cell 0).trans (by rw [←e0];rfl)
 have c5':w.cell? ⟨g,5,none⟩=some (.slice (some ⟨bf,of,none⟩) m.fns.length c5):=(h.cell 5).trans (by rw [←e5];rfl)
 have c8':=h.q 8 rfl
 rw [ht] at hf0
 have hk0:(0:Int)≤y.fn:=by omega
 have hk1:(y.fn:Int)<m.fns.length:=by omega
 have t_:(0:Int)≤t:=by omega
 have uD:(t:Int)<m.types.length:=by omega
 clear h hm h0 h1 h2 h5 e0 e1 e2 e3 e4 e5 e Ho ht hfo hty hfB X0 jX htp htr hf1 hf2 ht0 hbf hbt
 go_enter func114,ntmps114
 go_wp2_with fail
 go_quiet (fail)
 go_wp2_with fail
 go_ret
 rw [TD.out]
 exact⟨rfl,_,rfl⟩
structure ADg (W:World) (hi:Nat) (y:Fy) (f:Bv):Prop where
 cd: ∃A c,y.code= .slice A f.code.length c∧(Ei.sl false).R W 0 hi [.slice A f.code.length c] f.code
theorem TF {hi g:Nat} {y:Fy} {m:AP} {f:Bv} {vF vS:Value} (p:Int) (w:World) (h:AQ w g 152 (wkC y vF vS)) (hm:uZ w hi y m f) (hhi:hi≤w.heap.size) (hp:p<0):
 Calls prog 89 #[.pointer (some ⟨g,0,none⟩),.int .i64 p] w fun e w'=>e= .returned (.agg #[.string Dm,.string (B_ m f.t).r])∧Below w.heap.size w w':=by
 have H:=AA h;have HM:=AA hm
 clear h hm
 go_enter func89,ntmps89
 go_upto_region 2 with fail
 generalize hw1:w.alloc (.cells #[.string ⟨#[]⟩,.string ⟨#[]⟩] 93)=w1
 have HB:Hid (Below w.heap.size w w1):=AA (by rw [←hw1];exact(Below.refl _ _).alloc (Nat.le_refl _) _)
 have HS:Hid (AQ w1 w.heap.size 93 [.string ⟨#[]⟩,.string ⟨#[]⟩]):=AA (by rw [←hw1];exact AQ.new w 93 _)
 clear hw1
 go_wp2_with fail
 refine(Qx w1 (H.out.below HB.out H.out.lt) ⟨Rd.below HM.out.rd HB.out hhi,HM.out.fn,HM.out.ok⟩).mono ?_
 rintro e w2 ⟨rfl,k,rfl⟩
 have hS:=HS.out.drewN k
 have s0:=hS.q 0 rfl
 have s1:=hS.q 1 rfl
 have f0:=hS.frozen 0
 have f1:=hS.frozen 1
 have HS2:=AA hS
 have HB2:Hid (Below w.heap.size w (w1.drewN k)):=AA (below_drewN HB.out k)
 clear hS
 generalize w1.drewN k=w2 at*
 go_wp2_with fail
 have hT:=(HS2.out.set 0 (.string ⟨#[]⟩)).set 1 (.string (B_ m f.t).r)
 have hB:=(HB2.out.setCell (p:=⟨w.heap.size,0,none⟩) (Nat.le_refl _) (.string ⟨#[]⟩)).setCell (p:=⟨w.heap.size,1,none⟩) (Nat.le_refl _) (.string (B_ m f.t).r)
 generalize (w2.setCell ⟨w.heap.size,0,none⟩ (.string ⟨#[]⟩)).setCell ⟨w.heap.size,1,none⟩ (.string (B_ m f.t).r)=w3 at hT hB⊢
 have z0:=hT.q 0 rfl
 have z1:=hT.q 1 rfl
 refine⟨rfl,.agg #[.string Dm,.string (B_ m f.t).r],?_,rfl,hB⟩
 simp [results,results89,go_sem,z0,z1]
 try rfl
theorem Uc {hi g:Nat} {y:Fy} {m:AP} {f:Bv} {vF vS:Value} (p t:Nat) (x:Ad) (s:Cg) (w:World) (h:AQ w g 152 (wkC y vF vS)) (hm:uZ w hi y m f) (hc:ADg w hi y f) (hhi:hi≤w.heap.size) (hx:f.code[p]?=some x) (ha:x.a=(t:Int)) (hs:m.types[t]?=some s):
 Calls prog 89 #[.pointer (some ⟨g,0,none⟩),.int .i64 p] w fun e w'=>e= .returned (.agg #[.string s.p,.string s.r])∧Below w.heap.size w w':=by
 obtain⟨v1,v2,v3,v4,v5,v6,e,h0,_⟩:=Am.1 hm.rd
 injection e with e0 e
 obtain⟨A0,c0,rfl⟩:=AB h0
 obtain⟨bt,ot,S_,_,hbt,ht0,ht1,htp,htr⟩:=CZ h0 hs
 subst S_
 obtain⟨A,c,ec,hcr⟩:=hc.cd
 obtain⟨b,o,Ga,GJ,rfl,_,hb,_,hxa,_⟩:=Dy hcr hx
 rw [ha] at hxa
 have hpl:=(List.getElem?_eq_some_iff.1 hx).1
 have htl:=(List.getElem?_eq_some_iff.1 hs).1
 have hgl:=h.lt
 have c0':w.cell? ⟨g,0,none⟩=some (.slice (some ⟨bt,ot,none⟩) m.types.length c0):=(h.cell 0).trans (by rw [←e0];rfl)
 have c9':w.cell? ⟨g,9,none⟩=some (.slice (some ⟨b,o,none⟩) f.code.length c):=(h.cell 9).trans (by rw [←ec];rfl)
 have hp0:(0:Int)≤p:=by omega
 have hp1:(p:Int)<f.code.length:=by omega
 have t_:(0:Int)≤t:=by omega
 have uD:(t:Int)<m.types.length:=by omega
 clear h hm hc h0 e0 e ec hcr hx hs ha
 go_enter func89,ntmps89
 go_upto_region 3 with fail
 generalize hw1:w.alloc (.cells #[.string ⟨#[]⟩,.string ⟨#[]⟩] 93)=w1
 have hB:Below w.heap.size w w1:=by rw [←hw1];exact(Below.refl _ _).alloc (Nat.le_refl _) _
 have hS:AQ w1 w.heap.size 93 [.string ⟨#[]⟩,.string ⟨#[]⟩]:=by rw [←hw1];exact AQ.new w 93 _
 have d0:=(hB.cell hgl (p:=⟨g,0,none⟩)).trans c0'
 have d9:=(hB.cell hgl (p:=⟨g,9,none⟩)).trans c9'
 have d1:=(hB.cell (Nat.lt_of_lt_of_le hb hhi) (p:=⟨b,o+p*3+1,none⟩)).trans hxa
 have d2:=(hB.cell (Nat.lt_of_lt_of_le hbt hhi) (p:=⟨bt,ot+t*2,none⟩)).trans ht0
 have d3:=(hB.cell (Nat.lt_of_lt_of_le hbt hhi) (p:=⟨bt,ot+t*2+1,none⟩)).trans ht1
 have s0:=hS.q 0 rfl
 have s1:=hS.q 1 rfl
 have f0:=hS.frozen 0
 have f1:=hS.frozen 1
 have HS2:=AA hS
 have HB2:=AA hB
 have n1:g≠w.heap.size:=by omega
 have n2:b≠w.heap.size:=by omega
 have n3:bt≠w.heap.size:=by omega
 have hbl:b<w.heap.size:=Nat.lt_of_lt_of_le hb hhi
 have ADX:bt<w.heap.size:=Nat.lt_of_lt_of_le hbt hhi
 clear hw1 hS hB c0' c9' hxa ht0 ht1
 go_still_tail 15,(by kernel_rfl)
 repeat still_step
 try refine wpStill_nil ?_
 change wpList _ _ _ _ _ w1.drew
 have s0':w1.drew.cell? ⟨w.heap.size,0,none⟩=some (.string ⟨#[]⟩):=s0
 have s1':w1.drew.cell? ⟨w.heap.size,1,none⟩=some (.string ⟨#[]⟩):=s1
 have f0':w1.drew.frozen? ⟨w.heap.size,0,none⟩=false:=f0
 have f1':w1.drew.frozen? ⟨w.heap.size,1,none⟩=false:=f1
 have HB3:Hid (Below w.heap.size w w1.drew):=AA (below_drewN HB2.out 1)
 have XH:Hid (AQ w1.drew w.heap.size 93 [.string ⟨#[]⟩,.string ⟨#[]⟩]):=AA HS2.out
 clear d0 d9 d1 d2 d3 s0 s1 f0 f1 HS2 HB2
 generalize w1.drew=w2 at*
 go_wp2_with fail
 have hT:=(XH.out.set 0 (.string s.p)).set 1 (.string s.r)
 have hB:=(HB3.out.setCell (p:=⟨w.heap.size,0,none⟩) (Nat.le_refl _) (.string s.p)).setCell (p:=⟨w.heap.size,1,none⟩) (Nat.le_refl _) (.string s.r)
 generalize (w2.setCell ⟨w.heap.size,0,none⟩ (.string s.p)).setCell ⟨w.heap.size,1,none⟩ (.string s.r)=w3 at hT hB⊢
 have z0:=hT.q 0 rfl
 have z1:=hT.q 1 rfl
 refine⟨rfl,.agg #[.string s.p,.string s.r],?_,rfl,hB⟩
 simp [results,results89,go_sem,z0,z1]
 try rfl
def Kr (n:Nat) (st:Cn):List Int:=st.floors++List.replicate (n-st.floors.length) (-1)
def X8 (n:Int) (k:Nat):Bool:=decide (0≤n∧n≤k)
theorem Chain.drop {o:List Int}: ∀ {l:List Nat},Chain o l→ ∀j,Chain o (l.drop j)
 | [],_,j=>by rw [List.drop_nil];trivial
 | _::_,h,0=>h
 | _::r,h,j+1=>Chain.drop h.2 j
theorem VF {l:List Nat} {j:Nat} {p:Nat} (h:l[j]?=some p):EL (l.drop j)=(p:Int):=by
 obtain⟨h1,rfl⟩:=List.getElem?_eq_some_iff.1 h
 rw [List.drop_eq_getElem_cons h1];rfl
theorem TG {l:List Nat} {j:Nat} (h:l.length≤j):EL (l.drop j)= -1:=by
 rw [List.drop_eq_nil_of_le h];rfl
theorem Chain.up {o:List Int} {l:List Nat} (h:Chain o l) {j:Nat} {p:Nat} (hj:l[j]?=some p):o[p]?=some (EL (l.drop (j+1))):=by
 have h1:=h.drop j
 obtain⟨hl,rfl⟩:=List.getElem?_eq_some_iff.1 hj
 rw [List.drop_eq_getElem_cons hl] at h1
 exact h1.1
section
variable {m:AP} {f:Bv} {c:Ai} {pc:Nat} {sc:Ai} {st:Cn} {x:Ad}
theorem Lock.lab (h:Lock m f c pc sc st) (hx:f.code[pc]?=some x) {n:Nat} {q:Bt} (hq:st.op[n]?=some q):n≤sc.op.length∧q.pc=EL (sc.op.drop n):=by
 have hp:=h.val.xX
 rw [h.ND hx] at hp
 simp only [Bool.false_eq_true,if_false] at hp
 have h1:(st.op.map (·.pc))[n]?=some q.pc:=by rw [List.getElem?_map,hq];rfl
 rw [hp] at h1
 by_cases hn:n<sc.op.length
 ·rw [List.getElem?_append_left (by simpa using hn),List.getElem?_map] at h1
  obtain⟨p,hp1,hp2⟩:=Option.map_eq_some_iff.1 h1
  exact⟨by omega,by rw [VF hp1,←hp2];rfl⟩
 ·have hl:=(List.getElem?_eq_some_iff.1 h1).1
  simp at hl
  rw [List.getElem?_append_right (by simp;omega)] at h1
  have e:n-(sc.op.map Int.ofNat).length=0:=by simp;omega
  rw [e] at h1
  injection h1 with h1
  exact⟨by omega,by rw [TG (by omega),←h1]⟩
theorem Lock.AAW (h:Lock m f c pc sc st) (hx:f.code[pc]?=some x):st.op.length=sc.op.length+1:=by
 have hp:=h.val.xX
 rw [h.ND hx] at hp
 have:=congrArg List.length hp
 simpa using this
theorem Lock.uf (h:Lock m f c pc sc st) (hx:f.code[pc]?=some x) (n:Int):(BL st.op n).isSome=X8 n sc.op.length:=by
 unfold X8
 have hl:=h.AAW hx
 unfold BL
 by_cases h0:0≤n
 ·rw [if_pos h0]
  by_cases h1:n≤sc.op.length
  ·rw [List.getElem?_eq_getElem (by omega)];simp [h0,h1]
  ·rw [List.getElem?_eq_none (by omega)];simp [h1]
 ·rw [if_neg h0];simp [h0]
theorem Lock.ug (h:Lock m f c pc sc st) (hx:f.code[pc]?=some x) {n:Int} {q:Bt} (hq:BL st.op n=some q):q∈st.op∧q.pc=EL (sc.op.drop n.toNat):=by
 unfold BL at hq
 split at hq
 ·exact⟨List.mem_of_getElem? hq,(h.lab hx hq).2⟩
 ·cases hq
end
theorem VG {w:World} {b1 b2 s1 s2 n1 n2:Nat} {e1 e2:TypeId} {v1 v2:Value} {x1 x2:List Value} (h:w.ownsRow b1 e1 s1 v1 n1 x1) (h':w.ownsRow b2 e2 s2 v2 n2 x2) (hne:e1≠e2): ∀k,v1.ownBlock=some k→v2.ownBlock≠some k:=by
 intro k hk hk'
 rcases h.2 with⟨hv,_⟩ | ⟨g,cap,cur,hv,_,hg,_⟩
 ·rw [hv] at hk;cases hk
 ·rcases h'.2 with⟨hv',_⟩ | ⟨g',cap',cur',hv',_,hg',_⟩
  ·rw [hv'] at hk';cases hk'
  ·rw [hv] at hk;rw [hv'] at hk'
   injection hk with hk;injection hk' with hk'
   have hk:g=k:=hk
   have hk':g'=k:=hk'
   subst hk hk'
   rw [hg] at hg'
   injection hg' with hg'
   injection hg' with _ h2
   exact hne h2
structure Dt (W:World) (h1 g:Nat) (y:Fy) (m:AP) (f:Bv) (c:Ai) (vF vS:Value) (fl:List Int) (sh:List ByteArray):Prop where
 blk:AQ W g 152 (wkC y vF vS)
 md:uZ W g y m f
 cd:ADg W g y f
 en: ∃A d,y.ends= .slice A f.code.length d∧(Rd.i64.sl false).R W (g+1) h1 [.slice A f.code.length d] c.ends
 el: ∃A d,y.AJ= .slice A f.code.length d∧(Rd.i64.sl false).R W (g+1) h1 [.slice A f.code.length d] c.AJ
 ow: ∃A d,y.A_= .slice A f.code.length d∧(Rd.i64.sl false).R W (g+1) h1 [.slice A f.code.length d] c.A_
 loc:y.loc=CS m f
 fl:W.ownsRow h1 3 1 vF fl.length (fl.map iv)
 sh:W.ownsRow h1 9 1 vS sh.length (sh.map Value.string)
 gh:g<h1
 hh:h1≤W.heap.size
section
variable {W W':World} {h1 g:Nat} {y:Fy} {m:AP} {f:Bv} {c:Ai} {vF vS:Value} {fl:List Int} {sh:List ByteArray}
theorem Dt.below (h:Dt W h1 g y m f c vF vS fl sh) (hb:Below W.heap.size W W'):Dt W' h1 g y m f c vF vS fl sh:=by
 have hg:=Nat.le_of_lt (Nat.lt_of_lt_of_le h.gh h.hh)
 obtain⟨A1,d1,e1,r1⟩:=h.en
 obtain⟨A2,d2,e2,r2⟩:=h.el
 obtain⟨A3,d3,e3,r3⟩:=h.ow
 obtain⟨A4,d4,e4,r4⟩:=h.cd.cd
 exact⟨h.blk.below hb h.blk.lt,⟨Rd.below h.md.rd hb hg,h.md.fn,h.md.ok⟩,⟨⟨A4,d4,e4,Rd.below r4 hb hg⟩⟩,⟨A1,d1,e1,Rd.below r1 hb h.hh⟩,⟨A2,d2,e2,Rd.below r2 hb h.hh⟩,⟨A3,d3,e3,Rd.below r3 hb h.hh⟩,h.loc,
  FY h.fl hb,FY h.sh hb,h.gh,Nat.le_trans h.hh hb.size⟩
theorem Dt.setF (h:Dt W h1 g y m f c vF vS fl sh) {b n d:Nat} (hv:vF= .slice (some ⟨b,0,none⟩) n d) (hb:h1≤b) (p:Nat) (u:Int):Dt (W.setCell ⟨b,p,none⟩ (iv u)) h1 g y m f c vF vS (fl.set p u) sh:=by
 have hg:=h.gh
 obtain⟨A1,d1,e1,r1⟩:=h.en
 obtain⟨A2,d2,e2,r2⟩:=h.el
 obtain⟨A3,d3,e3,r3⟩:=h.ow
 obtain⟨A4,d4,e4,r4⟩:=h.cd.cd
 have hfl:=h.fl
 have hne:=VG h.fl h.sh (by decide)
 rw [hv] at hfl hne
 have hn:=hfl.1
 obtain⟨hn,_⟩:=bK hfl
 subst hn
 refine⟨h.blk.far (p:=⟨b,p,none⟩) (by simp;omega) _,⟨Rd.set h.md.rd _ (.inr (by simp;omega)),h.md.fn,h.md.ok⟩,⟨⟨A4,d4,e4,Rd.set r4 _ (.inr (by simp;omega))⟩⟩,⟨A1,d1,e1,Rd.set r1 _ (.inr hb)⟩,⟨A2,d2,e2,Rd.set r2 _ (.inr hb)⟩,⟨A3,d3,e3,Rd.set r3 _ (.inr hb)⟩,h.loc,
  ?_,BD h.sh (p:=⟨b,p,none⟩) (fun e=>hne b rfl e) _,h.gh,by simp;exact h.hh⟩
 rw [hv,List.length_set,List.map_set]
 exact(hfl.stored p (iv u)).1
theorem Dt.WK (h:Dt W h1 g y m f c vF vS fl sh) {A:Option Addr} {d n:Nat} {s:ByteArray} (hn:n=sh.length) (hg:W.grownBy W' vS.ownBlock) (ho:W'.ownsRow h1 9 1 (.slice A (n+1) d) (n+1) (sh.map Value.string++ [.string s])):
 Dt (W'.setCell ⟨g,15,none⟩ (.slice A (n+1) d)) h1 g y m f c vF (.slice A (n+1) d) fl (sh++ [s]):=by
 subst hn
 have hg1:=h.gh
 have hh1:=h.hh
 have hb:Below h1 W W':=BK h.sh hg h.hh
 obtain⟨A1,d1,e1,r1⟩:=h.en
 obtain⟨A2,d2,e2,r2⟩:=h.el
 obtain⟨A3,d3,e3,r3⟩:=h.ow
 obtain⟨A4,d4,e4,r4⟩:=h.cd.cd
 have hfl:W'.ownsRow h1 3 1 vF fl.length (fl.map iv):=h.fl.kept hg (by
  cases hv:vF.ownBlock with
  | none=>exact .inl rfl
  | some k=>exact .inr fun e'=>VG h.fl h.sh (by decide) k hv e'.symm)
 refine⟨(h.blk.below hb hg1).set 15 _,⟨Rd.set (Rd.below h.md.rd hb (Nat.le_of_lt hg1)) _ (.inr (Nat.le_refl _)),h.md.fn,h.md.ok⟩,⟨⟨A4,d4,e4,Rd.set (Rd.below r4 hb (Nat.le_of_lt hg1)) _ (.inr (Nat.le_refl _))⟩⟩,
  ⟨A1,d1,e1,Rd.set (Rd.below r1 hb (Nat.le_refl _)) _ (.inl (Nat.lt_succ_self _))⟩,⟨A2,d2,e2,Rd.set (Rd.below r2 hb (Nat.le_refl _)) _ (.inl (Nat.lt_succ_self _))⟩,⟨A3,d3,e3,Rd.set (Rd.below r3 hb (Nat.le_refl _)) _ (.inl (Nat.lt_succ_self _))⟩,h.loc,
  J3 hfl hg1 _,?_,h.gh,by simp;exact Nat.le_trans h.hh hb.size⟩
 rw [List.map_append,List.length_append]
 exact J3 ho (p:=⟨g,15,none⟩) hg1 (.slice A (sh.length+1) d)
theorem Dt.yY (h:Dt W h1 g y m f c vF vS fl sh) {p:Nat} {v:Int} (hp:fl[p]?=some v): ∃b d,vF= .slice (some ⟨b,0,none⟩) fl.length d∧h1≤b∧W.cell? ⟨b,p,none⟩=some (.int .i64 v)∧W.frozen? ⟨b,p,none⟩=false:=by
 have hl:=(List.getElem?_eq_some_iff.1 hp).1
 obtain⟨b,d,e,hb,_,_⟩:=Fe h.fl (by omega)
 have ho:=h.fl
 rw [e] at ho
 exact⟨b,d,e,hb,by have:=ho.cellAt p (by simpa using hl);simpa [hp,iv] using this,ho.frozenAt p⟩
theorem Dt.cellS (h:Dt W h1 g y m f c vF vS fl sh) {p:Nat} {s:ByteArray} (hp:sh[p]?=some s): ∃b d,vS= .slice (some ⟨b,0,none⟩) sh.length d∧h1≤b∧W.cell? ⟨b,p,none⟩=some (.string s):=by
 have hl:=(List.getElem?_eq_some_iff.1 hp).1
 obtain⟨b,d,e,hb,_,_⟩:=Fe h.sh (by omega)
 have ho:=h.sh
 rw [e] at ho
 exact⟨b,d,e,hb,by have:=ho.cellAt p (by simpa using hl);simpa [hp] using this⟩
end
theorem WL {g:Nat} (p:Int) (w:World) (hp:p<0):Calls prog 88 #[.pointer (some ⟨g,0,none⟩),.int .i64 p] w fun e w'=>e= .returned (.string Dm)∧ ∃k,w'=w.drewN k:=by
 go_enter func88,ntmps88
 go_wp2_with fail
 go_ret
 exact⟨rfl,0,rfl⟩
theorem YV {h1 g:Nat} {y:Fy} {m:AP} {f:Bv} {c:Ai} {vF vS:Value} {fl:List Int} {sh:List ByteArray} (p n:Nat) (s:ByteArray) (w:World) (h:Dt w h1 g y m f c vF vS fl sh) (hs:sh[p]?=some s) (hf:fl[p]?=some (n:Int)) (hn:n≤s.size) (hz:s.size≤1000000):
 Calls prog 88 #[.pointer (some ⟨g,0,none⟩),.int .i64 p] w fun e w'=>e= .returned (.string (s.extract 0 n))∧ ∃k,w'=w.drewN k:=by
 obtain⟨b1,d1,e1,_,c1,_⟩:=h.yY hf
 obtain⟨b2,d2,e2,_,c2⟩:=h.cellS hs
 have q7:w.cell? ⟨g,14,none⟩=some (.slice (some ⟨b1,0,none⟩) fl.length d1):=by rw [←e1];exact h.blk.cell 14
 have q8:w.cell? ⟨g,15,none⟩=some (.slice (some ⟨b2,0,none⟩) sh.length d2):=by rw [←e2];exact h.blk.cell 15
 have l1:=(List.getElem?_eq_some_iff.1 hs).1
 have l2:=(List.getElem?_eq_some_iff.1 hf).1
 have hp0:(0:Int)≤p:=by omega
 have hp1:(p:Int)<sh.length:=by omega
 have hp2:(p:Int)<fl.length:=by omega
 have hn0:(0:Int)≤n:=by omega
 have hn1:(n:Int)≤s.size:=by omega
 clear h hs hf e1 e2
 go_enter func88,ntmps88
 go_wp2_with fail
 go_quiet (fail)
 go_wp2_with fail
 go_ret
 exact⟨rfl,_,rfl⟩
theorem nI (a b:ByteArray) (w:World):(Instr.field 93 (.agg #[.string a,.string b]) 0).run prog w= .ok (.string a) w:=by kernel_rfl
theorem TH (a b:ByteArray) (w:World):(Instr.field 93 (.agg #[.string a,.string b]) 1).run prog w= .ok (.string b) w:=by kernel_rfl
section
variable {h1 g:Nat} {y:Fy} {m:AP} {f:Bv} {c:Ai} {vF vS:Value} {fl:List Int} {sh:List ByteArray}
theorem TI (o:Bt) (w:World) (h:Dt w h1 g y m f c vF vS fl sh) (ho:OC m f sh fl o) (hz: ∀s∈sh,s.size≤256):
 Calls prog 88 #[.pointer (some ⟨g,0,none⟩),.int .i64 o.pc] w fun e w'=>e= .returned (.string o.base)∧ ∃k,w'=w.drewN k:=by
 rcases ho with rfl | ⟨p,n,x,s,a1,a2,a3,a4,a5,a6,a7,a8,a9,XF,Uw,a12⟩
 ·exact WL (-1) w (by decide)
 ·rw [a1,Uw]
  exact YV p n s w h a8 a9 XF (by have:=hz s (List.mem_of_getElem? a8);omega)
theorem Lc (o:Bt) (w:World) (h:Dt w h1 g y m f c vF vS fl sh) (ho:OC m f sh fl o):
 Calls prog 89 #[.pointer (some ⟨g,0,none⟩),.int .i64 o.pc] w fun e w'=>e= .returned (.agg #[.string o.s.p,.string o.s.r])∧Below w.heap.size w w':=by
 have hg:g≤w.heap.size:=Nat.le_of_lt (Nat.lt_of_lt_of_le h.gh h.hh)
 rcases ho with rfl | ⟨p,n,x,s,a1,a2,a3,a4,a5,a6,a7,a8,a9,XF,Uw,a12⟩
 ·exact TF (-1) w h.blk h.md hg (by decide)
 ·obtain⟨t,ht,htl⟩:=Ed a6
  obtain⟨ty,hty⟩: ∃ty,m.types[t]?=some ty:=⟨_,List.getElem?_eq_getElem htl⟩
  have e:o.s=ty:=by rw [a7,ht];exact FC hty
  rw [a1,e]
  exact Uc p t x ty w h.blk h.md h.cd hg a3 ht hty
theorem Ld (o:Bt) (w:World) (h:Dt w h1 g y m f c vF vS fl sh) (ho:OC m f sh fl o):
 Calls prog 182 #[.pointer (some ⟨g,0,none⟩),.int .i64 o.pc] w fun e w'=>e= .returned (.string (Bo o))∧Below w.heap.size w w':=by
 have H:=AA h;have HO:=AA ho
 rcases ho with rfl | ⟨p,n,x,s,a1,a2,a3,a4,a5,a6,a7,a8,a9,XF,Uw,a12⟩
 ·have hb:Bo (Jc (B_ m f.t))=(Jc (B_ m f.t)).s.r:=rfl
  rw [hb]
  have ht:=Lc _ w h HO.out
  have HT:=AA ht
  change Calls _ _ #[.pointer (some ⟨g,0,none⟩),.int .i64 (-1)] _ _
  clear h ht hb
  go_enter func182,ntmps182
  go_wp2_with fail
  refine HT.out.mono ?_
  rintro e w1 ⟨rfl,hb⟩
  have HB:=AA hb;clear hb
  have f1:=TH (Jc (B_ m f.t)).s.p (Jc (B_ m f.t)).s.r w1
  go_wp2_with fail
  go_ret
  exact⟨rfl,HB.out⟩
 ·have hx:=a3
  have ha:Bo o=if x.op.toNat=3 then o.s.p else o.s.r:=by unfold Bo;rw [a5]
  obtain⟨A,d,ec,hcr⟩:=h.cd.cd
  obtain⟨b,oo,Ga,GJ,rfl,_,hb,hx0,_,_,_,_⟩:=Dy hcr hx
  have hpl:=(List.getElem?_eq_some_iff.1 hx).1
  have c9':w.cell? ⟨g,9,none⟩=some (.slice (some ⟨b,oo,none⟩) f.code.length d):=(h.blk.cell 9).trans (by rw [←ec];rfl)
  have hp0:(0:Int)≤p:=by omega
  have hp1:(p:Int)<f.code.length:=by omega
  have HT:=AA (fun k=>(Lc o (w.drewN k) (h.below (below_drewN (Below.refl _ _) k)) HO.out))
  rw [ha]
  rw [a1] at HT⊢
  have hd:decide ((0:Int)≤p)=true:=decide_eq_true (by omega)
  clear h ha hx ec hcr a2 a3 a4 a5 a6 a7 a8 a9 XF Uw a12 hpl
  by_cases h3:x.op.toNat=3
  ·have q:((x.op.toNat:Int)==3)=true:=by simp;omega
   rw [if_pos h3]
   clear h3
   go_enter func182,ntmps182
   go_wp2_with fail
   refine(HT.out 0).mono ?_
   rintro e w1 ⟨rfl,hb⟩
   have HB:Hid (Below w.heap.size w w1):=AA ((below_drewN (Below.refl _ _) _).trans hb);clear hb
   have f0:=nI o.s.p o.s.r w1
   have f1:=TH o.s.p o.s.r w1
   go_wp2_with fail
   go_ret
   exact⟨rfl,HB.out⟩
  ·have q:((x.op.toNat:Int)==3)=false:=by simp;omega
   rw [if_neg h3]
   clear h3
   go_enter func182,ntmps182
   go_wp2_with fail
   refine(HT.out 0).mono ?_
   rintro e w1 ⟨rfl,hb⟩
   have HB:Hid (Below w.heap.size w w1):=AA ((below_drewN (Below.refl _ _) _).trans hb);clear hb
   have f0:=nI o.s.p o.s.r w1
   have f1:=TH o.s.p o.s.r w1
   go_wp2_with fail
   go_ret
   exact⟨rfl,HB.out⟩
end
section
variable {h1 g:Nat} {y:Fy} {m:AP} {f:Bv} {c:Ai} {vF vS:Value} {fl:List Int} {sh:List ByteArray}
theorem Dt.PG {w:World} (h:Dt w h1 g y m f c vF vS fl sh) {q:Nat} {v:Int} (hq:c.A_[q]?=some v): ∃b o d,y.A_= .slice (some ⟨b,o,none⟩) f.code.length d∧ ∀(p:Nat) (v:Int),c.A_[p]?=some v→w.cell? ⟨b,o+p,none⟩=some (.int .i64 v)∧p<f.code.length:=by
 obtain⟨A,d,e,r⟩:=h.ow
 obtain⟨b,o,rfl,_⟩:=DC r hq
 refine⟨b,o,d,e,fun p v hp=> ?_⟩
 obtain⟨b',o',he,_,_,cs,hc,hr⟩:=DC r hp
 injection he with he
 injection he with e1 e2 _
 subst e1 e2
 obtain⟨rfl,_⟩:=hr
 have hl:=Bq r
 exact⟨by have:=hc 0 _ rfl;simpa [Rd.i64,Rd.one] using this,by rw [hl];exact(List.getElem?_eq_some_iff.1 hp).1⟩
theorem VH (n:Int) (pc:Nat) (l:List Nat) (w:World) (h:Dt w h1 g y m f c vF vS fl sh) (ho:c.A_[pc]?=some (EL l)) (hch:Chain c.A_ l) (hl:l.length≤1000) (hn: -9223372036854775808≤n∧n<9223372036854775808) (hm:f.code.length≤1000000):
 Calls prog 181 #[.pointer (some ⟨g,0,none⟩),.int .i64 pc,.int .i64 n] w fun e w'=>w=w'∧e= .returned (.tuple #[.int .i64 (EL (l.drop n.toNat)),.bool (X8 n l.length)]):=by
 obtain⟨b,o,d,e,hc⟩:=h.PG ho
 have je:w.cell? ⟨g,13,none⟩=some (.slice (some ⟨b,o,none⟩) f.code.length d):=(h.blk.cell 13).trans (by rw [←e];rfl)
 obtain⟨ch,hpl⟩:=hc pc _ ho
 have hp0:(0:Int)≤pc:=by omega
 have hp1:(pc:Int)<f.code.length:=by omega
 have HC:=AA hc;have HCH:=AA hch
 clear h hc hch ho e hpl
 go_enter func181,ntmps181
 go_wp2_with fail
 go_loop [2,8] (fun nn oo=> ∃j:Nat,j≤l.length∧(j=0∨(j:Int)≤n)∧nn= .int .i64 (n-j)∧oo= .int .i64 (EL (l.drop j))) (fun nn _=>(intOf nn).toNat)
 case atStart=>exact⟨0,Nat.zero_le _,.inl rfl,by simp,rfl⟩
 case round=>
  obtain⟨j,hj,hjn,rfl,rfl⟩:=hrel
  clear ch
  by_cases h0:0<n-j
  ·have d0:decide (0<n-(j:Int))=true:=decide_eq_true h0
   by_cases h1:j<l.length
   ·obtain⟨p,hp⟩: ∃p,l[j]?=some p:=⟨_,List.getElem?_eq_getElem h1⟩
    obtain⟨cq,hpl⟩:=HC.out p _ (Chain.up HCH.out hp)
    have hq0:(0:Int)≤p:=by omega
    have hq1:(p:Int)<f.code.length:=by omega
    have et:=VF hp
    rw [et]
    clear hp et
    go_wp2_with fail
    go_round
    case rel=>exact⟨j+1,h1,.inr (by omega),by go_num,rfl⟩
    case measure=>simp [intOf];omega
   ·have et:=TG (l:=l) (j:=j) (by omega)
    rw [et]
    have E1:Hid (EL (l.drop n.toNat)= -1):=AA (TG (by omega))
    have E2:Hid (X8 n l.length=false):=AA (decide_eq_false (by omega))
    have hz:((n-(j:Int))==0)=false:=by simp;omega
    clear et
    go_wp2_with fail
    go_ret2
    rw [E1.out,E2.out]
    exact⟨rfl,rfl⟩
  ·have d0:decide (0<n-(j:Int))=false:=decide_eq_false h0
   have E0:j=n.toNat:=by omega
   have E2:Hid (X8 n l.length=((n-(j:Int))==0)):=AA (by unfold X8;rw [Bool.eq_iff_iff];simp only [decide_eq_true_eq,beq_iff_eq];omega)
   have E1:=AA E0
   clear E0
   go_wp2_with fail
   go_ret2
   rw [E2.out,←E1.out]
   exact⟨rfl,rfl⟩
theorem EB (n:Int) (k:Nat) (w:World) (hn: -9223372036854775808≤n∧n<9223372036854775808) (hk:k≤1000000):
 Calls prog 180 #[.int .i64 n,.int .i64 k] w fun e w'=>w=w'∧e= .returned (.bool (FE n k)):=by
 by_cases h0:0≤n
 ·have E:Hid (FE n k=decide (n<(k:Int))):=AA (by unfold FE;simp [h0])
  have d0:decide (0≤n)=true:=decide_eq_true h0
  go_enter func180,ntmps180
  go_wp2_with fail
  go_ret
  rw [E.out]
  exact⟨rfl,rfl⟩
 ·have E:Hid (FE n k=false):=AA (by unfold FE;exact decide_eq_false (by omega))
  have d0:decide (0≤n)=false:=decide_eq_false h0
  go_enter func180,ntmps180
  go_wp2_with fail
  go_ret
  rw [E.out]
  exact⟨rfl,rfl⟩
end
end Go.Proofs.YtlagonfamllgjaaGreatDoor
