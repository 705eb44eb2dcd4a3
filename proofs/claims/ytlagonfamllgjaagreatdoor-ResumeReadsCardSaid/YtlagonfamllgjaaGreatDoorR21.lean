/- Part 21 of the proof: VdP -/
import Derived.Test.YtlagonfamllgjaaGreatDoorR20
namespace Go.Proofs.YtlagonfamllgjaaGreatDoor
set_option linter.unusedVariables false
set_option linter.unusedSimpArgs false
set_option maxRecDepth 100000
set_option maxHeartbeats 4000000
open Go.RowKit Tryz
def Nu (n g:Nat) (u v:Int):List (Nat×TypeId×List Value):= [(n,169,[.pointer (some ⟨g,0,none⟩)]),(n+1,41,[.int .i64 u]),(n+1+1,3,[.int .i64 v])]
structure YF (w wr:World) (lo hi g:Nat) (x:Fx) (m:AP) (f:Bt) (c sc:Ai) (pc:Nat) (st:Cm) (s:ByteArray) (q:Int):Prop where
 wk:Wk wr lo g {x with ext:=Nu w.heap.size g 0 0} {st with shape:=s} q
 live:st.dead=false→s=st.shape
 Ep:Below lo w wr
 big:w.heap.size+1+1<wr.heap.size
 lock:Lock m f c pc sc st
 go:PV m f c.AB (f.code.length-pc) st=PV m f c.AB f.code.length (CO m f)
def wX (m:AP) (f:Bt) (c:Ai) (lo g:Nat) (x:Fx) (w:World) (e:Ending) (w':World):Prop:=Below lo w w'∧match PV m f c.AB f.code.length (CO m f)with
 | .inl q=>e= .returned (.tuple #[.int .i64 q.1,.int .i64 q.2])
 | .inr st'=>e= .returned (.tuple #[.int .i64 0,.int .i64 0])∧ ∃s q,Wk w' lo g x {st' with shape:=s} q
theorem YF.ext {w wr:World} {lo hi g:Nat} {x:Fx} {m:AP} {f:Bt} {c sc:Ai} {pc:Nat} {st:Cm} {s:ByteArray} {q:Int} (h:YF w wr lo hi g x m f c sc pc st s q):AQ wr w.heap.size 169 [.pointer (some ⟨g,0,none⟩)]∧AQ wr (w.heap.size+1) 41 [.int .i64 0]∧AQ wr (w.heap.size+1+1) 3 [.int .i64 0]:=by
 obtain⟨_,_,_,_,hk⟩:=h.wk
 exact⟨(hk.ex _ (List.mem_cons_self ..)).1,(hk.ex _ (List.mem_cons_of_mem _ (List.mem_cons_self ..))).1,(hk.ex _ (List.mem_cons_of_mem _ (List.mem_cons_of_mem _ (List.mem_cons_self ..)))).1⟩
theorem gM {w w1:World} {lo hi g:Nat} {x:Fx} {m:AP} {f:Bt} {c:Ai} {vS vF vO:Value} {bs:List Nat} (h:E5 w lo g x (CO m f) 0 vS vF vO bs) (hlo:lo≤w.heap.size) (hc:ctl f.code= .inr c)
 (hw:((w.alloc (.cells #[.pointer (some ⟨g,0,none⟩)] 169)).alloc (.cells #[.int .i64 0] 41)).alloc (.cells #[.int .i64 0] 3)=w1):YF w w1 lo hi g x m f c (Ck f.code.length) 0 (CO m f) Di 0:=by
 have hs:w1.heap.size=w.heap.size+3:=by rw [←hw];simp only [World.size_alloc]
 have hb:Below w.heap.size w w1:=by
  rw [←hw]
  exact(((Below.refl _ _).alloc (Nat.le_refl _) _).alloc (by simp only [World.size_alloc];omega) _).alloc (by simp only [World.size_alloc];omega) _
 have e1:AQ w1 w.heap.size 169 [.pointer (some ⟨g,0,none⟩)]:=by rw [←hw];exact((AQ.new w 169 [.pointer (some ⟨g,0,none⟩)]).alloc _).alloc _
 have e2:AQ w1 (w.heap.size+1) 41 [.int .i64 0]:=by
  have:=(AQ.new (w.alloc (.cells #[.pointer (some ⟨g,0,none⟩)] 169)) 41 [.int .i64 0]).alloc (.cells #[.int .i64 0] 3)
  rw [World.size_alloc] at this
  rw [←hw];exact this
 have e3:AQ w1 (w.heap.size+1+1) 3 [.int .i64 0]:=by
  have:=AQ.new ((w.alloc (.cells #[.pointer (some ⟨g,0,none⟩)] 169)).alloc (.cells #[.int .i64 0] 41)) 3 [.int .i64 0]
  simp only [World.size_alloc] at this
  rw [←hw];exact this
 refine⟨⟨_,_,_,_,h.withExt hb _ fun q hq=> ?_⟩,fun _=>rfl,hb.mono hlo,by omega,Kn hc,by rw [Nat.sub_zero]⟩
 unfold Nu at hq
 simp only [List.mem_cons,List.not_mem_nil,or_false] at hq
 rcases hq with rfl | rfl | rfl
 ·exact⟨by dsimp only;decide,Nat.le_refl _,e1⟩
 ·exact⟨by dsimp only;decide,by simp,e2⟩
 ·exact⟨by dsimp only;decide,by simp;omega,e3⟩
theorem l7 {w wr w':World} {lo hi g:Nat} {x:Fx} {m:AP} {f:Bt} {c sc:Ai} {pc:Nat} {st:Cm} {s:ByteArray} {q:Int} (h:YF w wr lo hi g x m f c sc pc st s q) (hxe:x.ext= []) (hk:Keep (fun k=>k≠w.heap.size+1∧k≠w.heap.size+1+1) wr w'):Wk w' lo g x {st with shape:=s} q:=by
 obtain⟨vS,vF,vO,bs,hw⟩:=h.wk
 obtain⟨_,e2,e3⟩:=h.ext
 have x3:=(hw.ex (w.heap.size+1+1,3,[.int .i64 0]) (List.mem_cons_of_mem _ (List.mem_cons_of_mem _ (List.mem_cons_self ..)))).2
 have ne: ∀ {e:TypeId} {v:Value} {m:Nat} {xs:List Value},wr.ownsRow lo e 1 v m xs→e≠41→e≠3→ ∀k,v.ownBlock=some k→k≠w.heap.size+1∧k≠w.heap.size+1+1:=fun hr h1 h2 k hv=>⟨fun e=>A_ hr e2 h1 (by rw [hv,e]),fun e=>A_ hr e3 h2 (by rw [hv,e])⟩
 have nb: ∀ {b:Nat} {t:TypeId} {xs:List Value},AQ wr b t xs→t≠41→t≠3→b≠w.heap.size+1∧b≠w.heap.size+1+1:=fun hb h1 h2=>⟨FR hb e2 h1,FR hb e3 h2⟩
 refine⟨vS,vF,vO,bs,?_⟩
 refine⟨hw.blk.keep hk (nb hw.blk (by decide) (by decide)),Ce hw.sh hk (ne hw.sh (by decide) (by decide)),Ce hw.fl hk (fun k hv=>⟨fun e=>A_ hw.fl e2 (by decide) (by rw [hv,e]),fun e=>x3 (by rw [hv,e])⟩),
  Ce hw.op hk (ne hw.op (by decide) (by decide)),hw.bl,fun k o b h1 h2=>⟨(hw.each k o b h1 h2).1,(hw.each k o b h1 h2).2.keep hk (nb (hw.each k o b h1 h2).2 (by decide) (by decide))⟩,hw.low,fun q hq=>absurd hq (by rw [hxe];simp),fun q hq=>absurd hq (by rw [hxe];simp)⟩
theorem K3 {W:World} {n g:Nat} {x:Fx} {pc:Int} (h:MC W g {x with ext:=Nu n g 0 0} pc):AQ W n 169 [.pointer (some ⟨g,0,none⟩)]∧AQ W (n+1) 41 [.int .i64 0]∧AQ W (n+1+1) 3 [.int .i64 0]:=
 ⟨h.2.2 _ (List.mem_cons_self ..),h.2.2 _ (List.mem_cons_of_mem _ (List.mem_cons_self ..)),h.2.2 _ (List.mem_cons_of_mem _ (List.mem_cons_of_mem _ (List.mem_cons_self ..)))⟩
theorem Sr {w wr:World} {lo hi g:Nat} {x:Fx} {m:AP} {f:Bt} {c:Ai} {pc:Nat} {err:Int} (hb:Below lo w wr) (hlo:lo≤w.heap.size) (hp:MC wr g {x with ext:=Nu w.heap.size g 0 0} pc) (hgo:PV m f c.AB f.code.length (CO m f)= .inl (err,(pc:Int))) {w':World}
 (hk:Keep (fun k=>k≠w.heap.size+1∧k≠w.heap.size+1+1) wr w'):wX m f c lo g x w (.returned (.tuple #[.int .i64 err,.int .i64 pc])) w':=by
 refine⟨hb.trans (hk.below (Nat.le_trans hlo hb.size) fun k hk=>by omega),?_⟩
 rw [hgo]
set_option maxHeartbeats 40000000 in
theorem sQ {lo hi g:Nat} {x:Fx} {m:AP} {f:Bt} {c:Ai} {A:Option Addr} {cc:Nat} (w:World) (h:Wk w lo g x (CO m f) 0) (hxe:x.ext= []) (md:zH w hi x m) (hhi:hi≤lo) (hlo:lo≤w.heap.size) (hm:J7 m) (hf:XI m f) (hc:ctl f.code= .inr c)
 (hel:Sq w lo x c.AB) (hcode:x.code= .slice A f.code.length cc) (hcr:(Ga.sl false).R w 0 hi [.slice A f.code.length cc] f.code) (hloc:x.loc=C8 m f) (hsr:x.sr=(CG m f.t).r)
 (htab: ∀w',Below hi w w'→Lib.TabIs prog w' "strings.asciiSpace" .u8 Lib.asciiSpaceTab):
 Calls prog 109 #[.pointer (some ⟨g,0,none⟩)] w fun e w'=>wX m f c lo g x w e w':=by
 have hmf: ∀(fn:Fn) (first cap:Array Value) (w:World),(Instr.makeFunc fn first cap).run prog w= .ok (.func fn first cap) w:=fun _ _ _ _=>rfl
 obtain⟨vS,vF,vO,bs,hk⟩:=h
 have hg0:=hk.blk.lt
 have HK:=AA hk;have zC:=AA md;have HEL:=AA hel;have l8:=AA hcode;have HCR:=AA hcr;have HLOC:=AA hloc;have M7:=AA hsr;have HTAB:=AA htab;have HM:=AA hm;have HF:=AA hf;have HC:=AA hc;have HXE:=AA hxe
 have J_:=hf.few
 obtain⟨i1,l9,WT,WU,YG⟩:=info_parts QZ
 have HI1:=AA l9;have HZ1:=AA WT;have Nr:=AA WU;have zS:=AA YG
 obtain⟨i0,GU,GV,GX,D8⟩:=info_parts JG
 have HI0:=AA GU;have HZ0:=AA GV;have Ym:=AA GX;have zN:=AA D8
 clear l9 WT WU YG GU GV GX D8
 clear hk md hel hcode hcr hloc hsr htab hm hf hc hxe
 go_enter_defers func109,ntmps109
 go_upto_region 2 with fail
 generalize hw1:World.alloc _ _=w1
 have HW0:=AA (gM (hi:=hi) HK.out hlo HC.out hw1)
 have hq0:=HW0.out.ext.1.cell 0
 have hq3:w1.cell? ⟨g,11,none⟩=some (.slice A f.code.length cc):=by
  obtain⟨_,_,_,_,hk⟩:=HW0.out.wk
  rw [←l8.out];exact hk.blk.cell 11
 change w1.cell? ⟨w.heap.size,0,none⟩=some (.pointer (some ⟨g,0,none⟩))at hq0
 clear hw1
 go_wp2_with fail
 go_loopw [14] (fun i wr=> ∃(pc:Nat) (sc:Ai) (st:Cm) (s:ByteArray) (q:Int),pc≤f.code.length∧i= .int .i64 pc∧YF w wr lo hi g x m f c sc pc st s q) (fun i _=>f.code.length-(intOf i).toNat)
 case atStart=>exact⟨0,_,_,_,_,Nat.zero_le _,rfl,HW0.out⟩
 case round=>
  obtain⟨pc,sc,st,s,q,hpc,rfl,hl⟩:=hrel
  have HL:=AA hl
  have ACK:(0:Int)≤pc:=by omega
  have hqb:=hl.ext.1.q 0 rfl
  have hbig:=hl.big
  clear hl HW0 hq0 hq3
  by_cases hlt:pc<f.code.length
  ·obtain⟨y,hy⟩: ∃y,f.code[pc]?=some y:=⟨_,List.getElem?_eq_getElem hlt⟩
   obtain⟨b,o,Gb,GH,eA,_,N7,hc0,hc1,hc2,hyB,hyl⟩:=EP (Rd.below HCR.out HL.out.Ep hhi) hy
   subst eA
   have Hy:=AA hy;have HYL:=AA hyl;have HYB:=AA hyB
   obtain⟨vS,vF,vO,bs,hk⟩:=HL.out.wk
   have AC8:=hk.blk.lt
   have hf20:(wr.alloc (.cells #[.int .u8 (y.op.toNat:Int),.int .i64 y.a,.slice Gb y.l.length GH] 122)).frozen? ⟨g,20,none⟩=false:=(hk.blk.alloc _).frozen 20
   have lT:(wr.alloc (.cells #[.int .u8 (y.op.toNat:Int),.int .i64 y.a,.slice Gb y.l.length GH] 122)).cell? ⟨g,20,none⟩=some (.int .i64 q):=(hk.blk.alloc _).cell 20
   have Ls:Hid (Below lo wr ((wr.setCell ⟨g,20,none⟩ (.int .i64 pc)).alloc (.cells #[.int .u8 (y.op.toNat:Int),.int .i64 y.a,.slice Gb y.l.length GH] 122))∧E5 ((wr.setCell ⟨g,20,none⟩ (.int .i64 pc)).alloc (.cells #[.int .u8 (y.op.toNat:Int),.int .i64 y.a,.slice Gb y.l.length GH] 122)) lo g {x with ext:=Nu w.heap.size g 0 0} {st with shape:=s} pc vS vF vO bs):=AA ⟨(hk.pc_ (pc:Int)).1.alloc (by simp;exact Nat.le_trans hlo HL.out.Ep.size) _,(hk.pc_ (pc:Int)).2.below ((Below.refl _ _).alloc (Nat.le_refl _) _)⟩
   have HGY:Hid (g<wr.heap.size):=AA AC8
   have hgy:wr.heap.size≠g:=by omega
   have wY:Hid (AQ ((wr.setCell ⟨g,20,none⟩ (.int .i64 pc)).alloc (.cells #[.int .u8 (y.op.toNat:Int),.int .i64 y.a,.slice Gb y.l.length GH] 122)) wr.heap.size 122 [.int .u8 (y.op.toNat:Int),.int .i64 y.a,.slice Gb y.l.length GH]):=AA (by have:=AQ.new (wr.setCell ⟨g,20,none⟩ (.int .i64 pc)) 122 [.int .u8 (y.op.toNat:Int),.int .i64 y.a,.slice Gb y.l.length GH];rw [show(wr.setCell ⟨g,20,none⟩ (.int .i64 pc)).heap.size=wr.heap.size from by simp] at this;exact this)
   have HB3:Hid (Below lo w ((wr.setCell ⟨g,20,none⟩ (.int .i64 pc)).alloc (.cells #[.int .u8 (y.op.toNat:Int),.int .i64 y.a,.slice Gb y.l.length GH] 122))):=AA (HL.out.Ep.trans Ls.out.1)
   have hqa:(wr.alloc (.cells #[.int .u8 (y.op.toNat:Int),.int .i64 y.a,.slice Gb y.l.length GH] 122)).cell? ⟨w.heap.size,0,none⟩=some (.pointer (some ⟨g,0,none⟩)):=(HL.out.ext.1.alloc _).cell 0
   have zT:=AA Ls.out.1
   clear hy hyl hyB hk
   go_upto_region 6 with fail
   have H3:=AA Ls.out.2
   generalize (wr.setCell ⟨g,20,none⟩ (.int .i64 pc)).alloc (.cells #[.int .u8 (y.op.toNat:Int),.int .i64 y.a,.slice Gb y.l.length GH] 122)=w3 at*
   have hx0:=wY.out.q 0 rfl
   have hqb3:w3.cell? ⟨w.heap.size,0,none⟩=some (.pointer (some ⟨g,0,none⟩)):=(H3.out.ex _ (List.mem_cons_self ..)).1.cell 0
   have hc19:=H3.out.blk.q 19 rfl
   clear hqb hqa hc0 hc1 hc2 hf20 lT Ls AC8
   have hdd:st.dead=true∨st.dead=false:=by cases st.dead<;>simp
   rcases(show(y.op.toNat=5∨y.op.toNat=6)∨(y.op.toNat≠5∧y.op.toNat≠6)from by omega)with hcls | hcls
   case' inl=>
    have hcl:Ah y.op=true:=by unfold Ah;exact decide_eq_true (by omega)
    rcases hcls with hcls | hcls
    case' inl=>have e5:((y.op.toNat:Int)==5)=true:=by simp;omega
    case' inr=>
     have e5:((y.op.toNat:Int)==5)=false:=by simp;omega
     have e6:((y.op.toNat:Int)==6)=true:=by simp;omega
    all_goals
     clear hcls
     rcases hdd with hd | hd
     case' inl=>
      obtain⟨oo,rr,hop⟩:=HL.out.lock.val.ne (HL.out.lock.MZ Hy.out)
      have AC9:=HL.out.lock.len Hy.out
      rw [hop] at AC9
      simp only [List.length_cons] at AC9
      have ho8:=HL.out.lock.op8 HM.out oo (by rw [hop];exact List.mem_cons_self ..)
      have htop:Bg st=oo:=by unfold Bg;rw [hop];rfl
      obtain⟨bt,bs',A',c',rfl,_,_,hbk,hlb,_⟩:=H3.out.head (o:=oo) (r:=rr) hop
      have HT:=AA (ZW _ H3.out (o:=oo) (r:=rr) hop (by omega))
      have HBT:=AA hbk
      have HDD:=AA hd
      have AC_:=AA htop
      have wM:=AA hcl
      rw [hd] at hc19
      clear hd hop htop hbk
      go_wp2_with fail
      refine(BX 36 _).mono ?_
      rintro e w4 ⟨rfl,rfl⟩
      go_wp2_with fail
      refine HT.out.mono ?_
      rintro e w4 ⟨rfl,⟨q0,rfl⟩⟩
      go_upto_region 10 with fail
      have H4:=AA (H3.out.drewN q0)
      have ADA:=AA (HBT.out.drewN' (n:=q0))
      have HY4:=AA (wY.out.drewN' (n:=q0))
      have Ct:=AA (below_drewN HB3.out q0)
      have HB4R:=AA (below_drewN zT.out q0)
      generalize w3.drewN q0=w4 at*
      have hq4:w4.cell? ⟨w.heap.size,0,none⟩=some (.pointer (some ⟨g,0,none⟩)):=(H4.out.ex _ (List.mem_cons_self ..)).1.cell 0
      have ht1:=ADA.out.q 1 rfl
      have ht4:=ADA.out.q 4 rfl
      have hc18:=H4.out.blk.q 18 rfl
      have zP:=H4.out.blk.frozen 18
      have hg4:=H4.out.blk.lt
      have ADB:(w4.drew).cell? ⟨g,18,none⟩=some (.string s):=hc18
      have ADC:(w4.drew).frozen? ⟨g,18,none⟩=false:=zP
      have hg4d:g<(w4.drew).heap.size:=hg4
      have hadd:binOp .add 9 (.string oo.base) (.string oo.s.r)=pure (.string (oo.base++oo.s.r)):=Fh _ _ _ (by omega)
      go_still_tail 11,(by kernel_rfl)
      change wpList _ _ _ _ _ w4.drew
      go_upto_region 11 with fail
      have hgy4:wr.heap.size≠g:=by have:=HGY.out;omega
      have HA5:Hid (E5 ((w4.setCell ⟨g,18,none⟩ (.string (oo.base++oo.s.r))).drew) lo g {x with ext:=Nu w.heap.size g 0 0} {st with shape:=oo.base++oo.s.r} pc vS vF vO (bt::bs')):=AA ((H4.out.shape (oo.base++oo.s.r)).2.drewN 1)
      have Dv:Hid (Below lo w ((w4.setCell ⟨g,18,none⟩ (.string (oo.base++oo.s.r))).drew)):=AA (below_drewN (Ct.out.setCell H4.out.low _) 1)
      have ADF:Hid (Below lo wr ((w4.setCell ⟨g,18,none⟩ (.string (oo.base++oo.s.r))).drew)):=AA (below_drewN (HB4R.out.setCell H4.out.low _) 1)
      have ADG:Hid (AQ ((w4.setCell ⟨g,18,none⟩ (.string (oo.base++oo.s.r))).drew) wr.heap.size 122 [.int .u8 (y.op.toNat:Int),.int .i64 y.a,.slice Gb y.l.length GH]):=AA ((HY4.out.far (p:=⟨g,18,none⟩) hgy4 _).drewN 1)
      generalize (w4.setCell ⟨g,18,none⟩ (.string (oo.base++oo.s.r))).drew=w5 at*
      have hq5:w5.cell? ⟨w.heap.size,0,none⟩=some (.pointer (some ⟨g,0,none⟩)):=(HA5.out.ex _ (List.mem_cons_self ..)).1.cell 0
      have hc185:=HA5.out.blk.q 18 rfl
      clear hc18 zP hg4 ADB ADC hg4d hadd ht1 ht4 hq4
      by_cases hbig2:256<oo.base.size+oo.s.r.size
      case pos=>
       have q1:decide ((oo.base.size:Int)+oo.s.r.size≤256)=false:=decide_eq_false (by omega)
       have q2:decide (((oo.base.size+oo.s.r.size:Nat):Int)≤256)=false:=decide_eq_false (by omega)
       have hb1:Ch st y= .inl 34:=by unfold Ch;rw [HDD.out,wM.out,AC_.out];simp [hbig2]
       have RH:Hid (PV m f c.AB f.code.length (CO m f)= .inl (34,(pc:Int))):=AA (by rw [←HL.out.go];exact RF Hy.out (by unfold ED;rw [hb1]))
       clear hb1 hbig2
       go_wp2_with fail
       refine(DI 34 _).mono ?_
       rintro e w6 ⟨rfl,rfl⟩
       go_wp2_with fail
       refine leaves_cons (f:=132) (args:= #[.pointer (some ⟨w.heap.size,0,none⟩),.pointer (some ⟨w.heap.size+1,0,none⟩),.pointer (some ⟨w.heap.size+1+1,0,none⟩)]) (by simp) (by simp [go_sem]) ?_
       have Sg:=AA HA5.out.Gu
       refine(Nt 34 w.heap.size (w.heap.size+1) (w.heap.size+1+1) g 0 0 {x with ext:=Nu w.heap.size g 0 0} pc _ (K3 Sg.out).1 (K3 Sg.out).2.1 (K3 Sg.out).2.2 (by omega) Sg.out).mono ?_
       rintro e u' wx ⟨rfl,rfl,hkx,hbe,hba⟩
       have hr1:=hbe.cell 0
       have hr2:=hba.cell 0
       simp [Leaves,settle,results,results109,go_sem,hr1,hr2]
       exact Sr (hi:=hi) Dv.out hlo Sg.out RH.out hkx
      case' neg=>
       have q1:decide ((oo.base.size:Int)+oo.s.r.size≤256)=true:=decide_eq_true (by omega)
       have q2:decide (((oo.base.size+oo.s.r.size:Nat):Int)≤256)=true:=decide_eq_true (by omega)
       obtain⟨st1,Fb⟩: ∃st1:Cm,st1= {st with shape:=oo.base++oo.s.r}:=⟨_,rfl⟩
       have HB1:Hid (Ch st y= .inr st1):=AA (by rw [Fb];unfold Ch;rw [HDD.out,wM.out,AC_.out];simp [hbig2])
       have HA:Hid (E5 w5 lo g {x with ext:=Nu w.heap.size g 0 0} st1 pc vS vF vO (bt::bs')):=AA (by rw [Fb];exact HA5.out)
       obtain⟨vO,bs,HA⟩: ∃vO bs,Hid (E5 w5 lo g {x with ext:=Nu w.heap.size g 0 0} st1 pc vS vF vO bs):=⟨_,_,HA⟩
       have zU:Hid (st1.shapes.length=pc):=AA (by rw [Fb];exact HL.out.lock.val.shapes)
       have ZY:Hid (st1.floors.length=pc):=AA (by rw [Fb];exact HL.out.lock.val.floors)
       have LM:=Dv
       have zV:=ADF
       have HY5:=ADG
       go_wp2_with fail
       refine(BX 34 _).mono ?_
       rintro e w6 ⟨rfl,rfl⟩
       clear Fb hbig2 HA5 Dv ADF ADG
       generalize w5=wA at*
     case' inr=>
      obtain⟨st1,Fb⟩: ∃st1,st1=st:=⟨_,rfl⟩
      have HB1:Hid (Ch st y= .inr st1):=AA (by rw [Fb];unfold Ch;rw [hd];rfl)
      have HA:Hid (E5 w3 lo g {x with ext:=Nu w.heap.size g 0 0} st1 pc vS vF vO bs):=AA (by rw [Fb];have h9:=H3.out;rw [HL.out.live hd] at h9;exact h9)
      have zU:Hid (st1.shapes.length=pc):=AA (by rw [Fb];exact HL.out.lock.val.shapes)
      have ZY:Hid (st1.floors.length=pc):=AA (by rw [Fb];exact HL.out.lock.val.floors)
      rw [hd] at hc19
      clear Fb hd
      go_wp2_with fail
      refine(BX 36 _).mono ?_
      rintro e w4 ⟨rfl,rfl⟩
      have LM:=HB3
      have zV:=zT
      have HY5:=wY
      generalize w3=wA at*
   case' inr=>
    rcases hdd with hd | hd
    case inl=>
     have e5:((y.op.toNat:Int)==5)=false:=by simp;omega
     have e6:((y.op.toNat:Int)==6)=false:=by simp;omega
     have hcl:Ah y.op=false:=by unfold Ah;exact decide_eq_false (by omega)
     clear hcls
     have hb1:Ch st y= .inl 36:=by unfold Ch;rw [hd,hcl];rfl
     have RH:Hid (PV m f c.AB f.code.length (CO m f)= .inl (36,(pc:Int))):=AA (by rw [←HL.out.go];exact RF Hy.out (by unfold ED;rw [hb1]))
     rw [hd] at hc19
     clear hb1 hd
     go_wp2_with fail
     refine(DI 36 _).mono ?_
     rintro e w4 ⟨rfl,rfl⟩
     go_wp2_with fail
     refine leaves_cons (f:=132) (args:= #[.pointer (some ⟨w.heap.size,0,none⟩),.pointer (some ⟨w.heap.size+1,0,none⟩),.pointer (some ⟨w.heap.size+1+1,0,none⟩)]) (by simp) (by simp [go_sem]) ?_
     have Sg:=AA H3.out.Gu
     refine(Nt 36 w.heap.size (w.heap.size+1) (w.heap.size+1+1) g 0 0 {x with ext:=Nu w.heap.size g 0 0} pc _ (K3 Sg.out).1 (K3 Sg.out).2.1 (K3 Sg.out).2.2 (by omega) Sg.out).mono ?_
     rintro e u' wx ⟨rfl,rfl,hkx,hbe,hba⟩
     have hr1:=hbe.cell 0
     have hr2:=hba.cell 0
     simp [Leaves,settle,results,results109,go_sem,hr1,hr2]
     exact Sr (hi:=hi) HB3.out hlo Sg.out RH.out hkx
    case' inr=>
     have e5:((y.op.toNat:Int)==5)=false:=by simp;omega
     have e6:((y.op.toNat:Int)==6)=false:=by simp;omega
     have hcl:Ah y.op=false:=by unfold Ah;exact decide_eq_false (by omega)
     clear hcls
     obtain⟨st1,Fb⟩: ∃st1,st1=st:=⟨_,rfl⟩
     have HB1:Hid (Ch st y= .inr st1):=AA (by rw [Fb];unfold Ch;rw [hd];rfl)
     have HA:Hid (E5 w3 lo g {x with ext:=Nu w.heap.size g 0 0} st1 pc vS vF vO bs):=AA (by rw [Fb];have h9:=H3.out;rw [HL.out.live hd] at h9;exact h9)
     have zU:Hid (st1.shapes.length=pc):=AA (by rw [Fb];exact HL.out.lock.val.shapes)
     have ZY:Hid (st1.floors.length=pc):=AA (by rw [Fb];exact HL.out.lock.val.floors)
     rw [hd] at hc19
     clear Fb hd
     go_wp2_with fail
     refine(BX 36 _).mono ?_
     rintro e w4 ⟨rfl,rfl⟩
     have LM:=HB3
     have zV:=zT
     have HY5:=wY
     generalize w3=wA at*
   all_goals
    obtain⟨AS,cS,rfl⟩:=CZ HA.out.sh
    have hwA:=HA.out.blk.lt
    have hla:lo≤wA.heap.size:=Nat.le_trans HA.out.low (Nat.le_of_lt hwA)
    have Qs:=AA ((HA.out.drewN 1).below ((Below.refl _ _).alloc (Nat.le_refl _) (.cells #[.string st1.shape] 9)))
    have ADH:=AA ((HY5.out.drewN 1).alloc (.cells #[.string st1.shape] 9))
    have HOB:=AA (row_one (wA.drewN 1) (.string st1.shape) 9)
    have hEB:AQ ((wA.drewN 1).alloc (.cells #[.string st1.shape] 9)) w.heap.size 169 [.pointer (some ⟨g,0,none⟩)]:=(Qs.out.ex _ (List.mem_cons_self ..)).1
    have hc12:=HA.out.blk.q 12 rfl
    have hc12d:(wA.drew).cell? ⟨g,12,none⟩=some (.slice AS st1.shapes.length cS):=hc12
    have hc12b:=Qs.out.blk.q 12 rfl
    have hS0:(wA.drew).cell? ⟨w.heap.size,0,none⟩=some (.pointer (some ⟨g,0,none⟩))∧(wA.drew).cell? ⟨g,18,none⟩=some (.string st1.shape):=⟨(HA.out.ex _ (List.mem_cons_self ..)).1.cell 0,HA.out.blk.cell 18⟩
    have hSB:((wA.drew).alloc (.cells #[.string st1.shape] 9)).cell? ⟨w.heap.size,0,none⟩=some (.pointer (some ⟨g,0,none⟩))∧((wA.drew).alloc (.cells #[.string st1.shape] 9)).cell? ⟨g,18,none⟩=some (.string st1.shape):=⟨hEB.cell 0,Qs.out.blk.cell 18⟩
    have hsn:st1.shapes.length≤4096:=by have:=zU.out;omega
    go_upto_region 12 with fail
    refine wp_region_noPanic ?_
    refine wp_region_held_drew (S:=fun W=>W.cell? ⟨w.heap.size,0,none⟩=some (.pointer (some ⟨g,0,none⟩))∧W.cell? ⟨g,18,none⟩=some (.string st1.shape)) (by kernel_rfl) hS0 (fun hHeld=> ?_)
    refine AZ (i:=0) (v:= ?_) rfl (by kernel_rfl) (fun _ _ _ h=>h) rfl (by intro w hSw;(try dsimp only at hSw);go_simp;try with_reducible rfl) hHeld ?_
    refine AZ (i:=1) (v:= ?_) rfl (by kernel_rfl) (fun _ _ _ h=>h) rfl (by intro w hSw;(try dsimp only at hSw);go_simp;try with_reducible rfl) hHeld ?_
    refine AZ (i:=2) (v:= ?_) rfl (by kernel_rfl) (fun _ _ _ h=>h) rfl (by intro w hSw;(try dsimp only at hSw);go_simp;try with_reducible rfl) hHeld ?_
    refine AZ (i:=3) (v:= ?_) rfl (by kernel_rfl) (fun _ _ _ h=>h) rfl (by intro w hSw;(try dsimp only at hSw);go_simp;try with_reducible rfl) hHeld ?_
    refine AZ (i:=4) (v:= ?_) rfl (by kernel_rfl) (fun _ _ _ h=>h) rfl (by intro w hSw;(try dsimp only at hSw);go_simp;try with_reducible rfl) hHeld ?_
    refine AZ (i:=6) (v:= ?_) rfl (by kernel_rfl) (fun _ _ _ h=>h) rfl (by intro w hSw;(try dsimp only at hSw);go_simp;try with_reducible rfl) hHeld ?_
    refine AZ (i:=7) (v:= ?_) rfl (by kernel_rfl) (fun _ _ _ h=>h) rfl (by intro w hSw;(try dsimp only at hSw);go_simp;try with_reducible rfl) hHeld ?_
    refine AZ (i:=8) (v:= ?_) rfl (by kernel_rfl) (fun _ _ _ h=>h) rfl (by intro w hSw;(try dsimp only at hSw);go_simp;try with_reducible rfl) hHeld ?_
    refine AZ (i:=9) (v:= ?_) rfl (by kernel_rfl) (fun _ _ _ h=>h) rfl (by intro w hSw;(try dsimp only at hSw);go_simp;try with_reducible rfl) hHeld ?_
    refine wpAnyH_ready (rs:= [5,10]) (by kernel_rfl) (by simp) ?_
    refine AllReadyH.cons rfl (fun K hK=> ?_) (AllReadyH.cons rfl (fun K hK=> ?_) AllReadyH.nil)
    all_goals
     go_simp
     first
     | (refine hK.out _ _ hS0 (fun FT=> ?_);clear hK K;refine wpAnyH_ready (rs:= [10]) (by kernel_rfl) (by simp) ?_)
     | (refine hK.out _ _ hSB (fun FT=> ?_);clear hK K;refine wpAnyH_ready (rs:= [5]) (by kernel_rfl) (by simp) ?_)
     refine AllReadyH.cons rfl (fun K hK=> ?_) AllReadyH.nil
     go_simp
     refine hK.out _ _ hSB (fun FT=> ?_)
     clear hK K
     refine wpAnyH_ready (rs:= [11]) (by kernel_rfl) (by simp) ?_
     refine AllReadyH.cons rfl (fun K hK=> ?_) AllReadyH.nil
     refine UU rfl (.tmp 71) (.tmp 76) 105 rfl lo 9 i1 _ 1 16 underlying105 HI1.out HZ1.out Nr.out zS.out rfl (by decide) _ st1.shapes.length (st1.shapes.map Value.string) rfl (by exact Qs.out.sh) ((wA.drew).heap.size+1) _ 1 1 [.string st1.shape] rfl rfl (by exact HOB.out) (by intro u hu;simp at hu;subst hu;rfl) (by unfold maxLen;omega) (by omega) (by simp;omega) ?_
     intro A7 c7 w7 h2 h3 h4
     have hE7:=Ay h3 hEB (fun e=>A_ Qs.out.sh hEB (by decide) e)
     have hG7:=Ay h3 Qs.out.blk (fun e=>A_ Qs.out.sh Qs.out.blk (by decide) e)
     have hc712:=hG7.cell 12
     have hf712:=hG7.frozen 12
     have hl7:=hG7.lt
     have Zo:=AA (Qs.out.V5 rfl h3 h2 (by simp;omega))
     have HY7:=AA (Ay h3 ADH.out (fun e=>A_ Qs.out.sh ADH.out (by decide) e))
     have hgy:wr.heap.size≠g:=by have:=HGY.out;omega
     refine hK.out _ _ ⟨hE7.cell 0,hG7.cell 18⟩ (fun FT=> ?_)
     clear hK K
     refine AZ (i:=12) (v:= ?_) rfl (by kernel_rfl) (fun _ _ _ h=>h) rfl (by intro w hSw;(try dsimp only at hSw);go_simp;try with_reducible rfl) FT ?_
     refine AZ (i:=13) (v:= ?_) rfl (by kernel_rfl) (fun _ _ _ h=>h) rfl (by intro w hSw;(try dsimp only at hSw);go_simp;try with_reducible rfl) FT ?_
     refine AZ (i:=14) (v:= ?_) rfl (by kernel_rfl) (fun _ _ _ h=>h) rfl (by intro w hSw;(try dsimp only at hSw);go_simp;try with_reducible rfl) FT ?_
     refine wpAnyH_ready (rs:= [15]) (by kernel_rfl) (by simp) ?_
     refine AllReadyH.cons rfl (fun K hK=> ?_) AllReadyH.nil
     go_simp
     refine hK.out _ _ ⟨(hE7.far (p:=⟨g,12,none⟩) (FR hE7 hG7 (by decide)) _).cell 0,(hG7.set 12 _).cell 18⟩ (fun FT=> ?_)
     clear hK K
     refine wpAnyH_done (by kernel_rfl) ?_ _
     refine NoPanic.normal ?_
     have HB2:=AA (LM.out.trans ((below_drewN (Below.refl _ _) 1).trans (((Below.refl _ _).alloc (by exact hla) _).trans Zo.out.1)))
     have SA:=AA (zV.out.trans ((below_drewN (Below.refl _ _) 1).trans (((Below.refl _ _).alloc (by exact hla) _).trans Zo.out.1)))
     have HY2:=AA (HY7.out.far (p:=⟨g,12,none⟩) hgy (.slice A7 (st1.shapes.length+1) c7))
     have HA2:=AA Zo.out.2
     generalize w7.setCell ⟨g,12,none⟩ (.slice A7 (st1.shapes.length+1) c7)=wC at*
     have hC0:wC.cell? ⟨w.heap.size,0,none⟩=some (.pointer (some ⟨g,0,none⟩)):=(HA2.out.ex _ (List.mem_cons_self ..)).1.cell 0
     have ADI:=HA2.out.blk.q 16 rfl
     have hC18:=HA2.out.blk.q 18 rfl
     have hlC:=HA2.out.blk.lt
     have iT:=HA2.out.blk.frozen 16
     go_upto_region 13 with fail
     go_still_tail 12,(by kernel_rfl)
     change wpList _ _ _ _ _ wC.drew
     have ADJ:(wC.drew).cell? ⟨g,16,none⟩=some (.int .i64 (st1.high:Int)):=ADI
     have hfCd:(wC.drew).frozen? ⟨g,16,none⟩=false:=iT
     have hlCd:g<(wC.drew).heap.size:=hlC
     go_upto_region 14 with fail
     have hmx:((max st1.high st1.shape.size:Nat):Int)=max (st1.high:Int) (st1.shape.size:Int):=by omega
     have HA3:Hid (E5 ((wC.setCell ⟨g,16,none⟩ (.int .i64 (max (st1.high:Int) (st1.shape.size:Int)))).drew) lo g {x with ext:=Nu w.heap.size g 0 0} {({st1 with shapes:=st1.shapes++ [st1.shape]}:Cm)with high:=max st1.high st1.shape.size} pc (.slice A7 (st1.shapes.length+1) c7) vF vO bs):=AA (by rw [←hmx];exact(HA2.out.high (max st1.high st1.shape.size)).2.drewN 1)
     have yT:Hid (Below lo w ((wC.setCell ⟨g,16,none⟩ (.int .i64 (max (st1.high:Int) (st1.shape.size:Int)))).drew)):=AA (below_drewN (HB2.out.setCell HA2.out.low _) 1)
     have HBRD:Hid (Below lo wr ((wC.setCell ⟨g,16,none⟩ (.int .i64 (max (st1.high:Int) (st1.shape.size:Int)))).drew)):=AA (below_drewN (SA.out.setCell HA2.out.low _) 1)
     have HYD:Hid (AQ ((wC.setCell ⟨g,16,none⟩ (.int .i64 (max (st1.high:Int) (st1.shape.size:Int)))).drew) wr.heap.size 122 [.int .u8 (y.op.toNat:Int),.int .i64 y.a,.slice Gb y.l.length GH]):=AA ((HY2.out.far (p:=⟨g,16,none⟩) hgy _).drewN 1)
     clear hmx ADI hC18 hC0 ADJ iT hfCd hlC hlCd HB2 SA HY2 HA2 Zo HY7
     generalize (wC.setCell ⟨g,16,none⟩ (.int .i64 (max (st1.high:Int) (st1.shape.size:Int)))).drew=wD at*
     obtain⟨AF,cF,rfl⟩:=CZ HA3.out.fl
     have hld:lo≤wD.heap.size:=Nat.le_trans HA3.out.low (Nat.le_of_lt HA3.out.blk.lt)
     have WC:=AA ((HA3.out.drewN 1).below ((Below.refl _ _).alloc (Nat.le_refl _) (.cells #[.int .i64 (-1)] 3)))
     have HYF:=AA ((HYD.out.drewN 1).alloc (.cells #[.int .i64 (-1)] 3))
     have Jt:=AA (row_one (wD.drewN 1) (.int .i64 (-1)) 3)
     have hEF:AQ ((wD.drewN 1).alloc (.cells #[.int .i64 (-1)] 3)) w.heap.size 169 [.pointer (some ⟨g,0,none⟩)]:=(WC.out.ex _ (List.mem_cons_self ..)).1
     have hc15:=HA3.out.blk.q 15 rfl
     have hc15d:(wD.drew).cell? ⟨g,15,none⟩=some (.slice AF st1.floors.length cF):=hc15
     have ADK:=WC.out.blk.q 15 rfl
     have hc15c:((wD.alloc (.cells #[.int .i64 (-1)] 3)).drew).cell? ⟨g,15,none⟩=some (.slice AF st1.floors.length cF):=ADK
     have hT0:(wD.drew).cell? ⟨w.heap.size,0,none⟩=some (.pointer (some ⟨g,0,none⟩)):=(HA3.out.ex _ (List.mem_cons_self ..)).1.cell 0
     have hTB:=hEF.q 0 rfl
     have hfn:st1.floors.length≤4096:=by have:=ZY.out;omega
     refine wp_region_noPanic ?_
     refine wp_region_held_drew (S:=fun W=>W.cell? ⟨w.heap.size,0,none⟩=some (.pointer (some ⟨g,0,none⟩))) (by kernel_rfl) hT0 (fun hHeld=> ?_)
     refine AZ (i:=0) (v:= ?_) rfl (by kernel_rfl) (fun _ _ _ h=>h) rfl (by intro w hSw;(try dsimp only at hSw);go_simp;try with_reducible rfl) hHeld ?_
     refine AZ (i:=1) (v:= ?_) rfl (by kernel_rfl) (fun _ _ _ h=>h) rfl (by intro w hSw;(try dsimp only at hSw);go_simp;try with_reducible rfl) hHeld ?_
     refine AZ (i:=2) (v:= ?_) rfl (by kernel_rfl) (fun _ _ _ h=>h) rfl (by intro w hSw;(try dsimp only at hSw);go_simp;try with_reducible rfl) hHeld ?_
     refine AZ (i:=3) (v:= ?_) rfl (by kernel_rfl) (fun _ _ _ h=>h) rfl (by intro w hSw;(try dsimp only at hSw);go_simp;try with_reducible rfl) hHeld ?_
     refine AZ (i:=4) (v:= ?_) rfl (by kernel_rfl) (fun _ _ _ h=>h) rfl (by intro w hSw;(try dsimp only at hSw);go_simp;try with_reducible rfl) hHeld ?_
     refine wpAnyH_ready (rs:= [5,6]) (by kernel_rfl) (by simp) ?_
     refine AllReadyH.cons rfl (fun K hK=> ?_) (AllReadyH.cons rfl (fun K hK=> ?_) AllReadyH.nil)
     all_goals
      go_simp
      first
      | (refine hK.out _ _ hT0 (fun FT=> ?_);clear hK K;refine wpAnyH_ready (rs:= [6]) (by kernel_rfl) (by simp) ?_)
      | (refine hK.out _ _ hTB (fun FT=> ?_);clear hK K;refine wpAnyH_ready (rs:= [5]) (by kernel_rfl) (by simp) ?_)
      refine AllReadyH.cons rfl (fun K hK=> ?_) AllReadyH.nil
      go_simp
      refine hK.out _ _ hTB (fun FT=> ?_)
      clear hK K
      refine wpAnyH_ready (rs:= [7]) (by kernel_rfl) (by simp) ?_
      refine AllReadyH.cons rfl (fun K hK=> ?_) AllReadyH.nil
      refine UU rfl (.tmp 101) (.tmp 102) 23 rfl lo 3 i0 _ 1 8 underlying23 HI0.out HZ0.out Ym.out zN.out rfl (by decide) _ st1.floors.length (st1.floors.map iv) rfl (by exact WC.out.fl) ((wD.drew).heap.size+1) _ 1 1 [.int .i64 (-1)] rfl rfl (by exact Jt.out) (by intro u hu;simp at hu;subst hu;rfl) (by unfold maxLen;omega) (by omega) (by simp;omega) ?_
      intro A9 c9 w9 h2 h3 h4
      have hE9:=Ay h3 hEF (WC.out.ex _ (List.mem_cons_self ..)).2
      have hG9:=Ay h3 WC.out.blk (fun e=>A_ WC.out.fl WC.out.blk (by decide) e)
      have hc915:=hG9.cell 15
      have hf915:=hG9.frozen 15
      have hl9:=hG9.lt
      have HSF:=AA (WC.out.sP (v:= -1) rfl h3 h2 h4 (by simp;omega))
      have HY9:=AA (Ay h3 HYF.out (fun e=>A_ WC.out.fl HYF.out (by decide) e))
      refine hK.out _ _ (hE9.cell 0) (fun FT=> ?_)
      clear hK K
      refine AZ (i:=8) (v:= ?_) rfl (by kernel_rfl) (fun _ _ _ h=>h) rfl (by intro w hSw;(try dsimp only at hSw);go_simp;try with_reducible rfl) FT ?_
      refine AZ (i:=9) (v:= ?_) rfl (by kernel_rfl) (fun _ _ _ h=>h) rfl (by intro w hSw;(try dsimp only at hSw);go_simp;try with_reducible rfl) FT ?_
      refine AZ (i:=10) (v:= ?_) rfl (by kernel_rfl) (fun _ _ _ h=>h) rfl (by intro w hSw;(try dsimp only at hSw);go_simp;try with_reducible rfl) FT ?_
      refine wpAnyH_ready (rs:= [11]) (by kernel_rfl) (by simp) ?_
      refine AllReadyH.cons rfl (fun K hK=> ?_) AllReadyH.nil
      go_simp
      refine hK.out _ _ ((hE9.far (p:=⟨g,15,none⟩) (FR hE9 hG9 (by decide)) _).cell 0) (fun FT=> ?_)
      clear hK K
      refine wpAnyH_done (by kernel_rfl) ?_ _
      refine NoPanic.normal ?_
      have HBE:=AA (yT.out.trans ((below_drewN (Below.refl _ _) 1).trans (((Below.refl _ _).alloc (by exact hld) _).trans HSF.out.1)))
      have ADM:=AA (HBRD.out.trans ((below_drewN (Below.refl _ _) 1).trans (((Below.refl _ _).alloc (by exact hld) _).trans HSF.out.1)))
      have HYE:=AA (HY9.out.far (p:=⟨g,15,none⟩) hgy (.slice A9 (st1.floors.length+1) c9))
      have HA4:=AA HSF.out.2
      have hwl9:(w9.setCell ⟨g,15,none⟩ (.slice A9 (st1.floors.length+1) c9)).heap.size=w9.heap.size:=by simp
      generalize w9.setCell ⟨g,15,none⟩ (.slice A9 (st1.floors.length+1) c9)=wE at*
      have hE0:wE.cell? ⟨w.heap.size,0,none⟩=some (.pointer (some ⟨g,0,none⟩)):=(HA4.out.ex _ (List.mem_cons_self ..)).1.cell 0
      have hy0:=HYE.out.q 0 rfl
      have hy1:=HYE.out.q 1 rfl
      have hy2:=HYE.out.q 2 rfl
      have Wz:=AA (HL.out.lock.row HM.out HC.out Hy.out HB1.out)
      have hins:Aq y=0:=HF.out.ins y (List.mem_of_getElem? Hy.out)
      have MG:Hid (Gv m f c.AB pc (Co st1) y lo hi g {x with ext:=Nu w.heap.size g 0 0} wE (.slice Gb y.l.length GH)):=AA ⟨⟨⟨_,_,_,_,HA4.out⟩,⟨(zC.out.below HBE.out hhi).rd⟩,hhi,Nat.le_trans HA4.out.low (Nat.le_of_lt HA4.out.blk.lt),HM.out,HF.out,HYB.out,Wz.out.top,Wz.out.ne,Wz.out.size,HLOC.out,M7.out,Wz.out.fl,Wz.out.ops,hins⟩,(HEL.out.below HBE.out),(by rw [(Pt HC.out).AB];omega),Wz.out.live,Wz.out.shut,Wz.out.opn,Rd.below HYL.out ADM.out hhi,fun w' hw'=>HTAB.out w' ((HBE.out.mono hhi).trans hw')⟩
      clear hins
      go_wp2_with fail
      refine(zR MG.out).mono ?_
      rintro e w8 ⟨PE,hm8⟩
      cases hr:EA m f c.AB pc (Co st1) y with
      | inl err=>
       rw [hr] at hm8
       obtain⟨rfl,hp8⟩:=hm8
       have RH:Hid (PV m f c.AB f.code.length (CO m f)= .inl (err,(pc:Int))):=AA (by rw [←HL.out.go];exact RF Hy.out (by unfold ED;rw [HB1.out];exact hr))
       clear hr
       go_wp2_with fail
       refine leaves_cons (f:=132) (args:= #[.pointer (some ⟨w.heap.size,0,none⟩),.pointer (some ⟨w.heap.size+1,0,none⟩),.pointer (some ⟨w.heap.size+1+1,0,none⟩)]) (by simp) (by simp [go_sem]) ?_
       have Sg:=AA hp8
       refine(Nt err w.heap.size (w.heap.size+1) (w.heap.size+1+1) g 0 0 {x with ext:=Nu w.heap.size g 0 0} pc _ (K3 Sg.out).1 (K3 Sg.out).2.1 (K3 Sg.out).2.2 (by omega) Sg.out).mono ?_
       rintro e u' wx ⟨rfl,rfl,hkx,hbe,hba⟩
       have hr1:=hbe.cell 0
       have hr2:=hba.cell 0
       simp [Leaves,settle,results,results109,go_sem,hr1,hr2]
       exact Sr (hi:=hi) (HBE.out.trans PE) hlo Sg.out RH.out hkx
      | inr st2=>
       rw [hr] at hm8
       obtain⟨rfl,s2,hk8,hs2⟩:=hm8
       have hst:ED m f c.AB pc st y= .inr st2:=by unfold ED;rw [HB1.out];exact hr
       have HST:=AA hst;have HK8:=AA hk8;have HS2:=AA hs2;have Vq:=AA PE
       clear hr hk8 hs2 PE hst
       go_wp2_with fail
       obtain⟨sc2,_,hlk⟩:=HL.out.lock.step Hy.out
       have hlen8:=Vq.out.size
       have hlenE:=ADM.out.size
       exact⟨⟨pc+1,sc2,st2,s2,pc,by omega,by go_num,⟨HK8.out,HS2.out,HBE.out.trans Vq.out,by omega,hlk HM.out (HF.out.ins y (List.mem_of_getElem? Hy.out)) _ _ HST.out,by rw [←X_ Hy.out HST.out];exact HL.out.go⟩⟩,by simp [intOf];omega⟩
  ·obtain rfl:pc=f.code.length:=by omega
   have he1:=HL.out.ext.2.1.q 0 rfl
   have he2:=HL.out.ext.2.2.q 0 rfl
   have hf1:=HL.out.ext.2.1.frozen 0
   have hf2:=HL.out.ext.2.2.frozen 0
   have hgo:Hid (PV m f c.AB f.code.length (CO m f)= .inr st):=AA (by rw [←HL.out.go,Nat.sub_self];rfl)
   have IK:Hid (Keep (fun k=>k≠w.heap.size+1∧k≠w.heap.size+1+1) wr ((wr.setCell ⟨w.heap.size+1,0,none⟩ (.int .i64 0)).setCell ⟨w.heap.size+1+1,0,none⟩ (.int .i64 0))):=AA (((Keep.refl _ _).setCell (p:=⟨w.heap.size+1,0,none⟩) (by simp) _).setCell (p:=⟨w.heap.size+1+1,0,none⟩) (by simp) _)
   have hr1:((wr.setCell ⟨w.heap.size+1,0,none⟩ (.int .i64 0)).setCell ⟨w.heap.size+1+1,0,none⟩ (.int .i64 0)).cell? ⟨w.heap.size+1,0,none⟩=some (.int .i64 0):=((HL.out.ext.2.1.set 0 (.int .i64 0)).far (p:=⟨w.heap.size+1+1,0,none⟩) (by simp) _).cell 0
   have hr2:((wr.setCell ⟨w.heap.size+1,0,none⟩ (.int .i64 0)).setCell ⟨w.heap.size+1+1,0,none⟩ (.int .i64 0)).cell? ⟨w.heap.size+1+1,0,none⟩=some (.int .i64 0):=((HL.out.ext.2.2.far (p:=⟨w.heap.size+1,0,none⟩) (by simp) _).set 0 (.int .i64 0)).cell 0
   go_wp2_with fail
   generalize (wr.setCell ⟨w.heap.size+1,0,none⟩ (.int .i64 0)).setCell ⟨w.heap.size+1+1,0,none⟩ (.int .i64 0)=w5 at*
   refine leaves_cons (f:=132) (args:= #[.pointer (some ⟨w.heap.size,0,none⟩),.pointer (some ⟨w.heap.size+1,0,none⟩),.pointer (some ⟨w.heap.size+1+1,0,none⟩)]) (by simp) (by simp [go_sem]) ?_
   refine(gL _ _ _ _).mono ?_
   rintro e u' wx ⟨rfl,rfl,rfl⟩
   simp [Leaves,settle,results,results109,go_sem,hr1,hr2]
   refine⟨HL.out.Ep.trans (IK.out.below (Nat.le_trans hlo HL.out.Ep.size) fun k hk=>by omega),?_⟩
   rw [hgo.out]
   exact⟨rfl,s,q,l7 HL.out HXE.out IK.out⟩
end Go.Proofs.YtlagonfamllgjaaGreatDoor
