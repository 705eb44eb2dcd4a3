/- Part 27 of the proof: DecG -/
import Derived.Test.YtejbcledkhioeaaGreatDoorQ14
import Derived.Test.YtejbcledkhioeaaGreatDoorQ26
namespace Go.Proofs.YtejbcledkhioeaaGreatDoor
set_option linter.unusedVariables false
set_option linter.unusedSimpArgs false
set_option maxRecDepth 100000
set_option maxHeartbeats 4000000
open Go.RowKit Tryz
def qR (l:List UInt8) (p:Nat) (lo:Nat) (W:World) (v:Value) (q:Nat):Prop:= ∃(x:DL) (L:Option Addr) (k c:Nat),v= .agg #[.int .u8 (x.op.toNat:Int),.int .i64 x.a,.slice L k c]∧JA.R W lo W.heap.size [.int .u8 (x.op.toNat:Int),.int .i64 x.a,.slice L k c] x∧Ai x=0∧K_ l p (Iw x) q
def qU (l:List UInt8) (p:Nat) (w:World) (e:Ending) (w':World):Prop:=Below w.heap.size w w'∧ ∃(v:Value) (nx er:Int),e= .returned (.tuple #[v,.int .i64 nx,.int .i64 er])∧((er≠0∧v= .agg #[.int .u8 0,.int .i64 0,.slice none 0 0])∨(er=0∧ ∃q:Nat,nx=q∧qR l p w.heap.size w' v q))
theorem Zp {fn:Func} {p u u2:Tmp} {ty:TypeId} (h:fn.results= #[.cell p ty,.tmp u,.tmp u2]) (tmps:Array Value) (P:Program) (w:World):
 (results fn tmps).run P w=((asAddr (tmps.getD p undef)).run P w).andThen fun a w₁=>((loadVar ty a).run P w₁).andThen fun v w₂=> .ok (.tuple #[v,tmps.getD u undef,tmps.getD u2 undef]) w₂:=by
 simp only [results,h]
 simp [Sem.run_bind,Result.andThen]
theorem Jt {fn:Func} {p u u2:Tmp} {ty:TypeId} {tmps:Array Value} {P:Program} {w:World} {a:Addr} {v v2 v3:Value} (h:fn.results= #[.cell p ty,.tmp u,.tmp u2]) (hp:tmps.getD p undef= .pointer (some a)) (hu:tmps.getD u undef=v2) (hu2:tmps.getD u2 undef=v3) (hl:(loadVar ty a).run P w= .ok v w):
 (results fn tmps).run P w= .ok (.tuple #[v,v2,v3]) w:=by
 rw [Zp h,hp,hu,hu2]
 show((loadVar ty a).run P w).andThen _=_
 rw [hl]
 rfl
theorem Vg {W:World} {g:Nat} {y0 y1 y2:Value} (h:AL W g 53 [y0,y1,y2]):(loadVar 53 ⟨g,0,none⟩).run prog W= .ok (.agg #[y0,y1,y2]) W:=
 run_loadVar_row W g 53 53 #[y0,y1,y2] (0,0) _ h underlying53 rfl (by kernel_rfl)
def w_ (l:List UInt8) (p:Nat) (w wx:World) (ri gx:Nat) (A:Option Addr) (n c op:Nat):Prop:=
 Below w.heap.size w wx∧AL wx w.heap.size 53 [.int .u8 0,.int .i64 0,.slice none 0 0]∧ ∃(q:Nat) (er a:Int) (L:Option Addr) (k cL:Nat),Ri wx ri A n c q er∧AL wx gx 53 [.int .u8 (op:Nat),.int .i64 a,.slice L k cL]∧
  (er=0→ ∃y:DL,y.op.toNat=op∧y.a=a∧JA.R wx (w.heap.size+1) wx.heap.size [.int .u8 (op:Nat),.int .i64 a,.slice L k cL] y∧Ai y=0∧K_ l p (Iw y) q)
theorem YI {l:List UInt8} {p:Nat} {w w7:World} {ri gx:Nat} {A:Option Addr} {n c op q:Nat} {er:Int} {x:UInt8} (hx:x.toNat=op) (h1:Below w.heap.size w w7) (hz:AL w7 w.heap.size 53 [.int .u8 0,.int .i64 0,.slice none 0 0]) (hr:Ri w7 ri A n c q er) (hb:AL w7 gx 53 [.int .u8 (op:Nat),.int .i64 0,.slice none 0 0]) (hg:w.heap.size<gx) (hrg:ri≠gx) (v:Int) (hv:er=0→Rd.ER v) (hok:er=0→Ai ⟨x,v,[]⟩=0∧K_ l p (Iw ⟨x,v,[]⟩) q):
 w_ l p w (w7.setCell ⟨gx,1,none⟩ (.int .i64 v)) ri gx A n c op:=by
 have hk:Keep (fun k=>k≠gx) w7 (w7.setCell ⟨gx,1,none⟩ (.int .i64 v)):=(Keep.refl _ _).setCell (fun h=>h rfl) _
 exact⟨h1.setCell (p:=⟨gx,1,none⟩) (Nat.le_of_lt hg) _,hz.keep hk (Nat.ne_of_lt hg),q,er,v,none,0,0,AL.keep hr hk hrg,hb.set 1 _,fun h=>⟨⟨x,v,[]⟩,hx,rfl,Dw.2 ⟨_,by rw [←hx];rfl,hv h,W_⟩,(hok h).1,(hok h).2⟩⟩
theorem Ww {x:UInt8} {r:XD} {M v:Nat} (hr:DU x.toNat=some r) (hM:Aw r=(0,(M:Int))) (hn:r.takes≠0∧r.takes≠8∧r.takes≠3) (hv:v≤M):Ai ⟨x,(v:Int),[]⟩=0∧Iw ⟨x,(v:Int),[]⟩= [x]++enc v:=by
 constructor
 ·unfold Ai
  dsimp only
  rw [hr]
  dsimp only
  rw [hM]
  dsimp only
  rw [if_neg (by omega),if_pos hn.2.2,if_neg (by simp)]
 ·rw [Q9 hr,if_neg hn.1,if_neg hn.2.1,if_neg hn.2.2]
  rfl
def qV (l:List UInt8) (p:Nat) (x:UInt8) (w:World) (ri gx:Nat) (A:Option Addr) (n c op N:Nat) (i:Value) (wr:World):Prop:=
 ∃(k q:Nat) (er:Int) (L:Option Addr) (cL:Nat) (ns:List Int),k≤N∧i= .int .u64 (k:Int)∧Below w.heap.size w wr∧AL wr w.heap.size 53 [.int .u8 0,.int .i64 0,.slice none 0 0]∧Ri wr ri A n c q er∧AL wr gx 53 [.int .u8 (op:Nat),.int .i64 0,.slice L k cL]∧
  wr.ownsRow (gx+1) 3 1 (.slice L k cL) k (ns.map (Value.int .i64))∧ns.length=k∧(∀n∈ns,0≤n∧n≤2147483647)∧(er=0→1≤N∧K_ l p (([x]++enc N)++ns.flatMap (fun n=>enc n.toNat)) q)
theorem qW {l:List UInt8} {A:Option Addr} {n c B ri q:Nat} {er:Int} {w:World} (hI:UJ w B l A n c) (hb:Ri w ri A n c q er):
 Calls prog 193 #[.pointer (some ⟨ri,0,none⟩),.int .u64 0,.int .u64 2147483647] w (fun e w'=>Keep (fun k=>k≠ri) w w'∧ ∃(v q':Nat) (er':Int),e= .returned (.int .u64 (v:Int))∧v≤2147483647∧Ri w' ri A n c q' er'∧(er'=0→er=0∧K_ l q (enc v) q')):=by
 by_cases h:er=0
 ·subst h
  refine(Sn 0 2147483647 hI hb).mono ?_
  rintro e w' ⟨hk,⟨v,q',rfl,_,h2,h3,h4⟩ | ⟨er',h1,rfl,h2⟩⟩
  ·exact⟨hk,v,q',0,rfl,h2,h4,fun _=>⟨rfl,h3⟩⟩
  ·exact⟨hk,0,q,er',rfl,by decide,h2,fun e=>absurd e h1⟩
 ·refine(V8 0 2147483647 h hb).mono ?_
  rintro e w' ⟨rfl,rfl⟩
  exact⟨Keep.refl _ _,0,q,er,rfl,by decide,hb,fun e=>absurd e h⟩
theorem xA {x:UInt8} {r:XD} {N:Nat} {ns:List Int} (hr:DU x.toNat=some r) (h3:r.takes=3) (hN:N≤16) (h1:1≤N) (hl:ns.length=N) (hb: ∀n∈ns,0≤n∧n≤2147483647):Ai ⟨x,0,ns⟩=0∧Iw ⟨x,0,ns⟩=([x]++enc N)++ns.flatMap (fun n=>enc n.toNat):=by
 constructor
 ·unfold Ai
  dsimp only
  rw [hr]
  dsimp only
  rw [if_neg (by simp [Aw,h3]),if_neg (by simp [h3]),if_neg (by omega),if_pos (List.all_eq_true.2 (fun n hn=>decide_eq_true (hb n hn)))]
 ·rw [Q9 hr,if_neg (by omega),if_neg (by omega),if_pos h3]
  simp [hl]
section
variable {l:List UInt8} {A:Option Addr} {n c B:Nat} {p:Nat} {w:World}
theorem Wx (hI:UJ w B l A n c) (hp:p≤l.length) (hB:B≤w.heap.size) (htab:Lib.TabIs prog w "strings.asciiSpace" .u8 Lib.asciiSpaceTab):
 Calls prog 154 #[.slice A n c,.int .i64 p] w (qU l p w):=by
 have Ht:=AA (Lib.tabBelow_of_tabIs htab)
 have HI:=AA hI
 have hn:=hI.len
 clear htab
 have hp0:(0:Int)≤p:=by omega
 have hpn:(p:Int)≤n:=by omega
 have d0:decide ((p:Int)<0)=false:=decide_eq_false (by omega)
 have d1:decide (n<p)=false:=decide_eq_false (by omega)
 by_cases hpl:p=l.length
 ·have hd:((p:Int)==(n:Int))=true:=beq_iff_eq.2 (by omega)
  clear hI hp hpl hn
  go_enter func154,ntmps154
  go_wp2_with fail
  refine bodyPost_ret (Jt rfl rfl rfl rfl (Vg (AL.new w 53 [.int .u8 0,.int .i64 0,.slice none 0 0]))) rfl ?_
  exact⟨(Below.refl _ _).alloc (Nat.le_refl _) _,_,_,_,rfl,.inl ⟨by decide,rfl⟩⟩
 obtain⟨x,hx⟩: ∃x,l[p]?=some x:=⟨_,List.getElem?_eq_getElem (by omega)⟩
 have hd:((p:Int)==(n:Int))=false:=beq_eq_false_iff_ne.2 (by omega)
 have HX:=AA (Zm hx)
 obtain⟨g,o,rfl,hg,hc⟩: ∃g o,A=some ⟨g,o,none⟩∧g<B∧w.cell? ⟨g,o+p,none⟩=some (.int .u8 (x.toNat:Int)):=by
  obtain⟨g,o,h1,h2,h3⟩:=Row.at hI.row (j:=p) (u:=bv x) (by rw [List.getElem?_map,hx];rfl)
  exact⟨g,o,h1,h2,h3⟩
 have hpn2:(p:Int)<n:=by omega
 have hgl:g<w.heap.size:=by omega
 have hwp:wrap64 ((p:Int)+1)=((p+1:Nat):Int):=by have:=hI.le;unfold wrap64;omega
 clear hI hp hpl hn hx
 go_enter func154,ntmps154
 go_wp2_with fail
 generalize hw1:w.alloc _=w1
 have H1:Hid (Below w.heap.size w w1):=by rw [←hw1];exact AA ((Below.refl _ _).alloc (Nat.le_refl _) _)
 have HZ1:Hid (AL w1 w.heap.size 53 [.int .u8 0,.int .i64 0,.slice none 0 0]):=by rw [←hw1];exact AA (AL.new w 53 [.int .u8 0,.int .i64 0,.slice none 0 0])
 clear hw1 hc hgl hg
 refine(SI x.toNat w1 (UInt8.toNat_lt x) (Ht.out _ H1.out)).mono ?_
 rintro e w2 ⟨hbe,rfl⟩
 have H2:=AA (H1.out.trans (hbe.mono H1.out.size))
 have HZ2:=AA (HZ1.out.below hbe HZ1.out.lt)
 have hsz2:w.heap.size<w2.heap.size:=HZ2.out.lt
 clear hbe H1 HZ1
 have e0:=HZ2.out.q 0 rfl
 have e1:=HZ2.out.q 1 rfl
 have e2:=HZ2.out.q 2 rfl
 have e3:=HZ2.out.frozen 0
 have e4:=HZ2.out.frozen 1
 have e5:=HZ2.out.frozen 2
 cases hr:DU x.toNat with
 | none=>
  have ha:Jo x.toNat= .tuple #[.agg wE,.bool false]:=by unfold Jo;rw [hr]
  rw [ha]
  unfold wE
  clear ha hr
  go_wp2_with fail
  refine bodyPost_ret (Jt rfl rfl rfl rfl (Vg ((AL.set (AL.set (AL.set HZ2.out 0 (.int .u8 0)) 1 (.int .i64 0)) 2 (.slice none 0 0)).alloc _))) rfl ?_
  exact⟨(((H2.out.setCell (p:=⟨w.heap.size,0,none⟩) (Nat.le_refl _) _).setCell (p:=⟨w.heap.size,1,none⟩) (Nat.le_refl _) _).setCell (p:=⟨w.heap.size,2,none⟩) (Nat.le_refl _) _).alloc (by simp [World.setCell];omega) _,_,_,_,rfl,.inl ⟨by decide,rfl⟩⟩
 | some r=>
  have ha:Jo x.toNat= .tuple #[.agg (opC r),.bool true]:=by unfold Jo;rw [hr]
  have Hr:=AA hr
  rw [ha]
  unfold opC
  clear ha hr
  go_upto_block 0 with fail
  generalize Mr:World.alloc (World.alloc (World.alloc w2 _) _) _=w5
  have H5:Hid (Below w.heap.size w w5):=by rw [←Mr];exact AA (((H2.out.alloc (by omega) _).alloc (by rw [World.size_alloc];omega) _).alloc (by rw [World.size_alloc,World.size_alloc];omega) _)
  have V9:Hid (AL w5 w2.heap.size 136 (opC r).toList):=by rw [←Mr];exact AA (((AL.new w2 136 (opC r).toList).alloc _).alloc _)
  have Zq:Hid (Ri w5 (w2.heap.size+1) (some ⟨g,o,none⟩) n c (p+1) 0):=by
   rw [←Mr]
   have:=(AL.new (w2.alloc (.cells (opC r) 136)) 241 [.slice (some ⟨g,o,none⟩) n c,.int .i64 ((p:Int)+1),.int .i64 0]).alloc (.cells #[.int .u8 (r.op:Nat),.int .i64 0,.slice none 0 0] 53)
   rw [World.size_alloc] at this
   exact AA this
  have Qw:Hid (AL w5 (w2.heap.size+1+1) 53 [.int .u8 (r.op:Nat),.int .i64 0,.slice none 0 0]):=by
   rw [←Mr]
   have:=AL.new ((w2.alloc (.cells (opC r) 136)).alloc (.cells #[.slice (some ⟨g,o,none⟩) n c,.int .i64 ((p:Int)+1),.int .i64 0] 241)) 53 [.int .u8 (r.op:Nat),.int .i64 0,.slice none 0 0]
   rw [World.size_alloc,World.size_alloc] at this
   exact AA this
  have vI:Hid (AL w5 w.heap.size 53 [.int .u8 0,.int .i64 0,.slice none 0 0]):=by rw [←Mr];exact AA (((HZ2.out.alloc _).alloc _).alloc _)
  clear Mr e0 e1 e2 e3 e4 e5
  have hsz5:w2.heap.size+1+1<w5.heap.size:=Qw.out.lt
  have HI5:Hid (UJ w5 B l (some ⟨g,o,none⟩) n c):=AA ⟨HI.out.len,HI.out.le,HI.out.cap,HI.out.row.below' H5.out hB⟩
  go_cut [] (fun wx=>w_ l p w wx (w2.heap.size+1) (w2.heap.size+1+1) (some ⟨g,o,none⟩) n c r.op)
  case first=>
   have ht:=Xh r (Iu Hr.out).1
   have iY:Hid (x.toNat=r.op):=AA (Iu Hr.out).2.symm
   have wN:=AA (Iu Hr.out).1
   have y0:=V9.out.q 0 rfl
   have y1:=V9.out.q 1 rfl
   have y2:=V9.out.q 2 rfl
   have y3:=V9.out.q 3 rfl
   have y4:=V9.out.q 4 rfl
   have y5:=V9.out.q 5 rfl
   rcases ht with h | h | h | h | h | h | h | h | h | h
   case inr.inr.inr.inl=>
    have d1:(r.takes==1)=_:=congrArg (· ==(1:Int)) h;have d2:(r.takes==2)=_:=congrArg (· ==(2:Int)) h;have d3:(r.takes==3)=_:=congrArg (· ==(3:Int)) h;have d4:(r.takes==4)=_:=congrArg (· ==(4:Int)) h;have d5:(r.takes==5)=_:=congrArg (· ==(5:Int)) h;have d6:(r.takes==6)=_:=congrArg (· ==(6:Int)) h;have d7:(r.takes==7)=_:=congrArg (· ==(7:Int)) h;have d8:(r.takes==8)=_:=congrArg (· ==(8:Int)) h;have d9:(r.takes==9)=_:=congrArg (· ==(9:Int)) h
    have H3t:=AA h
    have HNC:=Sn 1 16 HI5.out Zq.out
    have YT:Hid (w.heap.size<w2.heap.size+1+1):=AA (by omega)
    have HG2:Hid (w2.heap.size+1≠w2.heap.size+1+1):=AA (by omega)
    rw [show((1:Nat):Int)=1 from rfl,show((16:Nat):Int)=16 from rfl] at HNC
    have OV:=AA HNC
    clear h hwp HNC
    go_wp2_with fail
    refine OV.out.mono ?_
    rintro e w7 ⟨QH,YU⟩
    obtain⟨N,q,er,rfl,hN,jZ,YJ⟩: ∃(N q:Nat) (er:Int),e= .returned (.int .u64 (N:Int))∧N≤16∧Ri w7 (w2.heap.size+1) (some ⟨g,o,none⟩) n c q er∧(er=0→1≤N∧K_ l p ([x]++enc N) q):=by
     rcases YU with⟨v,q,rfl,h1,h2,h3,h4⟩ | ⟨er,h1,rfl,h2⟩
     ·exact⟨v,q,0,rfl,h2,h4,fun _=>⟨h1,HX.out.trans h3⟩⟩
     ·exact⟨0,p+1,er,rfl,by decide,h2,fun h=>absurd h h1⟩
    have UD:=AA (Qw.out.keep QH (by omega))
    have xB:=AA (vI.out.keep QH (by omega))
    have H7:=AA (H5.out.trans (QH.below H5.out.size (fun k hk=>by omega)))
    have aX:Hid (qV l p x w (w2.heap.size+1) (w2.heap.size+1+1) (some ⟨g,o,none⟩) n c r.op N (.int .u64 0) w7):=AA ⟨0,q,er,none,0,[],Nat.zero_le _,rfl,H7.out,xB.out,jZ,UD.out,World.ownsRow_nil _ _ _ _,rfl,fun _ h=>absurd h (by simp),fun h=>⟨(YJ h).1,by rw [List.flatMap_nil,List.append_nil];exact(YJ h).2⟩⟩
    clear QH YU jZ YJ Qw vI H5 HI5 Zq V9 UD xB H7 y0 y1 y2 y3 y4 y5 d0 d1 d2 d3 d4 d5 d6 d7 d8 d9 OV
    go_wp2_with fail
    go_loopw [66] (fun i wr=>qV l p x w (w2.heap.size+1) (w2.heap.size+1+1) (some ⟨g,o,none⟩) n c r.op N i wr) (fun i _=>N-(intOf i).toNat)
    case atStart=>exact aX.out
    case round=>
     obtain⟨k,q,er,L,cL,ns,hk,rfl,hbw,hzw,jZ,hxw,how,hnl,hb,YJ⟩:=hrel
     have J_:=AA hbw;have HZW:=AA hzw;have HRI:=AA jZ;have fA:=AA hxw;have HOW:=AA how;have yR:=AA hnl;have HB:=AA hb;have NR:=AA YJ
     have nT:=hbw.size
     have hltx:=hxw.lt
     have e2:=hxw.q 2 rfl
     clear hbw hzw jZ hxw how hnl hb YJ aX
     by_cases hlt:k<N
     ·have d1:decide ((k:Int)<(N:Int))=true:=decide_eq_true (by omega)
      have hk0:(0:Int)≤k:=by omega
      have hkw:IntKind.u64.wrap ((k:Int)+1)=((k+1:Nat):Int):=by rw [IntKind.wrap_u64];omega
      have HI7:Hid (UJ wr B l (some ⟨g,o,none⟩) n c):=AA ⟨HI.out.len,HI.out.le,HI.out.cap,HI.out.row.below' J_.out hB⟩
      have HCN:=AA (qW (w:=wr.drew) (show UJ wr.drew B l (some ⟨g,o,none⟩) n c from⟨HI7.out.len,HI7.out.le,HI7.out.cap,HI7.out.row⟩) (show Ri wr.drew (w2.heap.size+1) (some ⟨g,o,none⟩) n c q er from HRI.out))
      obtain⟨i0,hi0,hz,hs',hby⟩:=info_parts Qu
      go_upto_region 23 with fail
      refine wp_region_held_drew (S:=fun W=>True) (by kernel_rfl) trivial (fun hHeld=> ?_)
      have HX9:Hid (AL wr.drew (w2.heap.size+1+1) 53 [.int .u8 (r.op:Nat),.int .i64 0,.slice L k cL]):=AA (fA.out.drewN 1)
      have HZ9:Hid (AL wr.drew w.heap.size 53 [.int .u8 0,.int .i64 0,.slice none 0 0]):=AA (HZW.out.drewN 1)
      have HO9:Hid (wr.drew.ownsRow (w2.heap.size+1+1+1) 3 1 (.slice L k cL) k (ns.map (Value.int .i64))):=AA HOW.out
      have oN:Hid (Below w.heap.size w wr.drew):=AA J_.out.drew
      have HR9:Hid (Ri wr.drew (w2.heap.size+1) (some ⟨g,o,none⟩) n c q er):=AA HRI.out
      generalize wr.drew=w29 at*
      refine AB (i:=0) (v:= ?_) rfl (by kernel_rfl) (fun _ _ _ h=>h) (by intro w hSw;(try dsimp only at hSw);go_simp;try with_reducible rfl) hHeld ?_
      refine AB (i:=2) (v:= ?_) rfl (by kernel_rfl) (fun _ _ _ h=>h) (by intro w hSw;(try dsimp only at hSw);go_simp;try with_reducible rfl) hHeld ?_
      refine wpAnyH_ready (rs:= [1,3]) (by kernel_rfl) (by simp) ?_
      refine AllReadyH.cons rfl (fun K hK=> ?_) (AllReadyH.cons rfl (fun K hK=> ?_) AllReadyH.nil)
      ·have gl:=HX9.out.q 2 rfl
       go_simp
       refine hK.out _ _ trivial (fun hHeld30=> ?_)
       clear hK K gl
       refine wpAnyH_ready (rs:= [3]) (by kernel_rfl) (by simp) ?_
       refine AllReadyH.cons rfl (fun K hK=> ?_) AllReadyH.nil
       go_simp
       refine HCN.out.mono ?_
       rintro e q9 ⟨fJ,v,q8,rA,rfl,hv8,qX,ha8⟩
       have HX31:=AA (HX9.out.keep fJ HG2.out.symm);have HZ31:=AA (HZ9.out.keep fJ (show w.heap.size≠w2.heap.size+1 by omega));have HR31:=AA qX;have HV8:=AA hv8;have rC:=AA ha8
       have HO31:=AA (BD HO9.out fJ (fun k hk=>by have:=(HOW.out.lt k hk).1;show k≠w2.heap.size+1;omega))
       have AB0:=AA (oN.out.trans (fJ.below oN.out.size (fun k hk=>by show k≠w2.heap.size+1;omega)))
       have hvw:IntKind.i64.wrap (v:Int)=(v:Int):=by rw [IntKind.wrap_i64];omega
       refine hK.out _ _ trivial (fun vJ=> ?_)
       clear hK K fJ qX ha8 hv8
       refine AB (i:=4) (v:= ?_) rfl (by kernel_rfl) (fun _ _ _ h=>h) (by intro w hSw;(try dsimp only at hSw);go_simp;try with_reducible rfl) vJ ?_
       refine wpAnyH_ready (rs:= [5]) (by kernel_rfl) (by simp) ?_
       refine AllReadyH.cons rfl (fun K hK=> ?_) AllReadyH.nil
       go_simp
       have AB1:Hid (AL (q9.alloc (.cells #[.int .i64 v] 3)) (w2.heap.size+1+1) 53 [.int .u8 (r.op:Nat),.int .i64 0,.slice L k cL]):=AA (HX31.out.alloc _)
       have HZ32:Hid (AL (q9.alloc (.cells #[.int .i64 v] 3)) w.heap.size 53 [.int .u8 0,.int .i64 0,.slice none 0 0]):=AA (HZ31.out.alloc _)
       have HR32:Hid (Ri (q9.alloc (.cells #[.int .i64 v] 3)) (w2.heap.size+1) (some ⟨g,o,none⟩) n c q8 rA):=AA (AL.alloc HR31.out _)
       have AB2:=AA (HO31.out.alloc (.cells #[.int .i64 v] 3))
       have HB32:Hid (Below w.heap.size w (q9.alloc (.cells #[.int .i64 v] 3))):=AA (AB0.out.alloc AB0.out.size _)
       have GK:Hid (Row (q9.alloc (.cells #[.int .i64 v] 3)) (q9.heap.size+1) (some ⟨q9.heap.size,0,none⟩) [.int .i64 v]):=AA (Ak q9 [.int .i64 v] 3)
       refine hK.out _ _ trivial (fun hHeld32=> ?_)
       clear hK K
       generalize hwn:q9.alloc (.cells #[.int .i64 v] 3)=w32 at*
       clear hwn
       refine wpAnyH_ready (rs:= [6]) (by kernel_rfl) (by simp) ?_
       refine AllReadyH.cons rfl (fun K hK=> ?_) AllReadyH.nil
       refine Au rfl (.tmp 69) (.tmp 73) 23 rfl (w2.heap.size+1+1+1) 3 i0 _ 1 8 underlying23 hi0 hz hs' hby rfl (by omega) _ k (ns.map (Value.int .i64)) rfl AB2.out (q9.heap.size+1) _ 1 1 [.int .i64 v] rfl rfl GK.out (by intro u hu;simp at hu;subst hu;rfl) (by unfold maxLen;omega) (by omega) (by have:=AB1.out.lt;omega) ?_
       intro A4 c4 w33 h2 h3 h4
       have H2:=AA h2;have H3:=AA h3;have o8:=AB1;have xC:=HZ32;have xD:=HR32;have Ir:=AB2;have UF:=HB32
       have Du:AL w33 (w2.heap.size+1+1) 53 [.int .u8 (r.op:Nat),.int .i64 0,.slice L k cL]:=(h3.block _ o8.out.lt (fun e=>by have:=(Ir.out.lt _ e.symm).1;omega)).trans o8.out
       have J9:=AA Du;have TJ:=Du.frozen 2;have hc4:=Du.cell 2
       refine hK.out _ _ trivial (fun Ay=> ?_)
       clear hK K h2 h3 h4 Du
       refine AB (i:=7) (v:= ?_) rfl (by kernel_rfl) (fun _ _ _ h=>h) (by intro w hSw;(try dsimp only at hSw);go_simp;try with_reducible rfl) Ay ?_
       refine wpAnyH_ready (rs:= [8]) (by kernel_rfl) (by simp) ?_
       refine AllReadyH.cons rfl (fun K hK=> ?_) AllReadyH.nil
       go_simp
       refine hK.out _ _ trivial (fun Iq=> ?_)
       clear hK K TJ hc4
       refine wpAnyH_done (by kernel_rfl) ?_ _
       have hfin:qV l p x w (w2.heap.size+1) (w2.heap.size+1+1) (some ⟨g,o,none⟩) n c r.op N (.int .u64 ((k+1:Nat):Int)) (w33.setCell ⟨w2.heap.size+1+1,2,none⟩ (.slice A4 (k+1) c4)):=by
        clear hvw
        have hB:Below w.heap.size w w33:=⟨H3.out.os.trans UF.out.os,H3.out.tape.trans UF.out.tape,H3.out.output.trans UF.out.output,Nat.le_trans UF.out.size H3.out.size,fun q hq=>(H3.out.block q (Nat.lt_of_lt_of_le hq UF.out.size) (fun e=>by have:=(Ir.out.lt q e.symm).1;omega)).trans (UF.out.block q hq)⟩
        have yj:AL w33 w.heap.size 53 [.int .u8 0,.int .i64 0,.slice none 0 0]:=(H3.out.block _ xC.out.lt (fun e=>by have:=(Ir.out.lt _ e.symm).1;omega)).trans xC.out
        have hr4:Ri w33 (w2.heap.size+1) (some ⟨g,o,none⟩) n c q8 rA:=(H3.out.block _ (AL.lt xD.out) (fun e=>by have:=(Ir.out.lt _ e.symm).1;omega)).trans xD.out
        refine⟨k+1,q8,rA,A4,c4,ns++ [(v:Int)],hlt,rfl,hB.setCell (p:=⟨w2.heap.size+1+1,2,none⟩) (show w.heap.size≤w2.heap.size+1+1 by omega) _,yj.far (p:=⟨w2.heap.size+1+1,2,none⟩) (show w.heap.size≠w2.heap.size+1+1 by omega) _,AL.far hr4 (p:=⟨w2.heap.size+1+1,2,none⟩) (show w2.heap.size+1≠w2.heap.size+1+1 by omega) _,J9.out.set 2 _,?_,by rw [List.length_append,yR.out];rfl,fun y hy=> ?_,fun h=>⟨(NR.out (rC.out h).1).1,?_⟩⟩
        ·refine IU (p:=⟨w2.heap.size+1+1,2,none⟩) ?_ (fun e=>by have:=(H2.out.lt (w2.heap.size+1+1) e).1;omega) _
         rw [List.map_append]
         exact H2.out
        ·rcases List.mem_append.1 hy with h | h
         ·exact HB.out y h
         ·rw [List.mem_singleton] at h;rw [h];have:=HV8.out;omega
        ·rw [DK,←List.append_assoc]
         exact(NR.out (rC.out h).1).2.trans (rC.out h).2
       have Dz:=AA hfin
       clear hfin hvw
       go_wp2_with fail
       exact⟨Dz.out,by show N-((k:Int)+1).toNat<N-(k:Int).toNat;omega⟩
      ·go_simp
       refine HCN.out.mono ?_
       rintro e Wy ⟨fJ,v,q8,rA,rfl,hv8,qX,ha8⟩
       have zq:=AA (HX9.out.keep fJ HG2.out.symm);have AB4:=AA (HZ9.out.keep fJ (show w.heap.size≠w2.heap.size+1 by omega));have AB5:=AA qX;have HV8:=AA hv8;have rC:=AA ha8
       have AB6:=AA (BD HO9.out fJ (fun k hk=>by have:=(HOW.out.lt k hk).1;show k≠w2.heap.size+1;omega))
       have kL:=AA (oN.out.trans (fJ.below oN.out.size (fun k hk=>by show k≠w2.heap.size+1;omega)))
       have hvw:IntKind.i64.wrap (v:Int)=(v:Int):=by rw [IntKind.wrap_i64];omega
       refine hK.out _ _ trivial (fun vK=> ?_)
       clear hK K fJ qX ha8 hv8
       refine AB (i:=4) (v:= ?_) rfl (by kernel_rfl) (fun _ _ _ h=>h) (by intro w hSw;(try dsimp only at hSw);go_simp;try with_reducible rfl) vK ?_
       refine wpAnyH_ready (rs:= [1,5]) (by kernel_rfl) (by simp) ?_
       refine AllReadyH.cons rfl (fun K hK=> ?_) (AllReadyH.cons rfl (fun K hK=> ?_) AllReadyH.nil)
       ·have gl:=zq.out.q 2 rfl
        go_simp
        refine hK.out _ _ trivial (fun hHeld35=> ?_)
        clear hK K gl
        refine wpAnyH_ready (rs:= [5]) (by kernel_rfl) (by simp) ?_
        refine AllReadyH.cons rfl (fun K hK=> ?_) AllReadyH.nil
        go_simp
        have AB7:Hid (AL (Wy.alloc (.cells #[.int .i64 v] 3)) (w2.heap.size+1+1) 53 [.int .u8 (r.op:Nat),.int .i64 0,.slice L k cL]):=AA (zq.out.alloc _)
        have HZ36:Hid (AL (Wy.alloc (.cells #[.int .i64 v] 3)) w.heap.size 53 [.int .u8 0,.int .i64 0,.slice none 0 0]):=AA (AB4.out.alloc _)
        have HR36:Hid (Ri (Wy.alloc (.cells #[.int .i64 v] 3)) (w2.heap.size+1) (some ⟨g,o,none⟩) n c q8 rA):=AA (AL.alloc AB5.out _)
        have AB8:=AA (AB6.out.alloc (.cells #[.int .i64 v] 3))
        have HB36:Hid (Below w.heap.size w (Wy.alloc (.cells #[.int .i64 v] 3))):=AA (kL.out.alloc kL.out.size _)
        have GK:Hid (Row (Wy.alloc (.cells #[.int .i64 v] 3)) (Wy.heap.size+1) (some ⟨Wy.heap.size,0,none⟩) [.int .i64 v]):=AA (Ak Wy [.int .i64 v] 3)
        refine hK.out _ _ trivial (fun hHeld36=> ?_)
        clear hK K
        generalize hwn:Wy.alloc (.cells #[.int .i64 v] 3)=w36 at*
        clear hwn
        refine wpAnyH_ready (rs:= [6]) (by kernel_rfl) (by simp) ?_
        refine AllReadyH.cons rfl (fun K hK=> ?_) AllReadyH.nil
        refine Au rfl (.tmp 69) (.tmp 73) 23 rfl (w2.heap.size+1+1+1) 3 i0 _ 1 8 underlying23 hi0 hz hs' hby rfl (by omega) _ k (ns.map (Value.int .i64)) rfl AB8.out (Wy.heap.size+1) _ 1 1 [.int .i64 v] rfl rfl GK.out (by intro u hu;simp at hu;subst hu;rfl) (by unfold maxLen;omega) (by omega) (by have:=AB7.out.lt;omega) ?_
        intro A4 c4 w37 h2 h3 h4
        have H2:=AA h2;have H3:=AA h3;have o8:=AB7;have xC:=HZ36;have xD:=HR36;have Ir:=AB8;have UF:=HB36
        have Du:AL w37 (w2.heap.size+1+1) 53 [.int .u8 (r.op:Nat),.int .i64 0,.slice L k cL]:=(h3.block _ o8.out.lt (fun e=>by have:=(Ir.out.lt _ e.symm).1;omega)).trans o8.out
        have J9:=AA Du;have TJ:=Du.frozen 2;have hc4:=Du.cell 2
        refine hK.out _ _ trivial (fun Ay=> ?_)
        clear hK K h2 h3 h4 Du
        refine AB (i:=7) (v:= ?_) rfl (by kernel_rfl) (fun _ _ _ h=>h) (by intro w hSw;(try dsimp only at hSw);go_simp;try with_reducible rfl) Ay ?_
        refine wpAnyH_ready (rs:= [8]) (by kernel_rfl) (by simp) ?_
        refine AllReadyH.cons rfl (fun K hK=> ?_) AllReadyH.nil
        go_simp
        refine hK.out _ _ trivial (fun Iq=> ?_)
        clear hK K TJ hc4
        refine wpAnyH_done (by kernel_rfl) ?_ _
        have hfin:qV l p x w (w2.heap.size+1) (w2.heap.size+1+1) (some ⟨g,o,none⟩) n c r.op N (.int .u64 ((k+1:Nat):Int)) (w37.setCell ⟨w2.heap.size+1+1,2,none⟩ (.slice A4 (k+1) c4)):=by
         clear hvw
         have hB:Below w.heap.size w w37:=⟨H3.out.os.trans UF.out.os,H3.out.tape.trans UF.out.tape,H3.out.output.trans UF.out.output,Nat.le_trans UF.out.size H3.out.size,fun q hq=>(H3.out.block q (Nat.lt_of_lt_of_le hq UF.out.size) (fun e=>by have:=(Ir.out.lt q e.symm).1;omega)).trans (UF.out.block q hq)⟩
         have yj:AL w37 w.heap.size 53 [.int .u8 0,.int .i64 0,.slice none 0 0]:=(H3.out.block _ xC.out.lt (fun e=>by have:=(Ir.out.lt _ e.symm).1;omega)).trans xC.out
         have hr4:Ri w37 (w2.heap.size+1) (some ⟨g,o,none⟩) n c q8 rA:=(H3.out.block _ (AL.lt xD.out) (fun e=>by have:=(Ir.out.lt _ e.symm).1;omega)).trans xD.out
         refine⟨k+1,q8,rA,A4,c4,ns++ [(v:Int)],hlt,rfl,hB.setCell (p:=⟨w2.heap.size+1+1,2,none⟩) (show w.heap.size≤w2.heap.size+1+1 by omega) _,yj.far (p:=⟨w2.heap.size+1+1,2,none⟩) (show w.heap.size≠w2.heap.size+1+1 by omega) _,AL.far hr4 (p:=⟨w2.heap.size+1+1,2,none⟩) (show w2.heap.size+1≠w2.heap.size+1+1 by omega) _,J9.out.set 2 _,?_,by rw [List.length_append,yR.out];rfl,fun y hy=> ?_,fun h=>⟨(NR.out (rC.out h).1).1,?_⟩⟩
         ·refine IU (p:=⟨w2.heap.size+1+1,2,none⟩) ?_ (fun e=>by have:=(H2.out.lt (w2.heap.size+1+1) e).1;omega) _
          rw [List.map_append]
          exact H2.out
         ·rcases List.mem_append.1 hy with h | h
          ·exact HB.out y h
          ·rw [List.mem_singleton] at h;rw [h];have:=HV8.out;omega
         ·rw [DK,←List.append_assoc]
          exact(NR.out (rC.out h).1).2.trans (rC.out h).2
        have Dz:=AA hfin
        clear hfin hvw
        go_wp2_with fail
        exact⟨Dz.out,by show N-((k:Int)+1).toNat<N-(k:Int).toNat;omega⟩
       ·go_simp
        have zu:Hid (AL (Wy.alloc (.cells #[.int .i64 v] 3)) (w2.heap.size+1+1) 53 [.int .u8 (r.op:Nat),.int .i64 0,.slice L k cL]):=AA (zq.out.alloc _)
        have HZ38:Hid (AL (Wy.alloc (.cells #[.int .i64 v] 3)) w.heap.size 53 [.int .u8 0,.int .i64 0,.slice none 0 0]):=AA (AB4.out.alloc _)
        have HR38:Hid (Ri (Wy.alloc (.cells #[.int .i64 v] 3)) (w2.heap.size+1) (some ⟨g,o,none⟩) n c q8 rA):=AA (AL.alloc AB5.out _)
        have AB_:=AA (AB6.out.alloc (.cells #[.int .i64 v] 3))
        have HB38:Hid (Below w.heap.size w (Wy.alloc (.cells #[.int .i64 v] 3))):=AA (kL.out.alloc kL.out.size _)
        have GK:Hid (Row (Wy.alloc (.cells #[.int .i64 v] 3)) (Wy.heap.size+1) (some ⟨Wy.heap.size,0,none⟩) [.int .i64 v]):=AA (Ak Wy [.int .i64 v] 3)
        refine hK.out _ _ trivial (fun hHeld38=> ?_)
        clear hK K
        generalize hwn:Wy.alloc (.cells #[.int .i64 v] 3)=w38 at*
        clear hwn
        refine wpAnyH_ready (rs:= [1]) (by kernel_rfl) (by simp) ?_
        refine AllReadyH.cons rfl (fun K hK=> ?_) AllReadyH.nil
        have gl:=zu.out.q 2 rfl
        go_simp
        refine hK.out _ _ trivial (fun hHeld39=> ?_)
        clear hK K gl
        refine wpAnyH_ready (rs:= [6]) (by kernel_rfl) (by simp) ?_
        refine AllReadyH.cons rfl (fun K hK=> ?_) AllReadyH.nil
        refine Au rfl (.tmp 69) (.tmp 73) 23 rfl (w2.heap.size+1+1+1) 3 i0 _ 1 8 underlying23 hi0 hz hs' hby rfl (by omega) _ k (ns.map (Value.int .i64)) rfl AB_.out (Wy.heap.size+1) _ 1 1 [.int .i64 v] rfl rfl GK.out (by intro u hu;simp at hu;subst hu;rfl) (by unfold maxLen;omega) (by omega) (by have:=zu.out.lt;omega) ?_
        intro A4 c4 w40 h2 h3 h4
        have H2:=AA h2;have H3:=AA h3;have o8:=zu;have xC:=HZ38;have xD:=HR38;have Ir:=AB_;have UF:=HB38
        have Du:AL w40 (w2.heap.size+1+1) 53 [.int .u8 (r.op:Nat),.int .i64 0,.slice L k cL]:=(h3.block _ o8.out.lt (fun e=>by have:=(Ir.out.lt _ e.symm).1;omega)).trans o8.out
        have J9:=AA Du;have TJ:=Du.frozen 2;have hc4:=Du.cell 2
        refine hK.out _ _ trivial (fun Ay=> ?_)
        clear hK K h2 h3 h4 Du
        refine AB (i:=7) (v:= ?_) rfl (by kernel_rfl) (fun _ _ _ h=>h) (by intro w hSw;(try dsimp only at hSw);go_simp;try with_reducible rfl) Ay ?_
        refine wpAnyH_ready (rs:= [8]) (by kernel_rfl) (by simp) ?_
        refine AllReadyH.cons rfl (fun K hK=> ?_) AllReadyH.nil
        go_simp
        refine hK.out _ _ trivial (fun Iq=> ?_)
        clear hK K TJ hc4
        refine wpAnyH_done (by kernel_rfl) ?_ _
        have hfin:qV l p x w (w2.heap.size+1) (w2.heap.size+1+1) (some ⟨g,o,none⟩) n c r.op N (.int .u64 ((k+1:Nat):Int)) (w40.setCell ⟨w2.heap.size+1+1,2,none⟩ (.slice A4 (k+1) c4)):=by
         clear hvw
         have hB:Below w.heap.size w w40:=⟨H3.out.os.trans UF.out.os,H3.out.tape.trans UF.out.tape,H3.out.output.trans UF.out.output,Nat.le_trans UF.out.size H3.out.size,fun q hq=>(H3.out.block q (Nat.lt_of_lt_of_le hq UF.out.size) (fun e=>by have:=(Ir.out.lt q e.symm).1;omega)).trans (UF.out.block q hq)⟩
         have yj:AL w40 w.heap.size 53 [.int .u8 0,.int .i64 0,.slice none 0 0]:=(H3.out.block _ xC.out.lt (fun e=>by have:=(Ir.out.lt _ e.symm).1;omega)).trans xC.out
         have hr4:Ri w40 (w2.heap.size+1) (some ⟨g,o,none⟩) n c q8 rA:=(H3.out.block _ (AL.lt xD.out) (fun e=>by have:=(Ir.out.lt _ e.symm).1;omega)).trans xD.out
         refine⟨k+1,q8,rA,A4,c4,ns++ [(v:Int)],hlt,rfl,hB.setCell (p:=⟨w2.heap.size+1+1,2,none⟩) (show w.heap.size≤w2.heap.size+1+1 by omega) _,yj.far (p:=⟨w2.heap.size+1+1,2,none⟩) (show w.heap.size≠w2.heap.size+1+1 by omega) _,AL.far hr4 (p:=⟨w2.heap.size+1+1,2,none⟩) (show w2.heap.size+1≠w2.heap.size+1+1 by omega) _,J9.out.set 2 _,?_,by rw [List.length_append,yR.out];rfl,fun y hy=> ?_,fun h=>⟨(NR.out (rC.out h).1).1,?_⟩⟩
         ·refine IU (p:=⟨w2.heap.size+1+1,2,none⟩) ?_ (fun e=>by have:=(H2.out.lt (w2.heap.size+1+1) e).1;omega) _
          rw [List.map_append]
          exact H2.out
         ·rcases List.mem_append.1 hy with h | h
          ·exact HB.out y h
          ·rw [List.mem_singleton] at h;rw [h];have:=HV8.out;omega
         ·rw [DK,←List.append_assoc]
          exact(NR.out (rC.out h).1).2.trans (rC.out h).2
        have Dz:=AA hfin
        clear hfin hvw
        go_wp2_with fail
        exact⟨Dz.out,by show N-((k:Int)+1).toNat<N-(k:Int).toNat;omega⟩
     ·have d1:decide ((k:Int)<(N:Int))=false:=decide_eq_false (by omega)
      obtain rfl:k=N:=by omega
      go_wp2_with fail
      go_meet
      refine⟨J_.out,HZW.out,q,er,0,L,k,cL,HRI.out,fA.out,fun h=>⟨⟨x,0,ns⟩,iY.out,rfl,Dw.2 ⟨_,by rw [←iY.out];rfl,(by unfold Rd.ER;dsimp only;omega),?_⟩,?_,?_⟩⟩
      ·exact(Rd.i64.sl false).more (by omega) (Nat.le_refl _) (U5 HOW.out (fun y hy=>by have:=HB.out y hy;unfold Rd.ER;omega))
      ·exact(xA Hr.out H3t.out hN (NR.out h).1 yR.out HB.out).1
      ·rw [(xA Hr.out H3t.out hN (NR.out h).1 yR.out HB.out).2];exact(NR.out h).2
   case inr.inr.inr.inr.inr.inr.inr.inr.inl=>
    have d1:(r.takes==1)=_:=congrArg (· ==(1:Int)) h;have d2:(r.takes==2)=_:=congrArg (· ==(2:Int)) h;have d3:(r.takes==3)=_:=congrArg (· ==(3:Int)) h;have d4:(r.takes==4)=_:=congrArg (· ==(4:Int)) h;have d5:(r.takes==5)=_:=congrArg (· ==(5:Int)) h;have d6:(r.takes==6)=_:=congrArg (· ==(6:Int)) h;have d7:(r.takes==7)=_:=congrArg (· ==(7:Int)) h;have d8:(r.takes==8)=_:=congrArg (· ==(8:Int)) h;have d9:(r.takes==9)=_:=congrArg (· ==(9:Int)) h
    have H8:=AA h
    have HS8:=kK r wN.out HI5.out Zq.out (show B≤w2.heap.size+1 by omega)
    unfold opC at HS8
    have YT:Hid (w.heap.size<w2.heap.size+1+1):=AA (by omega)
    have HG2:Hid (w2.heap.size+1≠w2.heap.size+1+1):=AA (by omega)
    have HSS:=AA HS8
    clear h HS8 hwp
    go_wp2_with fail
    refine HSS.out.mono ?_
    rintro e w7 ⟨QH,YU⟩
    have UD:=AA (Qw.out.keep QH (by omega))
    have xB:=AA (vI.out.keep QH (by omega))
    have H7:=AA (H5.out.trans (QH.below H5.out.size (fun k hk=>by omega)))
    have x1:=UD.out.q 1 rfl
    have x2:=UD.out.frozen 1
    clear QH Qw vI H5 HI5 Zq V9 y0 y1 y2 y3 y4 y5 d0 d1 d2 d3 d4 d5 d6 d7 d8 d9
    rcases YU with⟨v,q,rfl,h63,hbd,ha,YU⟩ | ⟨v,er,q,her,rfl,YU⟩
    ·have jX:=AA YU
     have zw:Hid (Rd.ER v):=AA h63
     have Dz:Hid (Ai ⟨x,v,[]⟩=0∧K_ l p (Iw ⟨x,v,[]⟩) q):=AA ⟨by unfold Ai;dsimp only;rw [Hr.out];dsimp only;rw [if_neg (not_not_intro hbd),if_pos (by rw [H8.out];decide),if_neg (by simp)],by rw [Q9 Hr.out,if_neg (by rw [H8.out];decide),if_pos H8.out];exact HX.out.trans ha⟩
     clear YU h63 hbd ha
     go_wp2_with fail
     go_meet
     exact YI iY.out H7.out xB.out jX.out UD.out YT.out HG2.out _ (fun _=>zw.out) (fun _=>Dz.out)
    ·have jX:=AA YU;have xE:=AA her
     clear YU her
     go_wp2_with fail
     go_meet
     exact YI iY.out H7.out xB.out jX.out UD.out YT.out HG2.out _ (fun h=>absurd h xE.out) (fun h=>absurd h xE.out)
   case inl=>
    have d1:(r.takes==1)=_:=congrArg (· ==(1:Int)) h;have d2:(r.takes==2)=_:=congrArg (· ==(2:Int)) h;have d3:(r.takes==3)=_:=congrArg (· ==(3:Int)) h;have d4:(r.takes==4)=_:=congrArg (· ==(4:Int)) h;have d5:(r.takes==5)=_:=congrArg (· ==(5:Int)) h;have d6:(r.takes==6)=_:=congrArg (· ==(6:Int)) h;have d7:(r.takes==7)=_:=congrArg (· ==(7:Int)) h;have d8:(r.takes==8)=_:=congrArg (· ==(8:Int)) h;have d9:(r.takes==9)=_:=congrArg (· ==(9:Int)) h
    have Hh:=AA h
    clear h
    go_wp2_with fail
    go_meet
    refine⟨H5.out,vI.out,p+1,0,0,none,0,0,Zq.out,Qw.out,fun _=>⟨⟨x,0,[]⟩,iY.out,rfl,Dw.2 ⟨_,by rw [←iY.out];rfl,(by unfold Rd.ER;dsimp only;omega),W_⟩,?_,?_⟩⟩
    ·unfold Ai;rw [Hr.out];simp [Aw,Hh.out]
    ·rw [Q9 Hr.out,if_pos Hh.out];exact HX.out
   all_goals
    have d1:(r.takes==1)=_:=congrArg (· ==(1:Int)) h;have d2:(r.takes==2)=_:=congrArg (· ==(2:Int)) h;have d3:(r.takes==3)=_:=congrArg (· ==(3:Int)) h;have d4:(r.takes==4)=_:=congrArg (· ==(4:Int)) h;have d5:(r.takes==5)=_:=congrArg (· ==(5:Int)) h;have d6:(r.takes==6)=_:=congrArg (· ==(6:Int)) h;have d7:(r.takes==7)=_:=congrArg (· ==(7:Int)) h;have d8:(r.takes==8)=_:=congrArg (· ==(8:Int)) h;have d9:(r.takes==9)=_:=congrArg (· ==(9:Int)) h
    obtain⟨M,hM,hM2⟩: ∃M:Nat,Aw r=(0,(M:Int))∧M≤4294967295:=by
     unfold Aw
     rw [h]
     first | exact⟨2147483647,rfl,by decide⟩ | exact⟨4294967295,rfl,by decide⟩
    have hn8:r.takes≠0∧r.takes≠8∧r.takes≠3:=by omega
    have Hn8:=AA hn8
    have HM:=AA hM
    have Ir:=AA (fun W=>Q7 r wN.out W)
    rw [hM] at Ir
    have hMw:IntKind.u64.wrap (M:Int)=(M:Int):=by rw [IntKind.wrap_u64];omega
    clear h hn8 hM
    unfold opC at Ir
    go_wp2_with fail
    refine(Ir.out w5).mono ?_
    rintro e w6 ⟨hb6,rfl⟩
    have H6:=AA (H5.out.trans (hb6.mono H5.out.size))
    have ACB:=AA (Zq.out.Ej hb6)
    have yS:=AA (Qw.out.below hb6 Qw.out.lt)
    have HZ6:=AA (vI.out.below hb6 vI.out.lt)
    have HI6:Hid (UJ w6 B l (some ⟨g,o,none⟩) n c):=AA ⟨HI.out.len,HI.out.le,HI.out.cap,HI.out.row.below' H6.out hB⟩
    clear hb6 H5 Zq Qw vI HI5 Ir V9 y0 y1 y2 y3 y4 y5 d0 d1 d2 d3 d4 d5 d6 d7 d8 d9
    go_wp2_with fail
    have HN:=Sn 0 M HI6.out ACB.out
    rw [show(((0:Nat):Int))=0 from rfl] at HN
    refine HN.mono ?_
    clear HN
    rintro e w7 ⟨QH,YU⟩
    have UD:=AA (yS.out.keep QH (by omega))
    have xB:=AA (HZ6.out.keep QH (by omega))
    have H7:=AA (H6.out.trans (QH.below H6.out.size (fun k hk=>by omega)))
    have x1:=UD.out.q 1 rfl
    have x2:=UD.out.frozen 1
    have YT:Hid (w.heap.size<w2.heap.size+1+1):=AA (by omega)
    have HG2:Hid (w2.heap.size+1≠w2.heap.size+1+1):=AA (by omega)
    have HB0:Hid (Rd.ER 0):=AA ⟨by decide,by decide⟩
    clear QH yS HZ6 H6 HI6 ACB
    rcases YU with⟨v,q,rfl,_,hv,ha,YU⟩ | ⟨er,her,rfl,YU⟩
    ·have jX:=AA YU;have HV:=AA hv;have HA:=AA ha
     have zw:Hid (Rd.ER (v:Int)):=AA (by clear hwp hMw;unfold Rd.ER;omega)
     have Dz:Hid (Ai ⟨x,(v:Int),[]⟩=0∧K_ l p (Iw ⟨x,(v:Int),[]⟩) q):=AA ⟨(Ww Hr.out HM.out Hn8.out hv).1,by rw [(Ww Hr.out HM.out Hn8.out hv).2];exact HX.out.trans ha⟩
     clear hwp
     have hvw:wrap64 (v:Int)=(v:Int):=by unfold wrap64;omega
     clear YU hv ha
     go_wp2_with fail
     go_meet
     exact YI iY.out H7.out xB.out jX.out UD.out YT.out HG2.out _ (fun _=>zw.out) (fun _=>Dz.out)
    ·have jX:=AA YU;have xE:=AA her
     clear YU her
     go_wp2_with fail
     go_meet
     exact YI iY.out H7.out xB.out jX.out UD.out YT.out HG2.out _ (fun _=>HB0.out) (fun h=>absurd h xE.out)
  case rest=>
   obtain⟨hbw,hzz,q,er,a,L,k,cL,jZ,hxx,hok⟩:=hcut
   have J_:=AA hbw;have HZW:=AA hzz;have fA:=AA hxx;have Qz:=AA hok
   have z0:=hzz.q 0 rfl
   have z1:=hzz.q 1 rfl
   have z2:=hzz.q 2 rfl
   have f0:=hzz.frozen 0
   have f1:=hzz.frozen 1
   have f2:=hzz.frozen 2
   have r1:wc.cell? ⟨w2.heap.size+1,1,none⟩=some (.int .i64 q):=AL.cell jZ 1
   have r2:wc.cell? ⟨w2.heap.size+1,2,none⟩=some (.int .i64 er):=AL.cell jZ 2
   have x0:=hxx.q 0 rfl
   have x1:=hxx.q 1 rfl
   have x2:=hxx.q 2 rfl
   have n1:w2.heap.size+1≠w.heap.size:=by omega
   have n2:w2.heap.size+1+1≠w.heap.size:=by omega
   clear hbw hzz jZ hxx hok H5 V9 Zq Qw vI HI5 hwp
   have hF: ∀(y0 y1 y2:Value) (nx er:Int) (kk:Nat),((er≠0∧(Value.agg #[y0,y1,y2])= .agg #[.int .u8 0,.int .i64 0,.slice none 0 0])∨(er=0∧ ∃q:Nat,nx=q∧qR l p w.heap.size ((((wc.setCell ⟨w.heap.size,0,none⟩ y0).setCell ⟨w.heap.size,1,none⟩ y1).setCell ⟨w.heap.size,2,none⟩ y2).drewN kk) (.agg #[y0,y1,y2]) q))→
    (loadVar 53 ⟨w.heap.size,0,none⟩).run prog ((((wc.setCell ⟨w.heap.size,0,none⟩ y0).setCell ⟨w.heap.size,1,none⟩ y1).setCell ⟨w.heap.size,2,none⟩ y2).drewN kk)= .ok (.agg #[y0,y1,y2]) ((((wc.setCell ⟨w.heap.size,0,none⟩ y0).setCell ⟨w.heap.size,1,none⟩ y1).setCell ⟨w.heap.size,2,none⟩ y2).drewN kk)∧qU l p w (.returned (.tuple #[.agg #[y0,y1,y2],.int .i64 nx,.int .i64 er])) ((((wc.setCell ⟨w.heap.size,0,none⟩ y0).setCell ⟨w.heap.size,1,none⟩ y1).setCell ⟨w.heap.size,2,none⟩ y2).drewN kk):=fun y0 y1 y2 nx er kk h=>
    ⟨Vg ((((HZW.out.set 0 y0).set 1 y1).set 2 y2).drewN kk),below_drewN (((J_.out.setCell (p:=⟨w.heap.size,0,none⟩) (Nat.le_refl _) _).setCell (p:=⟨w.heap.size,1,none⟩) (Nat.le_refl _) _).setCell (p:=⟨w.heap.size,2,none⟩) (Nat.le_refl _) _) kk,_,_,_,rfl,h⟩
   have HF:=AA hF
   clear hF
   have hIA:er=0→ ∀kk,qR l p w.heap.size ((((wc.setCell ⟨w.heap.size,0,none⟩ (.int .u8 (r.op:Nat))).setCell ⟨w.heap.size,1,none⟩ (.int .i64 a)).setCell ⟨w.heap.size,2,none⟩ (.slice L k cL)).drewN kk) (.agg #[.int .u8 (r.op:Nat),.int .i64 a,.slice L k cL]) q:=fun he kk=>by
    obtain⟨y,hyo,hya,hR,hc,ha⟩:=Qz.out he
    rw [←hyo,←hya] at hR⊢
    have hkp:Keep (fun k=>k≠w.heap.size) wc ((((wc.setCell ⟨w.heap.size,0,none⟩ (.int .u8 (y.op.toNat:Nat))).setCell ⟨w.heap.size,1,none⟩ (.int .i64 y.a)).setCell ⟨w.heap.size,2,none⟩ (.slice L k cL)).drewN kk):=((((Keep.refl _ _).setCell (fun h=>h rfl) _).setCell (fun h=>h rfl) _).setCell (fun h=>h rfl) _).drewN kk
    exact⟨y,L,k,cL,rfl,JA.more (Nat.le_succ _) hkp.size (Rd.GX hR hkp (Nat.le_refl _) (fun k h1 h2=>by show k≠w.heap.size;omega)),hc,ha⟩
   have HIA:=AA hIA
   clear hIA
   by_cases her:er=0
   ·have d1:(er !=0)=false:=by rw [her];rfl
    have xE:=AA her
    clear her
    go_wp2_with fail
    go_region
    all_goals
     have hf:=HF.out (.int .u8 (r.op:Nat)) (.int .i64 a) (.slice L k cL) q 0 1 (.inr ⟨rfl,q,rfl,HIA.out xE.out 1⟩)
     clear HF HIA
     have ZX:=AA hf
     clear hf
     go_wp2_with fail
     exact bodyPost_ret (Jt rfl rfl rfl rfl ZX.out.1) rfl ZX.out.2
   ·have d1:(er !=0)=true:=bne_iff_ne.2 her
    have xE:=AA her
    clear her
    go_wp2_with fail
    go_region
    all_goals
     have hf:=HF.out (.int .u8 0) (.int .i64 0) (.slice none 0 0) 0 er 1 (.inl ⟨xE.out,rfl⟩)
     clear HF HIA
     have ZX:=AA hf
     clear hf
     go_wp2_with fail
     exact bodyPost_ret (Jt rfl rfl rfl rfl ZX.out.1) rfl ZX.out.2
end
end Go.Proofs.YtejbcledkhioeaaGreatDoor
