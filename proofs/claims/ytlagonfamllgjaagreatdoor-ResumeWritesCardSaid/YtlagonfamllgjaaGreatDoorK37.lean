/- Part 37 of the proof: R10N R10O -/
import Derived.Test.YtlagonfamllgjaaGreatDoorK29
import Derived.Test.YtlagonfamllgjaaGreatDoorK36
namespace Go.Proofs.YtlagonfamllgjaaGreatDoor
set_option linter.unusedVariables false
set_option linter.unusedSimpArgs false
set_option maxRecDepth 100000
set_option maxHeartbeats 4000000
open Go.RowKit Tryz
def dP (f:Bv) (j:Nat):Bool:=match j with
 | 0=>false
 | k+1=>match f.code[k]? with
  | none=>false
  | some z=>DF z.op
theorem aM {m:AP} {f:Bv} {AJ:List Int} {j:Nat} {st st':Cn} {x:Ad} (hx:f.code[j]?=some x) (h:EF m f AJ j st x= .inr st'):st'.dead=dP f (j+1):=by
 unfold dP
 simp only [hx]
 unfold EF at h
 cases hb:Cr st x with
 | inl e=>rw [hb] at h;cases h
 | inr st1=>
  rw [hb] at h
  dsimp only at h
  unfold D_ at h
  split at h
  ·rename_i hc
   have ha:DF x.op=false:=by
    have:=of_decide_eq_true hc
    unfold DF;exact decide_eq_false (by omega)
   split at h
   ·cases h
   split at h
   ·injection h with h;subst h;exact ha.symm
   split at h
   ·cases h
   ·injection h with h;subst h;exact ha.symm
  ·split at h
   ·cases h
   split at h
   ·cases h
   split at h
   ·cases h
   ·injection h with h;subst h;rfl
theorem iN {n:Nat} {st:Cn} (h:st.floors.length<n):Kr n (Cy st)=Kr n st:=by
 unfold Kr Cy
 simp only [List.length_append,List.length_cons,List.length_nil,List.append_assoc]
 congr 1
 obtain⟨d,hd⟩: ∃d,n-st.floors.length=d+1:=⟨n-st.floors.length-1,by omega⟩
 rw [hd,List.replicate_succ,show n-(st.floors.length+(0+1))=d from by omega]
 rfl
theorem oM {n:Nat} {st:Cn} {p:Nat} (h:p<st.floors.length):(Kr n st)[p]?=st.floors[p]?:=by
 unfold Kr;rw [List.getElem?_append_left h]
theorem oN {n:Nat} {st:Cn} (h:st.floors.length=n):Kr n st=st.floors:=by
 unfold Kr;rw [h,Nat.sub_self];simp
theorem AAl {n:Nat} {st st':Cn} (h:st'.floors=st.floors):Kr n st'=Kr n st:=by unfold Kr;rw [h]
structure Yi (w wr:World) (h1 g:Nat) (y:Fy) (m:AP) (f:Bv) (c:Ai) (j:Nat) (sc:Ai) (st:Cn) (vF vS:Value):Prop where
 lock:Lock m f c j sc st
 go:P7 m f c.AJ (f.code.length-j) st=P7 m f c.AJ f.code.length (CY m f)
 wk:Dt wr h1 g y m f c vF vS (Kr f.code.length st) st.shapes
 dead:st.dead=dP f j
 Fb:Below w.heap.size w wr
 res:AQ wr (w.heap.size+1) 107 [.slice none 0 0,.slice none 0 0,.slice none 0 0,.slice none 0 0,.int .i64 0]
 gg:w.heap.size+1<g
section
variable {w wr w':World} {h1 g:Nat} {y:Fy} {m:AP} {f:Bv} {c:Ai} {j:Nat} {sc:Ai} {st st1:Cn} {vF vS:Value} {x:Ad}
theorem vQ (hm:Kc m) (hf:XV m f) (hc:ctl f.code= .inr c) (h:Lock m f c j sc st) (hx:f.code[j]?=some x) (hb:Cr st x= .inr st1) (hw:Dt wr h1 g y m f c vF vS (Kr f.code.length st) (st.shapes++ [st1.shape])):
 aB wr h1 g y m f c vF vS j (Cy st1) x sc.op:=by
 obtain⟨n1,n2,n3,n4,n5,n6,n7,n8,n9,n10⟩:=R5 h.val hb
 obtain⟨b1,b2,b3,b4,b5,b6⟩:=P8 h.val hb
 have hlt:=(List.getElem?_eq_some_iff.1 hx).1
 have hfl:st1.floors.length<f.code.length:=by rw [b3,h.val.floors];exact hlt
 have e1:Kr f.code.length (Cy st1)=Kr f.code.length st:=(iN hfl).trans (AAl b3)
 have e2:(Cy st1).shapes=st.shapes++ [st1.shape]:=by show st1.shapes++ [st1.shape]=_;rw [b2]
 refine⟨by rw [e1,e2];exact hw,hx,n4,⟨h.owner hx,h.zW,by have:=h.ok.few;omega,fun n=>by rw [n1];exact h.uf hx n,fun n q hq=> ?_⟩,h.row hm hc hx hb,n8,hf.few,(QM hc).AJ,hf.ins x (List.mem_of_getElem? hx)⟩
 rw [n1] at hq
 obtain⟨a1,a2⟩:=h.ug hx hq
 exact⟨a2,(n7 q a1).keep (Nat.le_refl _) (fun p hp=>rfl) (fun p hp=>oM (by rw [n3];rw [n2] at hp;exact hp))⟩
theorem oO {l:List Nat} {pc:Nat} (h:aB w h1 g y m f c vF vS pc st x l):
 Calls prog 90 #[.pointer (some ⟨g,0,none⟩),.int .i64 pc] w fun e w'=>aC h1 g y m f c vF vS pc st x w e w':=by
 cases hc:AZ x.op with
 | true=>exact TN h (of_decide_eq_true hc)
 | false=>exact WR h hc
theorem Yi.next (hm:Kc m) (hf:XV m f) (h:Yi w wr h1 g y m f c j sc st vF vS) (hx:f.code[j]?=some x) {st':Cn} {vS':Value} (hs:EF m f c.AJ j st x= .inr st') (hb:Below w.heap.size w w') (hr:AQ w' (w.heap.size+1) 107 [.slice none 0 0,.slice none 0 0,.slice none 0 0,.slice none 0 0,.int .i64 0])
 (hw:Dt w' h1 g y m f c vF vS' (Kr f.code.length st') st'.shapes): ∃sc',Yi w w' h1 g y m f c (j+1) sc' st' vF vS':=by
 obtain⟨sc',_,hk⟩:=h.lock.step hx
 exact⟨sc',hk hm (hf.ins x (List.mem_of_getElem? hx)) c.AJ st' hs,by rw [←YU hx hs];exact h.go,hw,aM hx hs,hb,hr,h.gg⟩
theorem Yi.stop (hc:ctl f.code= .inr c) (h:Yi w wr h1 g y m f c j sc st vF vS) (hx:f.code[j]?=some x) {e:Int} (hs:EF m f c.AJ j st x= .inl e):GY m f= .inl (e,(j:Int)):=by
 unfold GY
 rw [hc]
 simp only []
 rw [←h.go,Rk hx hs]
theorem Yi.done (hc:ctl f.code= .inr c) (h:Yi w wr h1 g y m f c f.code.length sc st vF vS):GY m f= .inr ⟨st.shapes,c.ends,c.AJ,st.floors,st.high⟩:=by
 unfold GY
 rw [hc]
 simp only []
 rw [←h.go,Nat.sub_self]
 rfl
end
theorem iO {m:AP} {f:Bv} {AJ:List Int} {j:Nat} {st st':Cn} {x:Ad} (h:D_ m f AJ j st x= .inr st'):st'.high=st.high:=by
 unfold D_ at h
 split at h
 ·split at h
  ·cases h
  split at h
  ·injection h with h;subst h;rfl
  split at h
  ·cases h
  ·injection h with h;subst h;rfl
 ·split at h
  ·cases h
  split at h
  ·cases h
  split at h
  ·cases h
  ·injection h with h;subst h;rfl
theorem Yj (W:World) (b:Nat) (a0 a1 a2 a3 a4:Value):Keep (fun q=>q≠b) W (IW W b a0 a1 a2 a3 a4):=by
 unfold IW
 exact(((((Keep.refl _ _).setCell (p:=⟨b,0,none⟩) (by simp) _).setCell (p:=⟨b,1,none⟩) (by simp) _).setCell (p:=⟨b,2,none⟩) (by simp) _).setCell (p:=⟨b,3,none⟩) (by simp) _).setCell (p:=⟨b,4,none⟩) (by simp) _
theorem iP (cs:List Value) (hi:Nat) (m:AP) (k:Nat) (f:Bv) (w:World) (h:DJ.R w 0 hi cs m) (hhi:hi≤w.heap.size) (hm:Kc m) (hk:m.fns[k]?=some f):
 Calls prog 55 #[.agg cs.toArray,.int .i64 k] w fun e w'=>oK m f w e w':=by
 have H:=AA h;have HM:=AA hm;have Bw:=AA hhi;have WS:=AA hk
 have yt:=AA (hm.fns f (List.mem_of_getElem? hk))
 obtain⟨v1,v2,v3,v4,v5,v6,rfl,_⟩:=Am.1 h
 obtain⟨i1,oJ,Wi,Wj,Yd⟩:=info_parts TK
 have HI1:=AA oJ;have HZ1:=AA Wi;have RG:=AA Wj;have AAh:=AA Yd
 have Kg:=yt.out.few
 clear h hm hhi hk oJ Wi Wj Yd
 go_enter func55,ntmps55
 go_upto_region 1 with fail
 generalize hw0:w.alloc (.cells #[v1,v2,v3,.int .i64 m.first,.int .i64 m.most,v4,v5,v6] 29)=w0
 have hb0:Below w.heap.size w w0:=by rw [←hw0];exact(Below.refl _ _).alloc (Nat.le_refl _) _
 have HX0:Hid (AQ w0 w.heap.size 29 [v1,v2,v3,.int .i64 m.first,.int .i64 m.most,v4,v5,v6]):=AA (by rw [←hw0];exact AQ.new w 29 _)
 have hz0:w0.heap.size=w.heap.size+1:=by rw [←hw0];simp
 clear hw0
 generalize hw1:w0.alloc (.cells #[.slice none 0 0,.slice none 0 0,.slice none 0 0,.slice none 0 0,.int .i64 0] 107)=w1
 have hb1:Below w0.heap.size w0 w1:=by rw [←hw1];exact(Below.refl _ _).alloc (Nat.le_refl _) _
 have CX:=AA (HX0.out.below hb1 HX0.out.lt)
 have HT1:Hid (AQ w1 (w.heap.size+1) 107 [.slice none 0 0,.slice none 0 0,.slice none 0 0,.slice none 0 0,.int .i64 0]):=AA (by rw [←hw1,←hz0];exact AQ.new w0 107 _)
 have HB1:Hid (Below w.heap.size w w1):=AA (hb0.trans (hb1.mono hb0.size))
 clear hw1 hb1 hb0 HX0
 try rw [hz0]
 clear hz0
 have q0:=CX.out.q 0 rfl
 have q1:=CX.out.q 1 rfl
 have q2:=CX.out.q 2 rfl
 have q3:=CX.out.q 3 rfl
 have q4:=CX.out.q 4 rfl
 have q5:=CX.out.q 5 rfl
 have q6:=CX.out.q 6 rfl
 have q7:=CX.out.q 7 rfl
 go_wp2_with fail
 refine(uw _ hi m k f w1 (Rd.below H.out HB1.out Bw.out) (Nat.le_trans Bw.out HB1.out.size) HM.out WS.out).mono ?_
 rintro e w2 ⟨hb2,g,hp⟩
 have HT2:=AA (HT1.out.below hb2 HT1.out.lt)
 have HB2:Hid (Below w.heap.size w w2):=AA (HB1.out.trans (hb2.mono HB1.out.size))
 have HZT:=AA HT1.out.lt
 clear hb2 q0 q1 q2 q3 q4 q5 q6 q7
 cases hc:ctl f.code with
 | inl q=>
  rw [hc] at hp
  dsimp only at hp
  subst hp
  have hne:(q.1 !=0)=true:=by have:=Tj hc;simpa using this
  have TD:Hid (GY m f= .inl q):=AA (by unfold GY;rw [hc])
  clear hc
  have p0:=HT2.out.q 0 rfl
  have p1:=HT2.out.q 1 rfl
  have p2:=HT2.out.q 2 rfl
  have p3:=HT2.out.q 3 rfl
  have p4:=HT2.out.q 4 rfl
  have p5:=HT2.out.frozen 0
  have p6:=HT2.out.frozen 1
  have p7:=HT2.out.frozen 2
  have p8:=HT2.out.frozen 3
  have p9:=HT2.out.frozen 4
  go_wp2_with fail
  obtain⟨hz,hbz⟩:=Mx HT2.out HB2.out
  change bodyPost _ _ _ _ _ (IV w2 (w.heap.size+1))
  clear p0 p1 p2 p3 p4 p5 p6 p7 p8 p9
  generalize IV w2 (w.heap.size+1)=w8 at hz hbz⊢
  have z0:=hz.q 0 rfl
  have z1:=hz.q 1 rfl
  have z2:=hz.q 2 rfl
  have z3:=hz.q 3 rfl
  have z4:=hz.q 4 rfl
  refine⟨rfl,.tuple #[OY,.int .i64 q.1,.int .i64 q.2],by simp [OY,results,results55,go_sem,z0,z1,z2,z3,z4],hbz,?_⟩
  rw [TD.out]
 | inr c=>
  rw [hc] at hp
  obtain⟨rfl,h1,y,vF0,hwk0,hg0⟩:=hp
  have HC:=AA hc
  have HWK0:=AA hwk0
  have HGG:Hid (w.heap.size+1<g):=AA (by have:=HZT.out;omega)
  clear hc hwk0 hg0
  go_wp2_with fail
  go_loopw [10,11,12,13,14,15,16] (fun s hg pc _ _ _ _ wr=> ∃(j:Nat) (sc:Ai) (st:Cn) (vF vS:Value),j≤f.code.length∧pc= .int .i64 j∧s= .string st.shape∧hg= .int .i64 (st.high:Nat)∧Yi w wr h1 g y m f c j sc st vF vS) (fun _ _ pc _ _ _ _ _=>f.code.length-(intOf pc).toNat)
  case atStart=>exact⟨0,Cw f.code.length,CY m f,vF0,.slice none 0 0,Nat.zero_le _,rfl,rfl,rfl,LV HC.out,by rw [Nat.sub_zero],HWK0.out,rfl,HB2.out,HT2.out,HGG.out⟩
  case round=>
   obtain⟨j,sc,st,vF,vS,hj,rfl,rfl,rfl,ht⟩:=hrel
   have Gp:=AA ht
   clear ht
   obtain⟨AS,cS,rfl⟩:=Ck Gp.out.wk.sh
   have Yk:=Gp.out.lock.val.size
   have hH256:=Gp.out.lock.val.high
   by_cases hlt:j<f.code.length
   ·obtain⟨x,hx⟩: ∃x,f.code[j]?=some x:=⟨_,List.getElem?_eq_getElem hlt⟩
    have HX:=AA hx
    obtain⟨b,ob,Al,d,Bl,_,_,c9,hbg,x0,_,_,_,_,_⟩:=Gp.out.wk.TM hx
    have hj0:(0:Int)≤j:=by omega
    have hj1:(j:Int)<f.code.length:=by omega
    obtain⟨o,r,rC⟩:=Gp.out.lock.val.ne (Gp.out.lock.ND hx)
    have hnone:Cr st x=if st.dead then(if AZ x.op=false then .inl 36 else if 256<o.base.size+o.s.r.size then .inl 34 else .inr {st with shape:=o.base++o.s.r}) else .inr st:=by
     unfold Cr BU;rw [rC];rfl
    have Z4:=AA hnone
    have EX:Hid (OC m f st.shapes (Kr f.code.length st) o):=AA ((Gp.out.lock.val.each o (by rw [rC];exact List.mem_cons_self ..)).keep (Nat.le_refl _) (fun p hp=>rfl) (fun p hp=>oM (by rw [Gp.out.lock.val.floors,←Gp.out.lock.val.shapes];exact hp)))
    obtain⟨z1,z2,z3⟩:=Gp.out.lock.op8 HM.out o (by rw [rC];exact List.mem_cons_self ..)
    obtain⟨P,hP⟩: ∃P,o.pc=P:=⟨_,rfl⟩
    have TP:Hid (EL sc.op=P):=AA (by
     have:=Gp.out.lock.lab hx (n:=0) (q:=o) (by rw [rC];rfl)
     rw [←hP];exact this.2.symm)
    have HBS:Hid (∀W,Below wr.heap.size wr W→Calls prog 88 #[.pointer (some ⟨g,0,none⟩),.int .i64 P] W fun e w'=>e= .returned (.string o.base)∧ ∃k,w'=W.drewN k):=AA (fun W hW=>hP▸TI o W (Gp.out.wk.below hW) EX.out Gp.out.lock.val.bnd)
    have L8:Hid (∀W,Below wr.heap.size wr W→Calls prog 89 #[.pointer (some ⟨g,0,none⟩),.int .i64 P] W fun e w'=>e= .returned (.agg #[.string o.s.p,.string o.s.r])∧Below W.heap.size W w'):=AA (fun W hW=>hP▸Lc o W (Gp.out.wk.below hW) EX.out)
    have hadd:binOp .add 9 (.string o.base) (.string o.s.r)=pure (.string (o.base++o.s.r)):=GR _ _ _ (by omega)
    obtain⟨b3,o3,d3,e3,hc3⟩:=Gp.out.wk.PG (Gp.out.lock.owner hx)
    have je:wr.cell? ⟨g,13,none⟩=some (.slice (some ⟨b3,o3,none⟩) f.code.length d3):=(Gp.out.wk.blk.cell 13).trans (by rw [←e3];rfl)
    have s3:=(hc3 j _ (Gp.out.lock.owner hx)).1
    rw [TP.out] at s3
    have hbO:(o.base++o.s.r).size=o.base.size+o.s.r.size:=ByteArray.size_append
    have key:(decide (0<j)=false∧decide ((0:Int)<j)=false∧st.dead=false)∨(∃z,decide (0<j)=true∧decide ((0:Int)<j)=true∧0<j∧f.code[j-1]?=some z∧st.dead=DF z.op):=by
     have hd:=Gp.out.dead
     unfold dP at hd
     cases j with
     | zero=>exact .inl ⟨rfl,rfl,hd⟩
     | succ i=>
      have hi:i<f.code.length:=by omega
      refine .inr ⟨f.code[i],decide_eq_true (by omega),decide_eq_true (by omega),by omega,by simp [List.getElem?_eq_getElem hi],?_⟩
      rw [hd];simp only [List.getElem?_eq_getElem hi]
    clear hx rC hP e3 hc3 hnone hbg
    rcases key with⟨d0n,d0,hdd⟩ | ⟨z,d0n,d0,hj2,hz,hdd⟩
    case' inl=>
     have GD: ∃st1,Cr st x= .inr st1∧st1.shape=st.shape:=⟨st,by rw [Z4.out,hdd];rfl,rfl⟩
     clear hdd
     go_upto_region 17 with fail
     generalize st.shape=S at GD Yk⊢
     have HST:=AA GD
     obtain⟨w2,hb2,hw2⟩: ∃w2,Below wr.heap.size wr w2∧w2=wr:=⟨wr,Below.refl _ _,rfl⟩
     have Yl:=AA hb2
     rw [←hw2]
     clear hw2 hb2 GD d0 d0n c9 x0 je s3
    case' inr=>
     obtain⟨b4,ob4,_,d4,_,_,ec4,k9,_,x4,_⟩:=Gp.out.wk.TM hz
     have e9:=k9.symm.trans c9
     injection e9 with e9;injection e9 with e9 _ _;injection e9 with e9;injection e9 with e9a e9b _
     subst e9a e9b
     have mG:Hid (Calls prog 87 #[.int .u8 (z.op.toNat:Int)] wr fun e w'=>e= .returned (.bool (DF z.op))∧wr=w'):=AA ((nH z.op wr).mono fun e w' h=>⟨h.1,h.2.symm⟩)
     have hj3:(0:Int)≤(j:Int)-1:=by omega
     have hj4:(j:Int)-1<f.code.length:=by omega
     clear k9 ec4 hz
     cases haw:DF z.op
     case' false=>
      rw [haw] at mG hdd
      have GD: ∃st1,Cr st x= .inr st1∧st1.shape=st.shape:=⟨st,by rw [Z4.out,hdd];rfl,rfl⟩
      clear haw hdd
      go_upto_region 17 with(refine mG.out.mono ?_;rintro e w' ⟨rfl,rfl⟩)
      generalize st.shape=S at GD Yk⊢
      have HST:=AA GD
      obtain⟨w2,hb2,hw2⟩: ∃w2,Below wr.heap.size wr w2∧w2=wr:=⟨wr,Below.refl _ _,rfl⟩
      have Yl:=AA hb2
      rw [←hw2]
      clear hw2 hb2 GD d0 d0n c9 x0 je s3 x4 hj3 hj4 mG
     case' true=>
      rw [haw] at mG hdd
      have vR:Hid (Cr st x=if AZ x.op=false then .inl 36 else if 256<o.base.size+o.s.r.size then .inl 34 else .inr {st with shape:=o.base++o.s.r}):=AA (by rw [Z4.out,hdd];rfl)
      clear haw hdd Z4
      by_cases hcl:AZ x.op=false
      case pos=>
       have TD:Hid (GY m f= .inl (36,(j:Int))):=AA (Gp.out.stop HC.out HX.out (by unfold EF;rw [vR.out,if_pos hcl]))
       have hq:=of_decide_eq_false hcl
       have q5:((x.op.toNat:Int) !=5)=true:=by simp;omega
       have q6:((x.op.toNat:Int) !=6)=true:=by simp;omega
       clear hcl hq
       have Tk:=AA Gp.out.res;have HBL:=AA Gp.out.Fb
       have p0:=Tk.out.q 0 rfl
       have p1:=Tk.out.q 1 rfl
       have p2:=Tk.out.q 2 rfl
       have p3:=Tk.out.q 3 rfl
       have p4:=Tk.out.q 4 rfl
       have p5:=Tk.out.frozen 0
       have p6:=Tk.out.frozen 1
       have p7:=Tk.out.frozen 2
       have p8:=Tk.out.frozen 3
       have p9:=Tk.out.frozen 4
       go_wp2_with (refine mG.out.mono ?_;rintro e w' ⟨rfl,rfl⟩)
       clear c9 x0 je s3 x4
       obtain⟨hz,hbz⟩:=Mx Tk.out HBL.out
       change bodyPost _ _ _ _ _ (IV wr (w.heap.size+1))
       clear p0 p1 p2 p3 p4 p5 p6 p7 p8 p9
       generalize IV wr (w.heap.size+1)=w8 at hz hbz⊢
       have z0:=hz.q 0 rfl
       have z1:=hz.q 1 rfl
       have z2:=hz.q 2 rfl
       have z3:=hz.q 3 rfl
       have z4:=hz.q 4 rfl
       refine⟨rfl,.tuple #[OY,.int .i64 36,.int .i64 (j:Int)],by simp [OY,results,results55,go_sem,z0,z1,z2,z3,z4],hbz,?_⟩
       rw [TD.out]
      case' neg=>
       have yS:=AA hcl
       have hq:x.op.toNat=5∨x.op.toNat=6:=by
        cases hh:AZ x.op with
        | true=>exact of_decide_eq_true hh
        | false=>exact absurd hh hcl
       have q56:(((x.op.toNat:Int) !=5)=false)∨(((x.op.toNat:Int) !=5)=true∧((x.op.toNat:Int) !=6)=false):=by
        rcases hq with e | e
        ·exact .inl (by simp;omega)
        ·exact .inr ⟨by simp;omega,by simp;omega⟩
       clear hcl hq
       by_cases hbig:256<o.base.size+o.s.r.size
       case pos=>
        have TD:Hid (GY m f= .inl (34,(j:Int))):=AA (Gp.out.stop HC.out HX.out (by unfold EF;rw [vR.out,if_neg yS.out,if_pos hbig]))
        have yw:decide ((256:Int)<(o.base.size:Int)+o.s.r.size)=true:=decide_eq_true (by omega)
        clear hbig
        rcases q56 with q5 | ⟨q5,q6⟩
        all_goals
         go_upto_region 14 with(refine mG.out.mono ?_;rintro e w' ⟨rfl,rfl⟩)
         go_wp2_with fail
         refine(HBS.out wr (Below.refl _ _)).mono ?_
         rintro e w' ⟨rfl,kk,rfl⟩
         go_wp2_with fail
         refine(L8.out (wr.drewN kk) (below_drewN (Below.refl _ _) kk)).mono ?_
         rintro e w2 ⟨rfl,hb2⟩
         have Yl:Hid (Below wr.heap.size wr w2):=AA ((below_drewN (Below.refl _ _) kk).trans hb2)
         have Tk:=AA (Gp.out.res.below Yl.out Gp.out.res.lt)
         have HBL:Hid (Below w.heap.size w w2):=AA (Gp.out.Fb.trans (Yl.out.mono Gp.out.Fb.size))
         have f1:=TH o.s.p o.s.r w2
         clear c9 x0 je s3 x4 hb2
         have p0:=Tk.out.q 0 rfl
         have p1:=Tk.out.q 1 rfl
         have p2:=Tk.out.q 2 rfl
         have p3:=Tk.out.q 3 rfl
         have p4:=Tk.out.q 4 rfl
         have p5:=Tk.out.frozen 0
         have p6:=Tk.out.frozen 1
         have p7:=Tk.out.frozen 2
         have p8:=Tk.out.frozen 3
         have p9:=Tk.out.frozen 4
         go_wp2_with fail
         obtain⟨hz,hbz⟩:=Mx Tk.out HBL.out
         change bodyPost _ _ _ _ _ (IV w2 (w.heap.size+1))
         clear p0 p1 p2 p3 p4 p5 p6 p7 p8 p9
         generalize IV w2 (w.heap.size+1)=w8 at hz hbz⊢
         have z0:=hz.q 0 rfl
         have z1:=hz.q 1 rfl
         have z2:=hz.q 2 rfl
         have z3:=hz.q 3 rfl
         have z4:=hz.q 4 rfl
         refine⟨rfl,.tuple #[OY,.int .i64 34,.int .i64 (j:Int)],by simp [OY,results,results55,go_sem,z0,z1,z2,z3,z4],hbz,?_⟩
         rw [TD.out]
       case' neg=>
        have GD: ∃st1,Cr st x= .inr st1∧st1.shape=o.base++o.s.r:=⟨_,by rw [vR.out,if_neg yS.out,if_neg hbig],rfl⟩
        have yw:decide ((256:Int)<(o.base.size:Int)+o.s.r.size)=false:=decide_eq_false (by omega)
        have HBIG:=AA hbig
        clear hbig
        have h_:=AA GD
        clear GD
        rcases q56 with q5 | ⟨q5,q6⟩
        all_goals
         go_upto_region 14 with(refine mG.out.mono ?_;rintro e w' ⟨rfl,rfl⟩)
         go_wp2_with fail
         refine(HBS.out wr (Below.refl _ _)).mono ?_
         rintro e w' ⟨rfl,kk,rfl⟩
         go_wp2_with fail
         refine(L8.out (wr.drewN kk) (below_drewN (Below.refl _ _) kk)).mono ?_
         rintro e w2 ⟨rfl,hb2⟩
         have Yl:Hid (Below wr.heap.size wr w2):=AA ((below_drewN (Below.refl _ _) kk).trans hb2)
         have f1:=TH o.s.p o.s.r w2
         clear c9 x0 je s3 x4 hb2
         go_upto_region 17 with fail
         clear Yk
         have Yk:(o.base++o.s.r).size≤256:=by have:=HBIG.out;omega
         have GD:=h_.out
         clear hadd hbO yw vR h_ f1
         generalize o.base++o.s.r=S at GD Yk⊢
         have HST:=AA GD
         clear GD
    all_goals
     have vT:=Gp.out.wk.below Yl.out
     obtain⟨st1,hb1,hsh⟩:=HST.out
     have jW:=AA hb1;have HSH:=AA hsh
     have F9:Hid (Below w.heap.size w w2):=AA (Gp.out.Fb.trans (Yl.out.mono Gp.out.Fb.size))
     have AES:=AA (Gp.out.res.below Yl.out Gp.out.res.lt)
     have Nl:Hid (Below w2.heap.size w2 (w2.alloc (.cells #[.string S] 9))):=AA ((Below.refl _ _).alloc (Nat.le_refl _) _)
     have tF:=AA (vT.below Nl.out)
     have HO:=AA (row_one w2 (.string S) 9)
     have hh1:=vT.hh
     have g15:=vT.blk.q 15 rfl
     have hlen:st.shapes.length≤2048:=by have:=Gp.out.lock.val.shapes;omega
     clear vT hb1 hsh
     go_wp2_with (at_builtin;refine D9 _ rfl (.tmp 92) (.tmp 94) 105 rfl h1 9 i1 _ 16 underlying105 HI1.out HZ1.out RG.out AAh.out rfl (.slice AS st.shapes.length cS) st.shapes.length (st.shapes.map Value.string) rfl tF.out.sh (w2.heap.size+1) _ 1 1 [.string S] rfl rfl (by exact HO.out) (by intro u hu;simp at hu;subst hu;rfl) (by unfold maxLen;omega) (by omega) (by simp;omega) ?_;intro A2 c2 w5 h2 h3 h4;have H2:=AA h2;have H3:=AA h3;have nT:=AA (Av h3 tF.out.blk (Ay tF.out.sh tF.out.blk (by decide)));have g15:=nT.out.q 15 rfl;have f15:=nT.out.frozen 15;clear h2 h3 h4)
     have hgg:=Gp.out.gg
     have hg1:=tF.out.gh
     have hsa:=tF.out.WK rfl H3.out H2.out
     have hb5:Below h1 (w2.alloc (.cells #[.string S] 9)) w5:=BK tF.out.sh H3.out (by simp;omega)
     have hr6:AQ (w5.setCell ⟨g,15,none⟩ (.slice A2 (st.shapes.length+1) c2)) (w.heap.size+1) 107 [.slice none 0 0,.slice none 0 0,.slice none 0 0,.slice none 0 0,.int .i64 0]:=((AES.out.below Nl.out AES.out.lt).below hb5 (by omega)).far (p:=⟨g,15,none⟩) (by simp;omega) _
     have hb6:Below w.heap.size w (w5.setCell ⟨g,15,none⟩ (.slice A2 (st.shapes.length+1) c2)):=((F9.out.trans (Nl.out.mono F9.out.size)).trans (hb5.mono (by omega))).setCell (p:=⟨g,15,none⟩) (by simp;omega) _
     have AET:=AA (vQ HM.out yt.out HC.out Gp.out.lock HX.out jW.out (by rw [HSH.out];exact hsa))
     have Iw:=AA hr6;have FQ:=AA hb6
     clear hsa hb5 hr6 hb6 g15 f15 nT H2 H3
     generalize w5.setCell ⟨g,15,none⟩ (.slice A2 (st.shapes.length+1) c2)=w6 at*
     refine(oO AET.out).mono ?_
     rintro e w7 ⟨Mf,Yh⟩
     have UA:Hid (Below w.heap.size w w7):=AA (FQ.out.trans (Mf.mono (by omega)))
     have Qt:=AA (Iw.out.below Mf (by omega))
     clear Mf
     cases hrow:D_ m f c.AJ j (Cy st1) x with
     | inl er=>
      rw [hrow] at Yh
      dsimp only at Yh
      subst Yh
      have hsv:EF m f c.AJ j st x= .inl er:=by unfold EF;rw [jW.out];exact hrow
      have TD:=AA (Gp.out.stop HC.out HX.out hsv)
      have hne:(er !=0)=true:=by have:=Uz hsv;simpa using this
      clear hrow hsv
      have p0:=Qt.out.q 0 rfl
      have p1:=Qt.out.q 1 rfl
      have p2:=Qt.out.q 2 rfl
      have p3:=Qt.out.q 3 rfl
      have p4:=Qt.out.q 4 rfl
      have p5:=Qt.out.frozen 0
      have p6:=Qt.out.frozen 1
      have p7:=Qt.out.frozen 2
      have p8:=Qt.out.frozen 3
      have p9:=Qt.out.frozen 4
      go_wp2_with fail
      obtain⟨hz,hbz⟩:=Mx Qt.out UA.out
      change bodyPost _ _ _ _ _ (IV w7 (w.heap.size+1))
      clear p0 p1 p2 p3 p4 p5 p6 p7 p8 p9
      generalize IV w7 (w.heap.size+1)=w8 at hz hbz⊢
      have z0:=hz.q 0 rfl
      have z1:=hz.q 1 rfl
      have z2:=hz.q 2 rfl
      have z3:=hz.q 3 rfl
      have z4:=hz.q 4 rfl
      refine⟨rfl,.tuple #[OY,.int .i64 er,.int .i64 (j:Int)],by simp [OY,results,results55,go_sem,z0,z1,z2,z3,z4],hbz,?_⟩
      rw [TD.out]
     | inr st'=>
      rw [hrow] at Yh
      dsimp only at Yh
      obtain⟨rfl,AEU⟩:=Yh
      have hsv:EF m f c.AJ j st x= .inr st':=by unfold EF;rw [jW.out];exact hrow
      have HMX:Hid (max (st.high:Int) (S.size:Int)=((st'.high:Nat):Int)):=AA (by
       rw [iO hrow]
       show _=((max st1.high st1.shape.size:Nat):Int)
       rw [(P8 Gp.out.lock.val jW.out).2.2.2.1,HSH.out];omega)
      obtain⟨sc',htb⟩:=Gp.out.next HM.out yt.out HX.out hsv UA.out Qt.out AEU
      have HTB7:=AA htb
      clear hrow hsv htb AEU
      go_wp2_with fail
      refine⟨⟨j+1,sc',st',vF,_,by omega,by go_num,rfl,by rw [HMX.out],HTB7.out⟩,by simp [intOf];omega⟩
   ·obtain rfl:f.code.length=j:=by omega
    have AEV:=AA (Gp.out.done HC.out)
    have Me:Hid (Kr f.code.length st=st.floors):=AA (oN Gp.out.lock.val.floors)
    obtain⟨Af,cf,rfl⟩:=Ck Gp.out.wk.fl
    obtain⟨Ac,dc,ec,_⟩:=Gp.out.wk.cd.cd
    obtain⟨AE,dE,eE,rE⟩:=Gp.out.wk.en
    obtain⟨AL,dL,eL,rL⟩:=Gp.out.wk.el
    have HRE:=AA rE;have HRL:=AA rL
    have g9:wr.cell? ⟨g,9,none⟩=some (.slice Ac f.code.length dc):=(Gp.out.wk.blk.cell 9).trans (by rw [←ec];rfl)
    have g11:wr.cell? ⟨g,11,none⟩=some (.slice AE f.code.length dE):=(Gp.out.wk.blk.cell 11).trans (by rw [←eE];rfl)
    have g12:wr.cell? ⟨g,12,none⟩=some (.slice AL f.code.length dL):=(Gp.out.wk.blk.cell 12).trans (by rw [←eL];rfl)
    have g14:=Gp.out.wk.blk.q 14 rfl
    have g15:=Gp.out.wk.blk.q 15 rfl
    clear ec eE eL rE rL
    go_wp2_with fail
    go_still_tail 18,(by kernel_rfl)
    repeat still_step
    try refine wpStill_nil ?_
    change wpList _ _ _ _ _ wr.drew
    have Qt:Hid (AQ wr.drew (w.heap.size+1) 107 [.slice none 0 0,.slice none 0 0,.slice none 0 0,.slice none 0 0,.int .i64 0]):=AA Gp.out.res
    have UA:Hid (Below w.heap.size w wr.drew):=AA (below_drewN Gp.out.Fb 1)
    have iQ:Hid (Dt wr.drew h1 g y m f c (.slice Af (Kr f.code.length st).length cf) (.slice AS st.shapes.length cS) (Kr f.code.length st) st.shapes):=AA (Gp.out.wk.below (below_drewN (Below.refl _ _) 1))
    have HRE7:Hid ((Rd.i64.sl false).R wr.drew (g+1) h1 [.slice AE f.code.length dE] c.ends):=AA (Rd.below HRE.out (below_drewN (Below.refl _ _) 1) Gp.out.wk.hh)
    have HRL7:Hid ((Rd.i64.sl false).R wr.drew (g+1) h1 [.slice AL f.code.length dL] c.AJ):=AA (Rd.below HRL.out (below_drewN (Below.refl _ _) 1) Gp.out.wk.hh)
    clear g9 g11 g12 g14 g15
    generalize wr.drew=w7 at*
    have p0:=Qt.out.q 0 rfl
    have p1:=Qt.out.q 1 rfl
    have p2:=Qt.out.q 2 rfl
    have p3:=Qt.out.q 3 rfl
    have p4:=Qt.out.q 4 rfl
    have p5:=Qt.out.frozen 0
    have p6:=Qt.out.frozen 1
    have p7:=Qt.out.frozen 2
    have p8:=Qt.out.frozen 3
    have p9:=Qt.out.frozen 4
    go_wp2_with fail
    obtain⟨hz,hbz,_,_⟩:=Wm (.slice AS st.shapes.length cS) (.slice AE f.code.length dE) (.slice AL f.code.length dL) (.slice Af (Kr f.code.length st).length cf) (.int .i64 (st.high:Int)) Qt.out UA.out
    have hkz:=Yj w7 (w.heap.size+1) (.slice AS st.shapes.length cS) (.slice AE f.code.length dE) (.slice AL f.code.length dL) (.slice Af (Kr f.code.length st).length cf) (.int .i64 (st.high:Int))
    change bodyPost _ _ _ _ _ (IW w7 (w.heap.size+1) (.slice AS st.shapes.length cS) (.slice AE f.code.length dE) (.slice AL f.code.length dL) (.slice Af (Kr f.code.length st).length cf) (.int .i64 (st.high:Int)))
    clear p0 p1 p2 p3 p4 p5 p6 p7 p8 p9
    generalize IW w7 (w.heap.size+1) (.slice AS st.shapes.length cS) (.slice AE f.code.length dE) (.slice AL f.code.length dL) (.slice Af (Kr f.code.length st).length cf) (.int .i64 (st.high:Int))=w8 at hz hbz hkz⊢
    have z0:=hz.q 0 rfl
    have z1:=hz.q 1 rfl
    have z2:=hz.q 2 rfl
    have z3:=hz.q 3 rfl
    have z4:=hz.q 4 rfl
    refine⟨rfl,.tuple #[.agg #[.slice AS st.shapes.length cS,.slice AE f.code.length dE,.slice AL f.code.length dL,.slice Af (Kr f.code.length st).length cf,.int .i64 (st.high:Int)],.int .i64 0,.int .i64 0],?_,hbz,?_⟩
    ·simp [results,results55,go_sem,z0,z1,z2,z3,z4]
    ·rw [AEV.out]
     have hgg:=Gp.out.gg
     have hgh:=iQ.out.gh
     have hhh:=iQ.out.hh
     have hsz:=hkz.size
     have hct:=QM HC.out
     have hval:=Gp.out.lock.val
     have o1:=DZ iQ.out.sh hkz (fun q hq=>by have:=(iQ.out.sh.lt q hq).1;show q≠_;omega)
     have o2:=DZ iQ.out.fl hkz (fun q hq=>by have:=(iQ.out.fl.lt q hq).1;show q≠_;omega)
     have hmp:(Kr f.code.length st).map iv=st.floors.map iv:=by rw [Me.out]
     rw [hmp] at o2
     have r1:=Rd.C8 HRE7.out hkz hhh (fun q h1 _=>by show q≠_;omega)
     have r2:=Rd.C8 HRL7.out hkz hhh (fun q h1 _=>by show q≠_;omega)
     refine⟨_,rfl,ME.2 ⟨_,_,_,_,rfl,Rd.more _ (by omega) (Nat.le_refl _) (Yf o1 fun s hm=> ?_),Rd.more _ (by omega) (by omega) r1,Rd.more _ (by omega) (by omega) r2,Rd.more _ (by omega) (Nat.le_refl _) (Mi o2 fun v hm=> ?_),?_⟩⟩
     ·have:=hval.bnd s hm;unfold Rd.Pq;omega
     ·have:=hval.fl v hm;unfold Rd.G8;omega
     ·have:=hval.high
      show Rd.G8 (st.high:Int)
      unfold Rd.G8;omega
end Go.Proofs.YtlagonfamllgjaaGreatDoor
