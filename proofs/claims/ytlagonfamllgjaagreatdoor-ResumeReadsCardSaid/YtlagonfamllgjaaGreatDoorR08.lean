/- Part 8 of the proof: R9M -/
import Derived.Test.YtlagonfamllgjaaGreatDoorR07
namespace Go.Proofs.YtlagonfamllgjaaGreatDoor
set_option linter.unusedVariables false
set_option linter.unusedSimpArgs false
set_option maxRecDepth 100000
set_option maxHeartbeats 4000000
open Go.RowKit Tryz
theorem DJ (o:Nat) (ho:o<256) (w:World):Calls prog 117 #[.int .u8 o] w fun e w'=>w=w'∧e= .returned (.bool (decide (o=2∨o=3∨o=4))):=by
 have e2:((o:Int)==2)=decide (o=2):=by by_cases h:o=2<;>simp [h];omega
 have e3:((o:Int)==3)=decide (o=3):=by by_cases h:o=3<;>simp [h];omega
 have e4:((o:Int)==4)=decide (o=4):=by by_cases h:o=4<;>simp [h];omega
 by_cases h2:o=2
 ·subst h2
  go_enter func117,ntmps117
  go_wp2_with fail
  go_ret
  exact⟨rfl,rfl⟩
 ·by_cases h3:o=3
  ·subst h3
   go_enter func117,ntmps117
   go_wp2_with fail
   go_ret
   exact⟨rfl,rfl⟩
  ·rw [decide_eq_false h2] at e2
   rw [decide_eq_false h3] at e3
   go_enter func117,ntmps117
   go_wp2_with fail
   go_ret
   refine⟨rfl,?_⟩
   show Ending.returned (.bool (decide (o=4)))=_
   congr 2
   simp [h2,h3]
theorem bM {st:Ai} {n p:Nat} (hl:st.AB.length=n) (hp:p<n):(st.AB.map iv)[p]?=some (.int .i64 (BJ st p)):=by
 rw [List.getElem?_map,List.getElem?_eq_getElem (by omega)]
 unfold BJ
 rw [List.getD_eq_getElem?_getD,List.getElem?_eq_getElem (by omega)]
 rfl
structure JJ (w wr:World) (v1 v2 v3 vo:Value) (st:Ai):Prop where
 Ep:Below w.heap.size w wr
 fam:Fam 4 wr w.heap.size 3 (L_ v1 v2 v3 vo (st.ends.map iv) (st.AB.map iv) (st.BF.map iv) (st.op.reverse.map (fun p=>iv (p:Nat))))
structure Zj (w wr:World) (code:List Ad) (v1 v2 v3 vo:Value) (pc:Nat) (st:Ai):Prop where
 row:JJ w wr v1 v2 v3 vo st
 ok:Lh code.length pc st
 go:Gf code (code.length-pc) st=ctl code
def Jr (code:List Ad) (w:World) (e:Ending) (w':World):Prop:=match ctl code with
 | .inl x=>e= .returned (.tuple #[.slice none 0 0,.slice none 0 0,.slice none 0 0,.int .i64 x.1,.int .i64 x.2])
 | .inr c=> ∃A1 c1 A2 c2 A3 c3,e= .returned (.tuple #[.slice A1 code.length c1,.slice A2 code.length c2,.slice A3 code.length c3,.int .i64 0,.int .i64 0])∧
  (Rd.i64.sl false).R w' w.heap.size w'.heap.size [.slice A1 code.length c1] c.ends∧(Rd.i64.sl false).R w' w.heap.size w'.heap.size [.slice A2 code.length c2] c.AB∧(Rd.i64.sl false).R w' w.heap.size w'.heap.size [.slice A3 code.length c3] c.BF
theorem Zj.stop {w wr:World} {code:List Ad} {v1 v2 v3 vo:Value} {pc:Nat} {st:Ai} (h:Zj w wr code v1 v2 v3 vo pc st) (hlt:pc<code.length) {e:Int×Int} (hs:Ae code st pc= .inl e):ctl code= .inl e:=by
 rw [←h.go,Ke hlt hs]
theorem Zj.next {w wr w':World} {code:List Ad} {v1 v2 v3 vo v1' v2' v3' vo':Value} {pc:Nat} {st st':Ai} (h:Zj w wr code v1 v2 v3 vo pc st) (hlt:pc<code.length) (hs:Ae code st pc= .inr st')
 (hr:JJ w w' v1' v2' v3' vo' st'):Zj w w' code v1' v2' v3' vo' (pc+1) st':=
 ⟨hr,Kc h.ok hs,by rw [←I6 hlt hs];exact h.go⟩
section
variable {w wr w':World} {v1 v2 v3 vo:Value} {st:Ai}
theorem JJ.below (h:JJ w wr v1 v2 v3 vo st) (hb:Below wr.heap.size wr w'):JJ w w' v1 v2 v3 vo st:=
 ⟨h.Ep.trans (hb.mono h.Ep.size),h.fam.below hb⟩
theorem JJ.ACh (h:JJ w wr v1 v2 v3 vo st) {b c:Nat} (hv:v1= .slice (some ⟨b,0,none⟩) st.ends.length c) (hb:w.heap.size≤b) (p:Nat) (x:Int):JJ w (wr.setCell ⟨b,p,none⟩ (iv x)) v1 v2 v3 vo {st with ends:=st.ends.set p x}:=by
 refine⟨h.Ep.setCell hb _,(h.fam.set (i:=0) (by decide) (b:=b) (c:=c) hv (by simp [L_]) p (iv x)).congr fun i hi=> ?_⟩
 rcases kT hi with rfl | rfl | rfl | rfl<;>simp [L_,OY,List.map_set]
theorem JJ.setL (h:JJ w wr v1 v2 v3 vo st) {b c:Nat} (hv:v2= .slice (some ⟨b,0,none⟩) st.AB.length c) (hb:w.heap.size≤b) (p:Nat) (x:Int):JJ w (wr.setCell ⟨b,p,none⟩ (iv x)) v1 v2 v3 vo {st with AB:=st.AB.set p x}:=by
 refine⟨h.Ep.setCell hb _,(h.fam.set (i:=1) (by decide) (b:=b) (c:=c) hv (by simp [L_]) p (iv x)).congr fun i hi=> ?_⟩
 rcases kT hi with rfl | rfl | rfl | rfl<;>simp [L_,OY,List.map_set]
theorem JJ.ACi (h:JJ w wr v1 v2 v3 vo st) {b c:Nat} (hv:v3= .slice (some ⟨b,0,none⟩) st.BF.length c) (hb:w.heap.size≤b) (p:Nat) (x:Int):JJ w (wr.setCell ⟨b,p,none⟩ (iv x)) v1 v2 v3 vo {st with BF:=st.BF.set p x}:=by
 refine⟨h.Ep.setCell hb _,(h.fam.set (i:=2) (by decide) (b:=b) (c:=c) hv (by simp [L_]) p (iv x)).congr fun i hi=> ?_⟩
 rcases kT hi with rfl | rfl | rfl | rfl<;>simp [L_,OY,List.map_set]
theorem JJ.push (h:JJ w wr v1 v2 v3 vo st) (pc:Nat) {n:Nat} (hn:n=st.op.length) {A:Option Addr} {c:Nat} (hg:wr.grownBy w' vo.ownBlock) (ho:w'.ownsRow w.heap.size 3 1 (.slice A (n+1) c) (n+1) (st.op.reverse.map (fun p=>iv (p:Nat))++ [iv pc]))
 (hb:(Value.slice A (n+1) c).ownBlock=vo.ownBlock∨(Value.slice A (n+1) c).ownBlock=some wr.heap.size):JJ w w' v1 v2 v3 (.slice A (n+1) c) {st with op:=pc::st.op}:=by
 subst hn
 have hf:=h.fam.app 3 (by decide) (news:= [iv pc]) (n:=st.op.length) (m:=1) (A:=A) (c:=c) rfl (by simp) hg ho hb
 refine⟨h.Ep.trans ⟨hg.os,hg.tape,hg.output,hg.size,fun k h1=>hg.block k (by have:=h.Ep.size;omega) (fun e=> ?_)⟩,hf.congr fun i hi=> ?_⟩
 ·have:=((h.fam.own 3 (by decide)).lt k e.symm).1
  omega
 ·rcases kT hi with rfl | rfl | rfl | rfl<;>simp [L_,OY]
theorem JJ.pop (h:JJ w wr v1 v2 v3 vo st) {p:Nat} {r:List Nat} (hop:st.op=p::r) {A:Option Addr} {c:Nat} (hv:vo= .slice A (r.length+1) c):JJ w wr v1 v2 v3 (.slice A r.length c) {st with op:=r}:=by
 subst hv
 have ho:=h.fam.o 3 (by decide) (n:=r.length+1) rfl (by rw [hop];simp)
 have h2:=SF ho (m:=r.length) (by omega)
 refine⟨h.Ep,(h.fam.put (i:=3) (w':=wr) (by decide) (v:= .slice A r.length c) (xs:=r.reverse.map (fun p=>iv (p:Nat))) ?_ ?_ (.inl ?_)).congr fun i hi=> ?_⟩
 ·exact⟨rfl,rfl,rfl,Nat.le_refl _,fun _ _ _=>rfl⟩
 ·rw [hop,List.reverse_cons,List.map_append,Nat.mul_one,List.take_left' (by simp)] at h2
  simpa using h2
 ·cases A<;>rfl
 ·rcases kT hi with rfl | rfl | rfl | rfl<;>simp [L_,OY]
theorem r9 (h:JJ w wr v1 v2 v3 vo st) {n:Nat} (hk:Lh n n st) (hn:n≤1000000):(∃A1 c1,v1= .slice A1 n c1∧(Rd.i64.sl false).R wr w.heap.size wr.heap.size [.slice A1 n c1] st.ends)∧(∃A1 c1,v2= .slice A1 n c1∧(Rd.i64.sl false).R wr w.heap.size wr.heap.size [.slice A1 n c1] st.AB)∧(∃A1 c1,v3= .slice A1 n c1∧(Rd.i64.sl false).R wr w.heap.size wr.heap.size [.slice A1 n c1] st.BF):=by
 have key: ∀(v:Value) (l:List Int),wr.ownsRow w.heap.size 3 1 v n (l.map iv)→(∀x∈l,-1≤x∧x<n)→ ∃A1 c1,v= .slice A1 n c1∧(Rd.i64.sl false).R wr w.heap.size wr.heap.size [.slice A1 n c1] l:=by
  intro v l ho hb
  obtain⟨A,c,rfl⟩:=CZ ho
  exact⟨A,c,rfl,MB ho fun x hx=>by have:=hb x hx;unfold Rd.Gd;omega⟩
 refine⟨key v1 _ (h.fam.o 0 (by decide) rfl (by simp [hk.ends])) hk.bE,key v2 _ (h.fam.o 1 (by decide) rfl (by simp [hk.AB])) hk.bL,key v3 _ (h.fam.o 2 (by decide) rfl (by simp [hk.BF])) hk.bO⟩
end
theorem Si {w wr w5:World} {e:TypeId} {f g:Nat→Value×List Value} (i:Nat) (hi:i<4) {v x:Value} {xs:List Value} {n:Nat} {A:Option Addr} {c:Nat} (hb:Below w.heap.size w wr) (hf:Fam 4 (wr.alloc (.cells #[x] e)) w.heap.size e f)
 (hfi:f i=(v,xs)) (hn:n=xs.length) (h2:w5.ownsRow w.heap.size e 1 (.slice A (n+1) c) (n+1) (xs++ [x])) (h3:(wr.alloc (.cells #[x] e)).grownBy w5 v.ownBlock)
 (h4:(Value.slice A (n+1) c).ownBlock=v.ownBlock∨(Value.slice A (n+1) c).ownBlock=some (wr.alloc (.cells #[x] e)).heap.size) (hg: ∀j,j<4→g j=OY f i (.slice A (n+1) c,xs++ [x]) j):
 Below w.heap.size w w5∧Fam 4 w5 w.heap.size e g:=by
 have ho:=hf.o i hi hfi hn
 refine⟨(hb.alloc hb.size _).trans (BG ho h3 (by have:=hb.size;simp;omega)),(hf.app i hi hfi (by simp [hn]) h3 h2 h4).congr hg⟩
theorem Oi (k:Nat) (x:Value):List.replicate k x++ [x]=List.replicate (k+1) x:=List.replicate_succ'.symm
set_option maxHeartbeats 16000000 in
theorem lM (A:Option Addr) (c hi:Nat) (code:List Ad) (w:World) (h:(Ga.sl false).R w 0 hi [.slice A code.length c] code) (hhi:hi≤w.heap.size) (hn:code.length≤1000000):
 Calls prog 113 #[.slice A code.length c] w fun e w'=>Below w.heap.size w w'∧Jr code w e w':=by
 have H:=AA h;clear h
 obtain⟨i0,hi0,hz0,hs0,Xx⟩:=info_parts JG
 have HI:=AA hi0;have HZ:=AA hz0;have HS:=AA hs0;have bC:=AA Xx
 clear hi0 hz0 hs0 Xx
 go_enter func113,ntmps113
 go_wp2_with fail
 go_loopw [7,8,9,10] (fun v1 v2 v3 i wr=> ∃(k:Nat),k≤code.length∧i= .int .i64 k∧Below w.heap.size w wr∧Fam 4 wr w.heap.size 3 (L_ v1 v2 v3 (.slice none 0 0) (List.replicate k (iv (-1))) (List.replicate k (iv (-1))) (List.replicate k (iv (-1))) []))
  (fun _ _ _ i _=>code.length-(intOf i).toNat)
 case atStart=>
  refine⟨0,Nat.zero_le _,rfl,Below.refl _ _,fun i hi=> ?_,fun i j hi hj hn b hb=> ?_⟩
  ·rcases kT hi with rfl | rfl | rfl | rfl<;>exact World.ownsRow_nil _ _ _ _
  ·rcases kT hi with rfl | rfl | rfl | rfl<;>cases hb
 case round=>
  obtain⟨k,hk,rfl,hb,hf⟩:=hrel
  by_cases hlt:k<code.length
  ·have hl:k=(List.replicate k (iv (-1))).length:=by simp
   have hsz:=hb.size
   have HB:=AA hb
   have HF:=AA (hf.below ((Below.refl _ _).alloc (Nat.le_refl _) (.cells #[iv (-1)] 3)))
   have HO:=AA (row_one wr (iv (-1)) 3)
   obtain⟨A1,c1,rfl⟩:=CZ (hf.o 0 (by decide) rfl hl)
   obtain⟨B1,d1,rfl⟩:=CZ (hf.o 1 (by decide) rfl hl)
   obtain⟨E1,e1,rfl⟩:=CZ (hf.o 2 (by decide) rfl hl)
   clear hb hl hf
   go_upto_region 6 with(at_builtin;refine D_ _ rfl (.tmp 22) (.tmp 23) 23 rfl w.heap.size 3 i0 _ 8 underlying23 HI.out HZ.out HS.out bC.out rfl _ k (List.replicate k (iv (-1))) rfl (by exact HF.out.o 0 (by decide) rfl (by simp)) (wr.heap.size+1) _ 1 1 [iv (-1)] rfl rfl (by exact HO.out) (by intro u hu;simp at hu;subst hu;rfl) (by unfold maxLen;omega) (by omega) (by simp;omega) ?_;intro A2 c2 w5 h2 h3 h4;have H2:=AA h2;have H3:=AA h3;have H4:=AA h4;clear h2 h3 h4)
   have hst:=Si 0 (by decide) HB.out HF.out rfl (by simp) H2.out H3.out H4.out (g:=L_ (.slice A2 (k+1) c2) (.slice B1 k d1) (.slice E1 k e1) (.slice none 0 0) (List.replicate (k+1) (iv (-1))) (List.replicate k (iv (-1))) (List.replicate k (iv (-1))) []) (fun j hj=>by rcases kT hj with rfl | rfl | rfl | rfl<;>simp [L_,OY,Oi])
   clear H2 H3 H4 HO HF
   have HF:=AA hst.2
   have HB:=AA hst.1
   have hsz:=hst.1.size
   clear hst
   have HF:=AA (HF.out.below ((Below.refl _ _).alloc (Nat.le_refl _) (.cells #[iv (-1)] 3)))
   have HO:=AA (row_one w5 (iv (-1)) 3)
   go_upto_region 7 with(at_builtin;refine D_ _ rfl (.tmp 25) (.tmp 26) 23 rfl w.heap.size 3 i0 _ 8 underlying23 HI.out HZ.out HS.out bC.out rfl _ k (List.replicate k (iv (-1))) rfl (by exact HF.out.o 1 (by decide) rfl (by simp)) (w5.heap.size+1) _ 1 1 [iv (-1)] rfl rfl (by exact HO.out) (by intro u hu;simp at hu;subst hu;rfl) (by unfold maxLen;omega) (by omega) (by simp;omega) ?_;intro B2 d2 w6 h2 h3 h4;have H2:=AA h2;have H3:=AA h3;have H4:=AA h4;clear h2 h3 h4)
   have hst:=Si 1 (by decide) HB.out HF.out rfl (by simp) H2.out H3.out H4.out (g:=L_ (.slice A2 (k+1) c2) (.slice B2 (k+1) d2) (.slice E1 k e1) (.slice none 0 0) (List.replicate (k+1) (iv (-1))) (List.replicate (k+1) (iv (-1))) (List.replicate k (iv (-1))) []) (fun j hj=>by rcases kT hj with rfl | rfl | rfl | rfl<;>simp [L_,OY,Oi])
   clear H2 H3 H4 HO HF
   have HF:=AA hst.2
   have HB:=AA hst.1
   have hsz:=hst.1.size
   clear hst
   have HF:=AA (HF.out.below ((Below.refl _ _).alloc (Nat.le_refl _) (.cells #[iv (-1)] 3)))
   have HO:=AA (row_one w6 (iv (-1)) 3)
   go_wp2_with (at_builtin;refine D_ _ rfl (.tmp 28) (.tmp 29) 23 rfl w.heap.size 3 i0 _ 8 underlying23 HI.out HZ.out HS.out bC.out rfl _ k (List.replicate k (iv (-1))) rfl (by exact HF.out.o 2 (by decide) rfl (by simp)) (w6.heap.size+1) _ 1 1 [iv (-1)] rfl rfl (by exact HO.out) (by intro u hu;simp at hu;subst hu;rfl) (by unfold maxLen;omega) (by omega) (by simp;omega) ?_;intro E2 e2 w7 h2 h3 h4;have H2:=AA h2;have H3:=AA h3;have H4:=AA h4;clear h2 h3 h4)
   have hst:=Si 2 (by decide) HB.out HF.out rfl (by simp) H2.out H3.out H4.out (g:=L_ (.slice A2 (k+1) c2) (.slice B2 (k+1) d2) (.slice E2 (k+1) e2) (.slice none 0 0) (List.replicate (k+1) (iv (-1))) (List.replicate (k+1) (iv (-1))) (List.replicate (k+1) (iv (-1))) []) (fun j hj=>by rcases kT hj with rfl | rfl | rfl | rfl<;>simp [L_,OY,Oi])
   clear H2 H3 H4 HO HF
   have HF:=AA hst.2
   have HB:=AA hst.1
   have hsz:=hst.1.size
   clear hst
   exact⟨⟨k+1,by omega,by go_num,HB.out,HF.out⟩,by simp [intOf];omega⟩
  ·obtain rfl:k=code.length:=by omega
   obtain⟨u7,c7,rfl⟩:=CZ (hf.o 0 (by decide) (n:=code.length) rfl (by simp))
   obtain⟨u8,c8,rfl⟩:=CZ (hf.o 1 (by decide) (n:=code.length) rfl (by simp))
   obtain⟨u9,c9,rfl⟩:=CZ (hf.o 2 (by decide) (n:=code.length) rfl (by simp))
   have HB:=AA hb;have HF:=AA hf
   clear hb hf
   have HM0:Hid (Zj w wr code (.slice u7 code.length c7) (.slice u8 code.length c8) (.slice u9 code.length c9) (.slice none 0 0) 0 (Ck code.length)):=AA (by
    refine⟨⟨HB.out,HF.out.congr fun i hi=> ?_⟩,JW _,by rw [Nat.sub_zero];rfl⟩
    rcases kT hi with rfl | rfl | rfl | rfl<;>simp [L_,Ck])
   clear HB HF
   go_wp2_with fail
   go_loopw [11,12,13] (fun vo dn i wr=> ∃(pc:Nat) (st:Ai),i= .int .i64 pc∧dn= .bool st.done∧Zj w wr code (.slice u7 code.length c7) (.slice u8 code.length c8) (.slice u9 code.length c9) vo pc st)
    (fun _ _ i _=>code.length-(intOf i).toNat)
   case atStart=>exact⟨0,_,rfl,rfl,HM0.out⟩
   case round=>
    obtain⟨pc,st,rfl,rfl,hm⟩:=hrel
    have HM:=AA hm
    have hle:=hm.ok.le
    have J_:=hm.ok.few
    obtain⟨Ao,co,hvo⟩:=CZ (hm.row.fam.o 3 (by decide) (n:=st.op.length) rfl (by simp))
    subst hvo
    clear hm HM0
    by_cases hlt:pc<code.length
    ·have HR:=AA HM.out.row
     by_cases hd:st.done=true
     ·have HC:=AA (HM.out.stop hlt (OX hd))
      have N_:=HR
      rw [hd]
      go_wp2_with fail
      try rw [Exit.noGoto_ret]
      (try simp only [Exit.inBlock,Exit.then]);refine bodyPost_ret (Bv rfl _ _ _) rfl ?_
      refine⟨N_.out.Ep,?_⟩
      unfold Jr
      rw [HC.out]
      exact rfl
     ·have hd:st.done=false:=by simpa using hd
      obtain⟨x,hx⟩: ∃x,code[pc]?=some x:=⟨_,List.getElem?_eq_getElem hlt⟩
      obtain⟨b,o,Gb,GH,rfl,_,N7,hc0,_,_,_,_⟩:=EP (Rd.below H.out HM.out.row.Ep hhi) hx
      obtain⟨b1,c1,e0,hb1,hl1,_⟩:=FL (HR.out.fam.o 0 (by decide) (n:=code.length) rfl (by simp [HM.out.ok.ends])) (by omega)
      obtain⟨b2,c2,e1,hb2,hl2,_⟩:=FL (HR.out.fam.o 1 (by decide) (n:=code.length) rfl (by simp [HM.out.ok.AB])) (by omega)
      obtain⟨b3,c3,e2,hb3,hl3,_⟩:=FL (HR.out.fam.o 2 (by decide) (n:=code.length) rfl (by simp [HM.out.ok.BF])) (by omega)
      injection e0 with e0 _ e0';injection e1 with e1 _ e1';injection e2 with e2 _ e2'
      subst e0 e0' e1 e1' e2 e2'
      have o3:=HR.out.fam.o 2 (by decide) (n:=code.length) rfl (by simp [HM.out.ok.BF])
      have h3f:=o3.frozenAt pc
      obtain⟨u3,h3c⟩: ∃u,wr.cell? ⟨b3,pc,none⟩=some u:=⟨_,by rw [o3.cellAt pc (by omega),List.getElem?_eq_getElem (by simp [HM.out.ok.BF];omega)]⟩
      have ACK:(0:Int)≤pc:=by omega
      have Hx:=AA hx
      have hou:x.op.toNat<256:=UInt8.toNat_lt _
      clear o3 hx
      rcases(show st.op= []∨ ∃p r,st.op=p::r from by cases st.op with | nil=>exact .inl rfl | cons p r=>exact .inr ⟨p,r,rfl⟩)with hop | ⟨p,r,hop⟩
      ·as_aux_lemma=>
       have Hop:=AA hop
       have ht:EF st.op= -1:=by rw [hop];rfl
       have hl:st.op.length=0:=by rw [hop];rfl
       have N_:Hid (JJ w (wr.setCell ⟨b3,pc,none⟩ (.int .i64 (-1))) (.slice (some ⟨b1,0,none⟩) code.length c7) (.slice (some ⟨b2,0,none⟩) code.length c8) (.slice (some ⟨b3,0,none⟩) code.length c9) (.slice Ao 0 co) (Am st pc)):=AA (by
        have:=HR.out.ACi (b:=b3) (c:=c9) (by rw [HM.out.ok.BF]) hb3 pc (EF st.op)
        rw [hl] at this
        rw [←ht]
        exact this)
       rw [hl,hd]
       clear hop hl ht
       go_upto_region 20 with fail
       generalize wr.setCell _ _=w5 at*
       by_cases ho:BD x.op=true
       ·have ZV:x.op.toNat=2∨x.op.toNat=3∨x.op.toNat=4:=of_decide_eq_true ho
        have g5:((x.op.toNat:Int)==5)=false:=by simp;omega
        have g6:((x.op.toNat:Int)==6)=false:=by simp;omega
        have hs:Ae code st pc= .inr {Am st pc with op:=pc::st.op}:=by
         unfold Ae;rw [hd,Hx.out];simp only [Bool.false_eq_true,if_false];rw [if_pos ho,if_neg (by rw [Hop.out];simp)]
        have Hs:=AA hs
        clear hs ZV
        go_wp2_with fail
        refine(DJ _ hou _).mono ?_
        rintro e w6 ⟨rfl,rfl⟩
        rw [show decide (x.op.toNat=2∨x.op.toNat=3∨x.op.toNat=4)=true from ho]
        clear ho
        have wH:=AA (N_.out.below ((Below.refl _ _).alloc (Nat.le_refl _) (.cells #[iv pc] 3)))
        have HO:=AA (row_one w5 (iv pc) 3)
        have hsz:=N_.out.Ep.size
        go_wp2_with (at_builtin;refine D_ _ rfl (.tmp 63) (.tmp 65) 23 rfl w.heap.size 3 i0 _ 8 underlying23 HI.out HZ.out HS.out bC.out rfl _ 0 (st.op.reverse.map (fun p=>iv (p:Nat))) rfl (by exact wH.out.fam.o 3 (by decide) rfl (by simp [Hop.out])) (w5.heap.size+1) _ 1 1 [iv pc] rfl rfl (by exact HO.out) (by intro u hu;simp at hu;subst hu;rfl) (by unfold maxLen;omega) (by omega) (by simp;omega) ?_;intro A2 c2 w6 h2 h3 h4;have H2:=AA h2;have H3:=AA h3;have H4:=AA h4;clear h2 h3 h4)
        exact⟨⟨pc+1,{Am st pc with op:=pc::st.op},by go_num,by rw [show({Am st pc with op:=pc::st.op}:Ai).done=st.done from rfl,hd],HM.out.next hlt Hs.out (wH.out.push pc (by rw [show(Am st pc).op=st.op from rfl,Hop.out];rfl) H3.out H2.out H4.out)⟩,by simp [intOf];omega⟩
       ·have ho:BD x.op=false:=by simpa using ho
        by_cases h5:x.op.toNat=5
        ·have g5:((x.op.toNat:Int)==5)=true:=by simp;omega
         have hs:Ae code st pc= .inl (37,pc):=by
          unfold Ae;rw [hd,Hx.out];simp only [Bool.false_eq_true,if_false];rw [if_neg (by rw [ho];decide),if_pos h5,Hop.out]
         have HC:=AA (HM.out.stop hlt hs)
         clear hs h5
         go_wp2_with fail
         refine(DJ _ hou _).mono ?_
         rintro e w6 ⟨rfl,rfl⟩
         rw [show decide (x.op.toNat=2∨x.op.toNat=3∨x.op.toNat=4)=false from ho]
         go_wp2_with fail
         try rw [Exit.noGoto_ret]
         (try simp only [Exit.inBlock,Exit.then]);refine bodyPost_ret (Bv rfl _ _ _) rfl ?_
         refine⟨N_.out.Ep,?_⟩
         unfold Jr
         rw [HC.out]
         exact rfl
        ·have g5:((x.op.toNat:Int)==5)=false:=by simp;omega
         by_cases h6:x.op.toNat=6
         ·have g6:((x.op.toNat:Int)==6)=true:=by simp;omega
          have hs:Ae code st pc= .inr {Am st pc with done:=true}:=by
           unfold Ae;rw [hd,Hx.out];simp only [Bool.false_eq_true,if_false];rw [if_neg (by rw [ho];decide),if_neg h5,if_pos h6,Hop.out]
          have Hs:=AA hs
          clear hs h5 h6
          go_wp2_with fail
          refine(DJ _ hou _).mono ?_
          rintro e w6 ⟨rfl,rfl⟩
          rw [show decide (x.op.toNat=2∨x.op.toNat=3∨x.op.toNat=4)=false from ho]
          go_wp2_with fail
          exact⟨⟨pc+1,{Am st pc with done:=true},by go_num,rfl,HM.out.next hlt Hs.out ⟨N_.out.Ep,N_.out.fam⟩⟩,by simp [intOf];omega⟩
         ·have g6:((x.op.toNat:Int)==6)=false:=by simp;omega
          have hs:Ae code st pc= .inr (Am st pc):=by
           unfold Ae;rw [hd,Hx.out];simp only [Bool.false_eq_true,if_false];rw [if_neg (by rw [ho];decide),if_neg h5,if_neg h6]
          have Hs:=AA hs
          clear hs h5 h6
          go_wp2_with fail
          refine(DJ _ hou _).mono ?_
          rintro e w6 ⟨rfl,rfl⟩
          rw [show decide (x.op.toNat=2∨x.op.toNat=3∨x.op.toNat=4)=false from ho]
          go_wp2_with fail
          exact⟨⟨pc+1,Am st pc,by go_num,by rw [show(Am st pc).done=st.done from rfl,hd],HM.out.next hlt Hs.out N_.out⟩,by simp [intOf];omega⟩
      ·as_aux_lemma=>
       have Hop:=AA hop
       have ht:EF st.op=p:=by rw [hop];rfl
       have hl:st.op.length=r.length+1:=by rw [hop];rfl
       have hp:p<pc:=HM.out.ok.low p (by rw [hop];exact List.mem_cons_self ..)
       have hfr:r.length+1≤32:=by rw [hop] at J_;simpa using J_
       have hpn:p<code.length:=by omega
       have hp0:(0:Int)≤p:=by omega
       have N_:Hid (JJ w (wr.setCell ⟨b3,pc,none⟩ (.int .i64 p)) (.slice (some ⟨b1,0,none⟩) code.length c7) (.slice (some ⟨b2,0,none⟩) code.length c8) (.slice (some ⟨b3,0,none⟩) code.length c9) (.slice Ao (r.length+1) co) (Am st pc)):=AA (by
        have:=HR.out.ACi (b:=b3) (c:=c9) (by rw [HM.out.ok.BF]) hb3 pc (EF st.op)
        rw [hl] at this
        rw [←ht]
        exact this)
       obtain⟨bo,co',eo,hbo,hlo,hcap⟩:=FL (HR.out.fam.o 3 (by decide) (n:=r.length+1) rfl (by simp [hop])) (by omega)
       rw [hl] at eo
       injection eo with eo _ eo'
       subst eo eo'
       have otop:wr.cell? ⟨bo,r.length,none⟩=some (.int .i64 p):=by
        have o4:=HR.out.fam.o 3 (by decide) (n:=r.length+1) rfl (by simp [hop])
        rw [hl] at o4
        rw [o4.cellAt r.length (by omega),hop]
        simp [iv]
       obtain⟨y,hy⟩: ∃y,code[p]?=some y:=⟨_,List.getElem?_eq_getElem hpn⟩
       have wI:opAt code p=y.op.toNat:=by unfold opAt;rw [hy]
       rw [hl,hd]
       clear hop hl ht
       go_upto_region 20 with fail
       generalize wr.setCell _ _=w5 at*
       obtain⟨b',o',A_l',c_l',he',_,hbh',hd0,_,_,_,_⟩:=EP (Rd.below H.out N_.out.Ep hhi) hy
       injection he' with he'
       injection he' with he1 he2 _
       subst he1 he2
       have o2:=N_.out.fam.o 1 (by decide) (n:=code.length) rfl (by simp [Am,HM.out.ok.AB])
       have he2:w5.cell? ⟨b2,p,none⟩=some (.int .i64 (BJ st p)):=by
        have:=o2.cellAt p (by omega)
        rw [this];exact bM HM.out.ok.AB hpn
       have h2f:=o2.frozenAt p
       have hl25:b2<w5.heap.size:=(o2.lt b2 rfl).2
       clear o2
       by_cases ho:BD x.op=true
       ·have ZV:x.op.toNat=2∨x.op.toNat=3∨x.op.toNat=4:=of_decide_eq_true ho
        have g5:((x.op.toNat:Int)==5)=false:=by simp;omega
        have g6:((x.op.toNat:Int)==6)=false:=by simp;omega
        by_cases LA:32≤st.op.length
        ·have hs:Ae code st pc= .inl (35,pc):=by
          unfold Ae;rw [hd,Hx.out];simp only [Bool.false_eq_true,if_false];rw [if_pos ho,if_pos LA]
         have HC:=AA (HM.out.stop hlt hs)
         have qd:((r.length:Int)+1==32)=true:=by rw [Hop.out] at LA J_;simp at LA J_;simp;omega
         clear hs LA ZV
         go_wp2_with fail
         refine(DJ _ hou _).mono ?_
         rintro e w6 ⟨rfl,rfl⟩
         rw [show decide (x.op.toNat=2∨x.op.toNat=3∨x.op.toNat=4)=true from ho]
         go_wp2_with fail
         try rw [Exit.noGoto_ret]
         (try simp only [Exit.inBlock,Exit.then]);refine bodyPost_ret (Bv rfl _ _ _) rfl ?_
         refine⟨N_.out.Ep,?_⟩
         unfold Jr
         rw [HC.out]
         exact rfl
        ·have qd:((r.length:Int)+1==32)=false:=by rw [Hop.out] at LA;simp at LA;simp;omega
         have hs:Ae code st pc= .inr {Am st pc with op:=pc::st.op}:=by
          unfold Ae;rw [hd,Hx.out];simp only [Bool.false_eq_true,if_false];rw [if_pos ho,if_neg LA]
         have Hs:=AA hs
         clear hs ZV LA
         go_wp2_with fail
         refine(DJ _ hou _).mono ?_
         rintro e w6 ⟨rfl,rfl⟩
         rw [show decide (x.op.toNat=2∨x.op.toNat=3∨x.op.toNat=4)=true from ho]
         clear ho
         have wH:=AA (N_.out.below ((Below.refl _ _).alloc (Nat.le_refl _) (.cells #[iv pc] 3)))
         have HO:=AA (row_one w5 (iv pc) 3)
         have hsz:=N_.out.Ep.size
         go_wp2_with (at_builtin;refine D_ _ rfl (.tmp 63) (.tmp 65) 23 rfl w.heap.size 3 i0 _ 8 underlying23 HI.out HZ.out HS.out bC.out rfl _ (r.length+1) (st.op.reverse.map (fun p=>iv (p:Nat))) rfl (by exact wH.out.fam.o 3 (by decide) rfl (by simp [Hop.out])) (w5.heap.size+1) _ 1 1 [iv pc] rfl rfl (by exact HO.out) (by intro u hu;simp at hu;subst hu;rfl) (by unfold maxLen;omega) (by omega) (by simp;omega) ?_;intro A2 c2 w6 h2 h3 h4;have H2:=AA h2;have H3:=AA h3;have H4:=AA h4;clear h2 h3 h4)
         exact⟨⟨pc+1,{Am st pc with op:=pc::st.op},by go_num,by rw [show({Am st pc with op:=pc::st.op}:Ai).done=st.done from rfl,hd],HM.out.next hlt Hs.out (wH.out.push pc (by rw [show(Am st pc).op=st.op from rfl,Hop.out];rfl) H3.out H2.out H4.out)⟩,by simp [intOf];omega⟩
       ·have ho:BD x.op=false:=by simpa using ho
        by_cases h5:x.op.toNat=5
        ·have g5:((x.op.toNat:Int)==5)=true:=by simp;omega
         by_cases hok:y.op.toNat=4∧BJ st p<0
         ·have hs:Ae code st pc= .inr {Am st pc with AB:=st.AB.set p (pc:Int)}:=by
           unfold Ae;rw [hd,Hx.out];simp only [Bool.false_eq_true,if_false];rw [if_neg (by rw [ho];decide),if_pos h5,Hop.out];dsimp only;rw [if_pos (by rw [wI];exact hok)]
          have Hs:=AA hs
          have g6:((x.op.toNat:Int)==6)=false:=by simp;omega
          have q4:((y.op.toNat:Int) !=4)=false:=by simp;omega
          have qe:decide ((0:Int)≤BJ st p)=false:=decide_eq_false (by omega)
          have HE:=AA (N_.out.setL (b:=b2) (c:=c8) (by show _=Value.slice _ st.AB.length _;rw [HM.out.ok.AB]) hb2 p (pc:Int))
          clear hs hok h5
          go_wp2_with fail
          refine(DJ _ hou _).mono ?_
          rintro e w6 ⟨rfl,rfl⟩
          rw [show decide (x.op.toNat=2∨x.op.toNat=3∨x.op.toNat=4)=false from ho]
          go_wp2_with fail
          exact⟨⟨pc+1,{Am st pc with AB:=st.AB.set p (pc:Int)},by go_num,by rw [show({Am st pc with AB:=st.AB.set p (pc:Int)}:Ai).done=st.done from rfl,hd],HM.out.next hlt Hs.out HE.out⟩,by simp [intOf];omega⟩
         ·have hs:Ae code st pc= .inl (37,pc):=by
           unfold Ae;rw [hd,Hx.out];simp only [Bool.false_eq_true,if_false];rw [if_neg (by rw [ho];decide),if_pos h5,Hop.out];dsimp only;rw [if_neg (by rw [wI];exact hok)]
          have HC:=AA (HM.out.stop hlt hs)
          by_cases h4:y.op.toNat=4
          ·have q4:((y.op.toNat:Int) !=4)=false:=by simp;omega
           have qe:decide ((0:Int)≤BJ st p)=true:=decide_eq_true (by omega)
           clear hs hok h5 h4
           go_wp2_with fail
           refine(DJ _ hou _).mono ?_
           rintro e w6 ⟨rfl,rfl⟩
           rw [show decide (x.op.toNat=2∨x.op.toNat=3∨x.op.toNat=4)=false from ho]
           go_wp2_with fail
           try rw [Exit.noGoto_ret]
           (try simp only [Exit.inBlock,Exit.then]);refine bodyPost_ret (Bv rfl _ _ _) rfl ?_
           refine⟨N_.out.Ep,?_⟩
           unfold Jr
           rw [HC.out]
           exact rfl
          ·have q4:((y.op.toNat:Int) !=4)=true:=by simp;omega
           clear hs hok h5 h4
           go_wp2_with fail
           refine(DJ _ hou _).mono ?_
           rintro e w6 ⟨rfl,rfl⟩
           rw [show decide (x.op.toNat=2∨x.op.toNat=3∨x.op.toNat=4)=false from ho]
           go_wp2_with fail
           try rw [Exit.noGoto_ret]
           (try simp only [Exit.inBlock,Exit.then]);refine bodyPost_ret (Bv rfl _ _ _) rfl ?_
           refine⟨N_.out.Ep,?_⟩
           unfold Jr
           rw [HC.out]
           exact rfl
        ·have g5:((x.op.toNat:Int)==5)=false:=by simp;omega
         by_cases h6:x.op.toNat=6
         ·have g6:((x.op.toNat:Int)==6)=true:=by simp;omega
          have hs:Ae code st pc= .inr (ER (Am st pc) p r pc):=by
           unfold Ae;rw [hd,Hx.out];simp only [Bool.false_eq_true,if_false];rw [if_neg (by rw [ho];decide),if_neg h5,if_pos h6,Hop.out]
          have Hs:=AA hs
          have hE1:=N_.out.ACh (b:=b1) (c:=c7) (by show _=Value.slice _ st.ends.length _;rw [HM.out.ok.ends]) hb1 p (pc:Int)
          have o1:=N_.out.fam.o 0 (by decide) (n:=code.length) rfl (by simp [Am,HM.out.ok.ends])
          have h1f:=o1.frozenAt p
          obtain⟨z1,h1c⟩: ∃u,w5.cell? ⟨b1,p,none⟩=some u:=⟨_,by rw [o1.cellAt p (by omega),List.getElem?_eq_getElem (by simp [Am,HM.out.ok.ends];omega)]⟩
          have hl15:b1<w5.heap.size:=(o1.lt b1 rfl).2
          have o2':=hE1.fam.o 1 (by decide) (n:=code.length) rfl (by simp [Am,HM.out.ok.AB])
          have he2:(w5.setCell ⟨b1,p,none⟩ (.int .i64 pc)).cell? ⟨b2,p,none⟩=some (.int .i64 (BJ st p)):=by
           have:=o2'.cellAt p (by omega)
           rw [show(w5.setCell ⟨b1,p,none⟩ (.int .i64 pc))=(w5.setCell ⟨b1,p,none⟩ (iv pc))from rfl,this];exact bM HM.out.ok.AB hpn
          by_cases hel:BJ st p<0
          ·have qe:decide ((0:Int)≤BJ st p)=false:=decide_eq_false (by omega)
           have hst':ER (Am st pc) p r pc= {({Am st pc with ends:=(Am st pc).ends.set p (pc:Int)}:Ai)with op:=r}:=by
            unfold ER;rw [if_pos (show BJ (Am st pc) p<0 from hel)]
           have HE:=AA (hE1.pop (p:=p) (r:=r) (by exact Hop.out) rfl)
           have qx:=AA hst'
           clear hs hE1 h5 h6 hst' hel o1 o2'
           go_wp2_with fail
           refine(DJ _ hou _).mono ?_
           rintro e w6 ⟨rfl,rfl⟩
           rw [show decide (x.op.toNat=2∨x.op.toNat=3∨x.op.toNat=4)=false from ho]
           go_wp2_with fail
           exact⟨⟨pc+1,ER (Am st pc) p r pc,by go_num,by rw [qx.out];show Value.bool false= .bool st.done;rw [hd],HM.out.next hlt Hs.out (by rw [qx.out];exact HE.out)⟩,by simp [intOf];omega⟩
          ·have qe:decide ((0:Int)≤BJ st p)=true:=decide_eq_true (by omega)
           have hst':ER (Am st pc) p r pc= {({Am st pc with ends:=((Am st pc).ends.set p (pc:Int)).set (BJ st p).toNat (pc:Int)}:Ai)with op:=r}:=by
            unfold ER;rw [if_neg (show ¬BJ (Am st pc) p<0 from hel)];rfl
           have hev:=HM.out.ok.bL (BJ st p) (by
            unfold BJ
            rw [List.getD_eq_getElem?_getD,List.getElem?_eq_getElem (by rw [HM.out.ok.AB];exact hpn)]
            exact List.getElem_mem _)
           obtain⟨q,hq⟩: ∃q:Nat,BJ st p=q:=⟨(BJ st p).toNat,by omega⟩
           rw [hq,Int.toNat_natCast] at hst'
           rw [hq] at he2 qe hev
           have HE:=AA ((hE1.ACh (b:=b1) (c:=c7) (by show _=Value.slice _ (st.ends.set p (pc:Int)).length _;rw [List.length_set,HM.out.ok.ends]) hb1 q (pc:Int)).pop (p:=p) (r:=r) (by exact Hop.out) rfl)
           have qx:=AA hst'
           have hq0:(0:Int)≤q:=by omega
           have hqc:q<code.length:=by omega
           have o1':=hE1.fam.o 0 (by decide) (n:=code.length) rfl (by simp [Am,HM.out.ok.ends])
           have h2f:=o1'.frozenAt q
           obtain⟨z2,h2c⟩: ∃u,(w5.setCell ⟨b1,p,none⟩ (iv pc)).cell? ⟨b1,q,none⟩=some u:=⟨_,by rw [o1'.cellAt q (by omega),List.getElem?_eq_getElem (by simp [Am,HM.out.ok.ends];omega)]⟩
           unfold iv at h2f h2c
           clear hs hE1 h5 h6 hst' hel o1 o2' o1' hq
           go_wp2_with fail
           refine(DJ _ hou _).mono ?_
           rintro e w6 ⟨rfl,rfl⟩
           rw [show decide (x.op.toNat=2∨x.op.toNat=3∨x.op.toNat=4)=false from ho]
           go_wp2_with fail
           exact⟨⟨pc+1,ER (Am st pc) p r pc,by go_num,by rw [qx.out];show Value.bool false= .bool st.done;rw [hd],HM.out.next hlt Hs.out (by rw [qx.out];exact HE.out)⟩,by simp [intOf];omega⟩
         ·have g6:((x.op.toNat:Int)==6)=false:=by simp;omega
          have hs:Ae code st pc= .inr (Am st pc):=by
           unfold Ae;rw [hd,Hx.out];simp only [Bool.false_eq_true,if_false];rw [if_neg (by rw [ho];decide),if_neg h5,if_neg h6]
          have Hs:=AA hs
          clear hs h5 h6
          go_wp2_with fail
          refine(DJ _ hou _).mono ?_
          rintro e w6 ⟨rfl,rfl⟩
          rw [show decide (x.op.toNat=2∨x.op.toNat=3∨x.op.toNat=4)=false from ho]
          go_wp2_with fail
          exact⟨⟨pc+1,Am st pc,by go_num,by rw [show(Am st pc).done=st.done from rfl,hd],HM.out.next hlt Hs.out N_.out⟩,by simp [intOf];omega⟩
    ·obtain rfl:pc=code.length:=by omega
     have hgo:=HM.out.go
     rw [PO rfl] at hgo
     by_cases hd:st.done=true
     ·rw [if_pos hd] at hgo
      have HC:Hid (ctl code= .inr st):=AA hgo.symm
      have hin:=r9 HM.out.row HM.out.ok hn
      have EU:=AA hin
      rw [hd]
      clear hgo hin
      go_wp2_with fail
      try rw [Exit.noGoto_ret]
      (try simp only [Exit.inBlock,Exit.then]);refine bodyPost_ret (Bv rfl _ _ _) rfl ?_
      refine⟨HM.out.row.Ep,?_⟩
      unfold Jr
      rw [HC.out]
      obtain⟨⟨_,_,f1,g1⟩,⟨_,_,f2,g2⟩,⟨_,_,f3,g3⟩⟩:=EU.out
      injection f1 with f1 _ f1';injection f2 with f2 _ f2';injection f3 with f3 _ f3'
      subst f1 f1' f2 f2' f3 f3'
      exact⟨_,_,_,_,_,_,rfl,g1,g2,g3⟩
     ·have hd:st.done=false:=by simpa using hd
      rw [hd] at hgo
      have HC:Hid (ctl code= .inl (38,(code.length:Int))):=AA hgo.symm
      have N_:=AA HM.out.row
      rw [hd]
      clear hgo
      go_wp2_with fail
      try rw [Exit.noGoto_ret]
      (try simp only [Exit.inBlock,Exit.then]);refine bodyPost_ret (Bv rfl _ _ _) rfl ?_
      refine⟨N_.out.Ep,?_⟩
      unfold Jr
      rw [HC.out]
      exact rfl
end Go.Proofs.YtlagonfamllgjaaGreatDoor
