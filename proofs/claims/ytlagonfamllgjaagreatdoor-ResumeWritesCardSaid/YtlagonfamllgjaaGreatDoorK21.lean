/- Part 21 of the proof: VdA ShapeA VdB VdC R14C -/
import Derived.Deep.RegionWith
import Derived.IntWalk
import Derived.Test.YtlagonfamllgjaaGreatDoorK20
namespace Go.Proofs.YtlagonfamllgjaaGreatDoor
set_option linter.unusedVariables false
set_option linter.unusedSimpArgs false
set_option maxRecDepth 100000
set_option maxHeartbeats 4000000
open Go.RowKit Tryz
def D6 (e:Int):List PanicEntry:= [{v:= .iface 206 (.agg #[.int .i64 e]),recovered:=false}]
def ADT (err:Int) (e:Ending):Prop:=(err=0∧e= .returned (.tuple #[]))∨(err≠0∧e= .panicked (D6 err))
theorem Bn (e:Int) (w:World):Calls prog 133 #[.bool true,.int .i64 e] w fun en w'=>w=w'∧en= .returned (.tuple #[]):=by
 go_enter func133,ntmps133
 go_wp2
 go_end0
 exact⟨rfl,rfl⟩
theorem DU (e:Int) (w:World):Calls prog 133 #[.bool false,.int .i64 e] w fun en w'=>w=w'∧en= .panicked (D6 e):=by
 go_enter func133,ntmps133
 go_wp2
 exact⟨rfl,rfl,rfl⟩
theorem dA (b:Bool) (e:Int) (he:e≠0) (w:World):Calls prog 133 #[.bool b,.int .i64 e] w fun en w'=>w=w'∧ADT (Ae b e) en:=by
 cases b with
 | true=>exact(Bn e w).mono fun en w' h=>⟨h.1,.inl ⟨rfl,h.2⟩⟩
 | false=>exact(DU e w).mono fun en w' h=>⟨h.1,.inr ⟨he,h.2⟩⟩
def mg (b:Nat):Value:= .pointer (some ⟨b,0,none⟩)
def Ua (o:Bt):List Value:= [.string o.s.p,.string o.s.r,.int .i64 o.pc,.int .u8 (o.o.toNat:Int),.string o.base]
structure Fx where
 m0:Value
 m1:Value
 m2:Value
 m3:Value
 m4:Value
 m5:Value
 m6:Value
 m7:Value
 sp:ByteArray
 sr:ByteArray
 loc:ByteArray
 code:Value
 ends:Value
 AJ:Value
 ext:List (Nat×TypeId×List Value)
def ADU (W:World) (x:Fx):Prop:= ∀q∈x.ext,AQ W q.1 q.2.1 q.2.2
structure Fg (W:World) (lo g:Nat) (x:Fx) (st:Cn) (pc:Int) (vS vF vO:Value) (bs:List Nat):Prop where
 blk:AQ W g 172 [x.m0,x.m1,x.m2,x.m3,x.m4,x.m5,x.m6,x.m7,.string x.sp,.string x.sr,.string x.loc,x.code,vS,x.ends,x.AJ,vF,.int .i64 (st.high:Int),vO,.string st.shape,.bool st.dead,.int .i64 pc]
 sh:W.ownsRow lo 9 1 vS st.shapes.length (st.shapes.map Value.string)
 fl:W.ownsRow lo 3 1 vF st.floors.length (st.floors.map iv)
 op:W.ownsRow lo 173 1 vO st.op.length (bs.reverse.map mg)
 bl:bs.length=st.op.length
 each: ∀(k:Nat) (o:Bt) (b:Nat),st.op[k]?=some o→bs[k]?=some b→lo≤b∧AQ W b 175 (Ua o)
 low:lo≤g
 et: ∀q∈x.ext,q.2.1≠172∧q.2.1≠9∧q.2.1≠173∧q.2.1≠175
 ex: ∀q∈x.ext,AQ W q.1 q.2.1 q.2.2∧vF.ownBlock≠some q.1
def Wk (W:World) (lo g:Nat) (x:Fx) (st:Cn) (pc:Int):Prop:= ∃vS vF vO bs,Fg W lo g x st pc vS vF vO bs
theorem Fv {W:World} {a b:Nat} {t u:TypeId} {xs ys:List Value} (h:AQ W a t xs) (h':AQ W b u ys) (hne:t≠u):a≠b:=by
 intro e
 subst e
 unfold AQ at h h'
 rw [h] at h'
 injection h' with h'
 injection h' with h1 h2
 exact hne h2
section
variable {W W':World} {lo g:Nat} {x:Fx} {st:Cn} {pc:Int} {vS vF vO:Value} {bs:List Nat}
theorem Fg.below (h:Fg W lo g x st pc vS vF vO bs) (hb:Below W.heap.size W W'):Fg W' lo g x st pc vS vF vO bs:=
 ⟨h.blk.below hb h.blk.lt,FY h.sh hb,FY h.fl hb,FY h.op hb,h.bl,fun k o b h1 h2=>⟨(h.each k o b h1 h2).1,(h.each k o b h1 h2).2.below hb (h.each k o b h1 h2).2.lt⟩,h.low,h.et,fun q hq=>⟨(h.ex q hq).1.below hb (h.ex q hq).1.lt,(h.ex q hq).2⟩⟩
theorem Fg.mh (h:Fg W lo g x st pc vS vF vO bs) (i:Nat) (u:Value):Below lo W (W.setCell ⟨g,i,none⟩ u)∧(W.setCell ⟨g,i,none⟩ u).ownsRow lo 9 1 vS st.shapes.length (st.shapes.map Value.string)∧
 (W.setCell ⟨g,i,none⟩ u).ownsRow lo 3 1 vF st.floors.length (st.floors.map iv)∧(W.setCell ⟨g,i,none⟩ u).ownsRow lo 173 1 vO st.op.length (bs.reverse.map mg)∧
 (∀(k:Nat) (o:Bt) (b:Nat),st.op[k]?=some o→bs[k]?=some b→lo≤b∧AQ (W.setCell ⟨g,i,none⟩ u) b 175 (Ua o))∧ ∀q∈x.ext,AQ (W.setCell ⟨g,i,none⟩ u) q.1 q.2.1 q.2.2∧vF.ownBlock≠some q.1:=
 ⟨(Below.refl _ _).setCell h.low _,BD h.sh (p:=⟨g,i,none⟩) (Ay h.sh h.blk (by decide)) _,BD h.fl (p:=⟨g,i,none⟩) (Ay h.fl h.blk (by decide)) _,BD h.op (p:=⟨g,i,none⟩) (Ay h.op h.blk (by decide)) _,
   fun k o b h1 h2=>⟨(h.each k o b h1 h2).1,(h.each k o b h1 h2).2.far (p:=⟨g,i,none⟩) (Fv (h.each k o b h1 h2).2 h.blk (by decide)) _⟩,
   fun q hq=>⟨(h.ex q hq).1.far (p:=⟨g,i,none⟩) (Fv (h.ex q hq).1 h.blk (h.et q hq).1) _,(h.ex q hq).2⟩⟩
theorem Fg.shape (h:Fg W lo g x st pc vS vF vO bs) (s:ByteArray):Below lo W (W.setCell ⟨g,18,none⟩ (.string s))∧Fg (W.setCell ⟨g,18,none⟩ (.string s)) lo g x {st with shape:=s} pc vS vF vO bs:=by
 obtain⟨a,b,c,d,e,ex⟩:=h.mh 18 (.string s)
 exact⟨a,h.blk.set 18 _,b,c,d,h.bl,e,h.low,h.et,ex⟩
theorem Fg.dead (h:Fg W lo g x st pc vS vF vO bs) (q:Bool):Below lo W (W.setCell ⟨g,19,none⟩ (.bool q))∧Fg (W.setCell ⟨g,19,none⟩ (.bool q)) lo g x {st with dead:=q} pc vS vF vO bs:=by
 obtain⟨a,b,c,d,e,ex⟩:=h.mh 19 (.bool q)
 exact⟨a,h.blk.set 19 _,b,c,d,h.bl,e,h.low,h.et,ex⟩
theorem Fg.pc_ (h:Fg W lo g x st pc vS vF vO bs) (q:Int):Below lo W (W.setCell ⟨g,20,none⟩ (.int .i64 q))∧Fg (W.setCell ⟨g,20,none⟩ (.int .i64 q)) lo g x st q vS vF vO bs:=by
 obtain⟨a,b,c,d,e,ex⟩:=h.mh 20 (.int .i64 q)
 exact⟨a,h.blk.set 20 _,b,c,d,h.bl,e,h.low,h.et,ex⟩
theorem Fg.cut (h:Fg W lo g x st pc vS vF vO bs) {o:Bt} {r:List Bt} (hop:st.op=o::r) {A:Option Addr} {c:Nat} (hv:vO= .slice A (r.length+1) c):
 Below lo W (W.setCell ⟨g,17,none⟩ (.slice A r.length c))∧Fg (W.setCell ⟨g,17,none⟩ (.slice A r.length c)) lo g x {st with op:=r} pc vS vF (.slice A r.length c) bs.tail:=by
 obtain⟨a,b,cc,d,e,ex⟩:=h.mh 17 (.slice A r.length c)
 have hbl:=h.bl
 rw [hop] at hbl
 obtain⟨b0,bs',rfl⟩: ∃b0 bs',bs=b0::bs':=by cases bs with | nil=>simp at hbl | cons p q=>exact⟨p,q,rfl⟩
 refine⟨a,h.blk.set 17 _,b,cc,?_,by simpa using hbl,fun k o' b' h1 h2=>e (k+1) o' b' (by rw [hop];exact h1) h2,h.low,h.et,ex⟩
 rw [hv,hop] at d
 have:=Sv d (m:=r.length) (by simp)
 simp only [List.length_cons] at hbl
 rw [Nat.mul_one,List.reverse_cons,List.map_append,List.take_left' (by simp;omega)] at this
 exact this
theorem Fg.head (h:Fg W lo g x st pc vS vF vO bs) {o:Bt} {r:List Bt} (hop:st.op=o::r): ∃b bs' A c,bs=b::bs'∧vO= .slice (some ⟨A,0,none⟩) (r.length+1) c∧W.cell? ⟨A,r.length,none⟩=some (.pointer (some ⟨b,0,none⟩))∧AQ W b 175 (Ua o)∧lo≤b∧lo≤A:=by
 have hbl:=h.bl
 rw [hop] at hbl
 obtain⟨b0,bs',rfl⟩: ∃b0 bs',bs=b0::bs':=by cases bs with | nil=>simp at hbl | cons p q=>exact⟨p,q,rfl⟩
 have ho:=h.op
 rw [hop] at ho
 obtain⟨A,c,rfl,hA,_,_⟩:=Fe (n:=r.length+1) ho (by omega)
 have he:=h.each 0 o b0 (by rw [hop];rfl) rfl
 simp only [List.length_cons] at hbl
 refine⟨b0,bs',A,c,rfl,rfl,?_,he.2,he.1,hA⟩
 have:=ho.cellAt r.length (by simp)
 rw [this,List.reverse_cons,List.map_append,List.getElem?_append_right (by simp;omega)]
 simp
 rw [show r.length-bs'.length=0 from by omega];rfl
end
theorem Z6 {lo g:Nat} {x:Fx} {st:Cn} {pc:Int} {vS vF vO:Value} {b:Nat} {bs:List Nat} {o:Bt} {r:List Bt} (w:World) (h:Fg w lo g x st pc vS vF vO (b::bs)) (hop:st.op=o::r) (hr:r.length≤1000000):
 Calls prog 134 #[.pointer (some ⟨g,0,none⟩)] w fun e w'=>e= .returned (.pointer (some ⟨b,0,none⟩))∧ ∃k,w'=w.drewN k:=by
 obtain⟨b',bs',A,c,e1,rfl,hc,_,_,_⟩:=h.head hop
 injection e1 with e1 _
 subst e1
 have hc17:=h.blk.q 17 rfl
 clear h hop
 go_enter func134,ntmps134
 go_wp2_with fail
 go_quiet (fail)
 go_wp2_with fail
 go_ret
 exact⟨rfl,_,rfl⟩
theorem NT {o:Bt} {b:Nat} (w:World) (h:AQ w b 175 (Ua o)):
 Calls prog 189 #[.pointer (some ⟨b,0,none⟩)] w fun e w'=>w=w'∧e= .returned (.string (Bo o)):=by
 have hc0:=h.q 0 rfl
 have hc1:=h.q 1 rfl
 have hc3:=h.q 3 rfl
 clear h
 by_cases h3:o.o.toNat=3
 ·have q:((o.o.toNat:Int)==3)=true:=by simp;omega
  have hb:Bo o=o.s.p:=by unfold Bo;rw [if_pos h3]
  rw [hb]
  clear h3 hb
  go_enter func189,ntmps189
  go_wp2_with fail
  go_ret
  exact⟨rfl,rfl⟩
 ·have q:((o.o.toNat:Int)==3)=false:=by simp;omega
  have hb:Bo o=o.s.r:=by unfold Bo;rw [if_neg h3]
  rw [hb]
  clear h3 hb
  go_enter func189,ntmps189
  go_wp2_with fail
  go_ret
  exact⟨rfl,rfl⟩
theorem Dq (n:Int) (count:Nat) (hn: -9223372036854775808≤n∧n<9223372036854775808) (hc:count≤2147483647) (w:World):
 Calls prog 186 #[.int .i64 n,.int .i64 count] w fun e w'=>w=w'∧((FE n count=true∧e= .returned (.int .i64 n))∨(FE n count=false∧e= .panicked (D6 30))):=by
 by_cases h0:n<0
 ·have hI:FE n count=false:=by unfold FE;exact decide_eq_false (by omega)
  have d:decide (0≤n)=false:=decide_eq_false (by omega)
  clear h0
  go_enter func186,ntmps186
  go_wp2_with fail
  refine(DU 30 _).mono ?_
  rintro e w1 ⟨rfl,rfl⟩
  go_wp2_with fail
  exact⟨rfl,rfl,.inr ⟨hI,rfl⟩⟩
 ·by_cases h1:n<count
  ·have hI:FE n count=true:=by unfold FE;exact decide_eq_true (by omega)
   have d:decide (0≤n)=true:=decide_eq_true (by omega)
   have d1:decide (n<(count:Int))=true:=decide_eq_true h1
   go_enter func186,ntmps186
   go_wp2_with fail
   refine(Bn 30 _).mono ?_
   rintro e w1 ⟨rfl,rfl⟩
   go_wp2_with fail
   go_ret
   exact⟨rfl,.inl ⟨hI,rfl⟩⟩
  ·have hI:FE n count=false:=by unfold FE;exact decide_eq_false (by omega)
   have d:decide (0≤n)=true:=decide_eq_true (by omega)
   have d1:decide (n<(count:Int))=false:=decide_eq_false h1
   go_enter func186,ntmps186
   go_wp2_with fail
   refine(DU 30 _).mono ?_
   rintro e w1 ⟨rfl,rfl⟩
   go_wp2_with fail
   exact⟨rfl,rfl,.inr ⟨hI,rfl⟩⟩
def Nn (W:World) (g:Nat) (x:Fx) (pc:Int):Prop:=W.cell? ⟨g,20,none⟩=some (.int .i64 pc)∧g<W.heap.size∧ADU W x
def Mj (w w':World) (g:Nat) (x:Fx) (pc err:Int) (e:Ending) (P:Prop):Prop:=Keep (fun k=>k≠g) w w'∧((err=0∧e= .returned (.tuple #[])∧P)∨(err≠0∧e= .panicked (D6 err)∧Nn w' g x pc))
theorem BZ {w w':World} {lo g:Nat} (h:Keep (fun k=>k≠g) w w') (hg:lo≤g) (hl:lo≤w.heap.size):Below lo w w':=h.below hl (fun k hk=>by omega)
theorem Fg.Ci {W:World} {lo g:Nat} {x:Fx} {st:Cn} {pc:Int} {vS vF vO:Value} {bs:List Nat} (h:Fg W lo g x st pc vS vF vO bs):Nn W g x pc:=⟨h.blk.cell 20,h.blk.lt,fun q hq=>(h.ex q hq).1⟩
theorem Sy (s:ByteArray) {lo g:Nat} {x:Fx} {st:Cn} {pc:Int} {vS vF vO:Value} {bs:List Nat} (w:World) (h:Fg w lo g x st pc vS vF vO bs) (hs:st.shape.size≤1000000) (hs2:s.size≤1000000):
 Calls prog 172 #[.pointer (some ⟨g,0,none⟩),.string s] w fun e w'=>Mj w w' g x pc (Ae (decide (st.shape.size+s.size≤256)) 34) e (Fg w' lo g x {st with shape:=st.shape++s} pc vS vF vO bs):=by
 have H:=AA h
 have hc18:=h.blk.q 18 rfl
 have hlt:=h.blk.lt
 have hf:=h.blk.frozen 18
 have E1:Hid (Ae (decide ((st.shape.size:Int)+s.size≤256)) 34=Ae (decide (st.shape.size+s.size≤256)) 34):=AA (by congr 1;exact decide_eq_decide.2 (by omega))
 clear h
 go_enter func172,ntmps172
 go_wp2_with fail
 refine(dA _ 34 (by decide) _).mono ?_
 rintro e w1 ⟨rfl,⟨h0,rfl⟩ | ⟨h0,rfl⟩⟩
 ·rw [E1.out] at h0
  have H0:=AA h0;clear h0
  go_wp2_with fail
  go_end0
  have h2:=H.out.shape (st.shape++s)
  exact⟨(Keep.refl _ _).setCell (by simp) _,.inl ⟨H0.out,rfl,h2.2⟩⟩
 ·rw [E1.out] at h0⊢
  have H0:=AA h0;clear h0
  go_wp2_with fail
  exact⟨rfl,Keep.refl _ _,.inr ⟨H0.out,rfl,H.out.Ci⟩⟩
theorem Mj.imp {w w':World} {g:Nat} {x:Fx} {pc err:Int} {e:Ending} {P Q:Prop} (h:Mj w w' g x pc err e P) (hp:P→Q):Mj w w' g x pc err e Q:=
 ⟨h.1,h.2.elim (fun a=> .inl ⟨a.1,a.2.1,hp a.2.2⟩) .inr⟩
theorem gY (s:ByteArray) {lo g:Nat} {x:Fx} {st:Cn} {pc:Int} (w:World) (h:Wk w lo g x st pc) (hs:st.shape.size≤1000000) (hs2:s.size≤1000000):
 Calls prog 172 #[.pointer (some ⟨g,0,none⟩),.string s] w fun e w'=>Mj w w' g x pc (Ae (decide (st.shape.size+s.size≤256)) 34) e (Wk w' lo g x {st with shape:=st.shape++s} pc):=by
 obtain⟨vS,vF,vO,bs,h⟩:=h
 exact(Sy s w h hs hs2).mono fun e w' hh=>hh.imp fun hk=>⟨_,_,_,_,hk⟩
theorem Row.text {w:World} {B:Nat} {A:Option Addr} {l:List ByteArray} (h:Row w B A (l.map sv)) {j:Nat} (hj:j<l.length):
 ∃b o,A=some ⟨b,o,none⟩∧b<B∧w.cell? ⟨b,o+j,none⟩=some (.string (l[j]?.getD ByteArray.empty)):=by
 refine h.at ?_
 rw [List.getElem?_map,List.getElem?_eq_getElem hj]
 rfl
theorem Sz (s t:ByteArray) (hs:s.size≤140737488351232) (ht:t.size≤140737488351232) (w:World):
 Calls prog 200 #[.string s,.string t] w fun e w'=>w=w'∧e= .returned (.bool (ends s t)):=by
 by_cases h:t.size≤s.size
 ·have HR:Hid (ends s t=((s.extract (s.size-t.size) s.size).toList==t.toList)):=AA (by unfold ends;simp [h])
  go_enter func200,ntmps200
  go_wp2_with fail
  go_ret
  exact⟨rfl,by rw [HR.out];rfl⟩
 ·have HR:Hid (ends s t=false):=AA (by unfold ends;simp [h])
  go_enter func200,ntmps200
  go_wp2_with fail
  go_ret
  exact⟨rfl,by rw [HR.out];rfl⟩
theorem YM (s t:ByteArray) (hs:s.size≤140737488351232) (ht:t.size≤140737488351232) (w:World):
 Calls prog 116 #[.string s,.string t] w fun e w'=>w=w'∧e= .returned (.bool (ends s t)):=by
 by_cases h:t.size≤s.size
 ·have HR:Hid (ends s t=((s.extract (s.size-t.size) s.size).toList==t.toList)):=AA (by unfold ends;simp [h])
  go_enter func116,ntmps116
  go_wp2_with fail
  go_ret
  exact⟨rfl,by rw [HR.out];rfl⟩
 ·have HR:Hid (ends s t=false):=AA (by unfold ends;simp [h])
  go_enter func116,ntmps116
  go_wp2_with fail
  go_ret
  exact⟨rfl,by rw [HR.out];rfl⟩
theorem Ub (s t:ByteArray) (hs:s.size≤140737488351232) (ht:t.size≤140737488351232) (w:World):
 Calls prog 193 #[.string s,.string t] w fun e w'=>w=w'∧e= .returned (.bool (ends s t)):=by
 have HC:=AA (Sz s t hs ht w)
 generalize ends s t=b at*
 go_enter func193,ntmps193
 go_wp2_with fail
 refine HC.out.mono ?_
 rintro e w' ⟨rfl,rfl⟩
 go_wp2_with fail
 go_ret
 exact⟨rfl,rfl⟩
theorem AQ.drewN' {W:World} {g n:Nat} {t:TypeId} {xs:List Value} (h:AQ W g t xs):AQ (W.drewN n) g t xs:=h
theorem Fg.drewN {W:World} {lo g:Nat} {x:Fx} {st:Cn} {pc:Int} {vS vF vO:Value} {bs:List Nat} (h:Fg W lo g x st pc vS vF vO bs) (n:Nat):Fg (W.drewN n) lo g x st pc vS vF vO bs:=h.below (below_drewN (Below.refl _ _) _)
theorem Kn {lo g:Nat} {x:Fx} {st:Cn} {pc:Int} {vS vF vO:Value} {b:Nat} {bs:List Nat} {o:Bt} {r:List Bt} {w:World} (h:Fg w lo g x st pc vS vF vO (b::bs)) (hop:st.op=o::r) (hr:r.length≤1000000) (n:Nat):
 Calls prog 134 #[.pointer (some ⟨g,0,none⟩)] (w.drewN n) fun e w'=>e= .returned (.pointer (some ⟨b,0,none⟩))∧ ∃m,w'=w.drewN m:=by
 refine(Z6 (w.drewN n) (h.below (below_drewN (Below.refl _ _) _)) hop hr).mono ?_
 rintro e w' ⟨h1,k,rfl⟩
 exact⟨h1,_,World.drewN_drewN w n k⟩
theorem S9 (s:ByteArray) {lo g:Nat} {x:Fx} {st:Cn} {pc:Int} {vS vF vO:Value} {bs:List Nat} {o:Bt} {r:List Bt} (w:World) (h:Fg w lo g x st pc vS vF vO bs) (hop:st.op=o::r) (hr:r.length≤1000000) (hb:o.base.size≤st.shape.size) (hs:st.shape.size≤1000000) (hs2:s.size≤1000000):
 Calls prog 171 #[.pointer (some ⟨g,0,none⟩),.string s] w fun e w'=>Mj w w' g x pc (Ae (ends (AX st) s) 33) e (Fg w' lo g x {st with shape:=st.shape.extract 0 (st.shape.size-s.size)} pc vS vF vO bs):=by
 obtain⟨b,bs',A,c,rfl,_,_,hbk,hlb,_⟩:=h.head hop
 have H:=AA h
 have HT:=AA (fun n=>Kn h hop hr n)
 have hc18:=h.blk.q 18 rfl
 have hcb:=hbk.q 4 rfl
 have hlt:=h.blk.lt
 have hf:=h.blk.frozen 18
 have hab:AX st=st.shape.extract o.base.size st.shape.size:=by unfold AX BU;rw [hop];rfl
 have hsz:(AX st).size=st.shape.size-o.base.size:=by rw [hab,ByteArray.size_extract];omega
 rw [hab] at hsz⊢
 clear h hop hab hbk
 go_enter func171,ntmps171
 go_wp2_with fail
 go_quiet ((go_at_call 134;exact HT.out _))
 go_wp2_with fail
 refine(Ub _ s (by omega) (by omega) _).mono ?_
 rintro e w1 ⟨rfl,rfl⟩
 go_wp2_with fail
 refine(dA _ 33 (by decide) _).mono ?_
 rintro e w1 ⟨rfl,⟨h0,rfl⟩ | ⟨h0,rfl⟩⟩
 ·have hle:s.size≤st.shape.size:=by
   have:=LP _ _ (Bh (by decide) h0)
   omega
  have hle1:(0:Int)≤(st.shape.size:Int)-s.size:=by omega
  have hle2:((st.shape.size:Int)-s.size).toNat=st.shape.size-s.size:=by omega
  have H0:=AA h0;clear h0
  clear hsz hb
  go_wp2_with fail
  go_region
  all_goals
   go_end0
   have h2:=(H.out.drewN (nq+1)).shape (st.shape.extract 0 (st.shape.size-s.size))
   exact⟨((Keep.refl _ _).drewN _).setCell (by simp) _,.inl ⟨H0.out,rfl,h2.2⟩⟩
 ·have H0:=AA h0;clear h0
  go_wp2_with fail
  exact⟨rfl,(Keep.refl _ _).drewN _,.inr ⟨H0.out,rfl,H.out.Ci⟩⟩
theorem Ia (s:ByteArray) {lo g:Nat} {x:Fx} {st:Cn} {pc:Int} {o:Bt} {r:List Bt} (w:World) (h:Wk w lo g x st pc) (hop:st.op=o::r) (hr:r.length≤1000000) (hb:o.base.size≤st.shape.size) (hs:st.shape.size≤1000000) (hs2:s.size≤1000000):
 Calls prog 171 #[.pointer (some ⟨g,0,none⟩),.string s] w fun e w'=>Mj w w' g x pc (Ae (ends (AX st) s) 33) e (Wk w' lo g x {st with shape:=st.shape.extract 0 (st.shape.size-s.size)} pc):=by
 obtain⟨vS,vF,vO,bs,h⟩:=h
 exact(S9 s w h hop hr hb hs hs2).mono fun e w' hh=>hh.imp fun hk=>⟨_,_,_,_,hk⟩
theorem Mk (n:Int) (hn: -9223372036854775808≤n∧n<9223372036854775808) {lo g:Nat} {x:Fx} {st:Cn} {pc:Int} {vS vF vO:Value} {bs:List Nat} (w:World) (h:Fg w lo g x st pc vS vF vO bs) (hr:st.op.length≤1000000):
 Calls prog 188 #[.pointer (some ⟨g,0,none⟩),.int .i64 n] w fun e w'=>(∃k,w'=w.drewN k)∧((BL st.op n=none∧e= .panicked (D6 31))∨ ∃o b,BL st.op n=some o∧0≤n∧bs[n.toNat]?=some b∧e= .returned (.pointer (some ⟨b,0,none⟩))):=by
 obtain⟨A,c,rfl⟩:=Ck h.op
 have hc17:=h.blk.q 17 rfl
 have H:=AA h
 by_cases h0:n<0
 ·have hI:BL st.op n=none:=by unfold BL;rw [if_neg (by omega)]
  have d:decide (0≤n)=false:=decide_eq_false (by omega)
  clear h0 h
  go_enter func188,ntmps188
  go_wp2_with fail
  refine(DU 31 _).mono ?_
  rintro e w1 ⟨rfl,rfl⟩
  go_wp2_with fail
  exact⟨rfl,⟨0,rfl⟩,.inl ⟨hI,rfl⟩⟩
 ·obtain⟨k,rfl⟩:=Int.eq_ofNat_of_zero_le (show 0≤n by omega)
  have d:decide ((0:Int)≤k)=true:=decide_eq_true (by omega)
  by_cases h1:k<st.op.length
  ·obtain⟨o,ho⟩: ∃o,st.op[k]?=some o:=⟨_,List.getElem?_eq_getElem h1⟩
   have hbl:=h.bl
   obtain⟨b,hb⟩: ∃b,bs[k]?=some b:=⟨_,List.getElem?_eq_getElem (by omega)⟩
   obtain⟨a,c',hv,_,_,_⟩:=Fe h.op (by omega)
   injection hv with hv _ hv'
   subst hv hv'
   have hcell:w.cell? ⟨a,st.op.length-1-k,none⟩=some (.pointer (some ⟨b,0,none⟩)):=by
    have:=h.op.cellAt (st.op.length-1-k) (by omega)
    rw [this,List.getElem?_map,List.getElem?_reverse (by omega),show bs.length-1-(st.op.length-1-k)=k from by omega,hb]
    rfl
   have hI:BL st.op (k:Int)=some o:=by unfold BL;rw [if_pos (by omega),Int.toNat_natCast,ho]
   obtain⟨m,hm⟩: ∃m,st.op.length=m+1+k:=⟨st.op.length-1-k,by omega⟩
   rw [hm,show m+1+k-1-k=m from by omega] at hcell
   rw [hm] at hc17 hr
   have d1:decide ((k:Int)<(m:Int)+1+k)=true:=decide_eq_true (by omega)
   have hb':bs[(k:Int).toNat]?=some b:=hb
   clear h ho hbl hb h1 hm
   go_enter func188,ntmps188
   go_wp2_with fail
   refine(Bn 31 _).mono ?_
   rintro e w1 ⟨rfl,rfl⟩
   go_wp2_with fail
   go_quiet (fail)
   go_wp2_with fail
   go_ret
   exact⟨⟨_,rfl⟩,.inr ⟨o,b,hI,by omega,hb',rfl⟩⟩
  ·have hI:BL st.op (k:Int)=none:=by unfold BL;rw [if_pos (by omega),Int.toNat_natCast];exact List.getElem?_eq_none (by omega)
   have d1:decide ((k:Int)<(st.op.length:Int))=false:=decide_eq_false (by omega)
   have d2:decide (k<st.op.length)=false:=decide_eq_false h1
   have d3: ¬((k:Int)<(st.op.length:Int)):=by omega
   clear h
   go_enter func188,ntmps188
   go_wp2_with fail
   refine(DU 31 _).mono ?_
   rintro e w1 ⟨rfl,rfl⟩
   go_wp2_with fail
   exact⟨rfl,⟨0,rfl⟩,.inl ⟨hI,rfl⟩⟩
theorem WG (a b:ByteArray):(a.toList==b.toList)=decide (a=b):=by
 by_cases h:a=b
 ·subst h;simp
 ·rw [decide_eq_false h]
  rw [beq_eq_false_iff_ne]
  intro e
  exact h (by rw [ByteArray.toList_eq,ByteArray.toList_eq] at e;exact ByteArray.ext (Array.toList_inj.1 e))
theorem GR (t:TypeId) (a b:ByteArray) (h:a.size+b.size≤9223372036854775807):binOp .add t (.string a) (.string b)=pure (.string (a++b)):=by
 have hm:IntKind.i64.max=9223372036854775807:=rfl
 have: ¬(((a.size+b.size:Nat):Int)>IntKind.i64.max):=by rw [hm];omega
 simp only [binOp,Op.stringOp,this,if_false]
theorem tu (s:ByteArray) {lo g:Nat} {x:Fx} {st:Cn} {pc:Int} {b:Nat} {o:Bt} (w:World) (h:Wk w lo g x st pc) (hb:AQ w b 175 (Ua o)) (hs1:o.base.size≤1000000) (hs2:s.size≤1000000):
 Calls prog 187 #[.pointer (some ⟨g,0,none⟩),.pointer (some ⟨b,0,none⟩),.string s] w fun e w'=>
  Mj w w' g x pc (Ae (st.dead||decide (st.shape=o.base++s)) 33) e (Wk w' lo g x {st with shape:=o.base++s} pc):=by
 obtain⟨vS,vF,vO,bs,h⟩:=h
 have H:=AA h;have HB:=AA hb
 have hc18:=h.blk.q 18 rfl
 have hc19:=h.blk.q 19 rfl
 have hcb:=hb.q 4 rfl
 have hlt:=h.blk.lt
 have hf:=h.blk.frozen 18
 cases hd:st.dead with
 | true=>
  rw [hd] at hc19
  have h2:=h.shape (o.base++s)
  rw [hd] at h2
  have H2:=AA h2
  have Iu:Hid (Keep (fun k=>k≠g) w (w.setCell ⟨g,18,none⟩ (.string (o.base++s)))):=AA ((Keep.refl _ _).setCell (by simp) _)
  have hc18':=h2.2.blk.q 18 rfl
  have hcb':(w.setCell ⟨g,18,none⟩ (.string (o.base++s))).cell? ⟨b,4,none⟩=some (.string o.base):=(hb.far (p:=⟨g,18,none⟩) (Fv hb h.blk (by decide)) _).cell 4
  have hq:((o.base++s).toList==(o.base++s).toList)=true:=by simp
  clear h hb hd h2
  go_enter func187,ntmps187
  go_upto_region 2 with fail
  generalize w.setCell ⟨g,18,none⟩ (.string (o.base++s))=w2 at*
  go_quiet ((go_at_call 133;first | exact BF (Bn 33 _) | exact BA (Bn 33 _)))
  go_wp2_with fail
  go_end0
  exact⟨Iu.out.drewN _,.inl ⟨BX rfl,rfl,_,_,_,_,H2.out.2.drewN _⟩⟩
 | false=>
  rw [hd] at hc19
  by_cases hT:st.shape=o.base++s
  ·rw [hT] at hc18
   have h2:Fg w lo g x {st with shape:=o.base++s,dead:=false} pc vS vF vO bs:=by rw [←hT,←hd];exact h
   have H2:=AA h2
   have hE:Ae (false||decide (st.shape=o.base++s)) 33=0:=BX (by rw [decide_eq_true hT];rfl)
   rw [hE]
   clear h hb hd h2 hT hE
   go_enter func187,ntmps187
   go_upto_region 2 with fail
   go_quiet ((go_at_call 133;first | exact BF (Bn 33 _) | exact BA (Bn 33 _)))
   go_wp2_with fail
   go_end0
   exact⟨(Keep.refl _ _).drewN _,.inl ⟨rfl,rfl,_,_,_,_,H2.out.drewN _⟩⟩
  ·have hE:Ae (false||decide (st.shape=o.base++s)) 33=33:=CJ (by rw [decide_eq_false hT];rfl)
   have hq:(st.shape.toList==(o.base++s).toList)=false:=by rw [WG];exact decide_eq_false hT
   rw [hE]
   clear h hb hd hT hE
   go_enter func187,ntmps187
   go_upto_region 2 with fail
   have hadd:binOp .add 9 (.string o.base) (.string s)=pure (.string (o.base++s)):=GR _ _ _ (by omega)
   go_still_tail 11,(by kernel_rfl)
   change wpList _ _ _ _ _ w.drew
   go_wp2_with fail
   refine(DU 33 _).mono ?_
   rintro e w1 ⟨rfl,rfl⟩
   go_wp2_with fail
   exact⟨rfl,(Keep.refl _ _).drewN 1,.inr ⟨by decide,rfl,H.out.Ci⟩⟩
theorem YN {m:AP} (hm:Kc m) {f:Bv} {k:Nat} (hf:m.fns[k]?=some f):(CS m f).size≤64:=by
 have:=(hm.fns f (List.mem_of_getElem? hf)).loc
 unfold CS;rw [ByteArray.size_append];omega
theorem mo {w w1:World} {t:TypeId} {a b v:Value} (h:w.alloc (.cells #[a,b,v] t)=w1):Below w.heap.size w w1∧w1.cell? ⟨w.heap.size,0,none⟩=some a∧w1.cell? ⟨w.heap.size,1,none⟩=some b∧w1.cell? ⟨w.heap.size,2,none⟩=some v∧AQ w1 w.heap.size t [a,b,v]:=by
 have hb:=AQ.new w t [a,b,v]
 change AQ (w.alloc (.cells #[a,b,v] t)) _ _ _ at hb
 rw [h] at hb
 exact⟨by rw [←h];exact(Below.refl _ _).alloc (Nat.le_refl _) _,hb.cell 0,hb.cell 1,hb.cell 2,hb⟩
theorem Z7 (cs:List Value) (hi:Nat) (m:AP) (k:Nat) (f:Bv) (w:World) (h:DJ.R w 0 hi cs m) (hhi:hi≤w.heap.size) (hm:Kc m) (hk:m.fns[k]?=some f):
 Calls prog 105 #[.agg cs.toArray,.int .i64 k] w fun e w'=>Below w.heap.size w w'∧e= .returned (.string (CS m f)):=by
 obtain⟨v1,v2,v3,v4,v5,v6,rfl,h0,_,_,_,_,h5,_⟩:=Am.1 h
 obtain⟨A0,c0,rfl⟩:=AB h0
 obtain⟨A5,c5,rfl⟩:=AB h5
 obtain⟨bf,of,TJ,Ko,gZ,_,hbf,hf0,hf1,hf2,hfB,X0,jX⟩:=Eu h5 hk
 subst gZ
 have hfo:=hm.fns f (List.mem_of_getElem? hk)
 have hlt:=(List.getElem?_eq_some_iff.1 hk).1
 obtain⟨t,ht⟩: ∃t:Nat,f.t=(t:Int):=⟨f.t.toNat,by have:=hfo.t0;omega⟩
 have htl:t<m.types.length:=by have:=hfo.t1;omega
 obtain⟨ty,hty⟩: ∃ty,m.types[t]?=some ty:=⟨_,List.getElem?_eq_getElem htl⟩
 obtain⟨bt,ot,S_,_,hbt,ht0,ht1,htp,htr⟩:=CZ h0 hty
 subst S_
 have Ho:B_ m f.t=ty:=by rw [ht];exact FC hty
 have HLV:Hid (CS m f=ty.p++f.loc):=AA (by unfold CS;rw [Ho])
 have hloc:f.loc.size+ty.p.size≤64:=by have:=hfo.loc;rw [Ho] at this;exact this
 have hadd:binOp .add 9 (.string ty.p) (.string f.loc)=pure (.string (ty.p++f.loc)):=GR _ _ _ (by omega)
 have hk0:(0:Int)≤k:=by omega
 have hk1:(k:Int)<m.fns.length:=by omega
 have t_:(0:Int)≤t:=by omega
 have uD:(t:Int)<m.types.length:=by omega
 rw [ht] at hf0
 have lbt:bt<w.heap.size:=Nat.lt_of_lt_of_le hbt hhi
 have qy:bf<w.heap.size:=Nat.lt_of_lt_of_le hbf hhi
 clear h hm hk h0 h5 jX hfo Ho ht hty hfB X0 htp htr hbt hbf ht1 hhi htl hlt hloc
 go_enter func105,ntmps105
 go_upto_region 1 with fail
 generalize hw1:w.alloc (.cells #[.slice (some ⟨bt,ot,none⟩) m.types.length c0,v2,v3,.int .i64 m.first,.int .i64 m.most,.slice (some ⟨bf,of,none⟩) m.fns.length c5,v5,v6] 29)=w1
 obtain⟨hb1,hx1⟩:=QK hw1
 have hz1:w1.heap.size=w.heap.size+1:=by rw [←hw1];simp
 have HB1:=AA hb1;have CX:=AA hx1
 have hf0:=(hb1.cell qy (p:=⟨bf,of+k*3,none⟩)).trans hf0
 have hf1:=(hb1.cell qy (p:=⟨bf,of+k*3+1,none⟩)).trans hf1
 have hf2:=(hb1.cell qy (p:=⟨bf,of+k*3+2,none⟩)).trans hf2
 have q5:=CX.out.q 5 rfl
 clear hw1 hb1 hx1
 go_upto_region 2 with fail
 generalize hw2:w1.alloc (.cells #[.int .i64 t,.string f.loc,.slice TJ f.code.length Ko] 96)=w2
 obtain⟨hb2,r0,r1,_,_⟩:=mo hw2
 have HB2:Hid (Below w.heap.size w w2):=AA (HB1.out.trans (hb2.mono HB1.out.size))
 have CV:=AA (CX.out.below hb2 CX.out.lt)
 have ht0:=(HB2.out.cell lbt (p:=⟨bt,ot+t*2,none⟩)).trans ht0
 have q0:=CV.out.q 0 rfl
 clear hw2 hb2 hf0 hf1 hf2 q5
 rw [hz1] at r0 r1
 go_quiet (fail)
 go_wp2_with fail
 go_ret
 rw [HLV.out]
 exact⟨below_drewN HB2.out _,rfl⟩
end Go.Proofs.YtlagonfamllgjaaGreatDoor
