/- Part 10 of the proof: CopyB -/
import Derived.Laws.ResultCell
import Derived.Laws.Rows
import Derived.Test.YtlagonfamllgjaaGreatDoorK03
namespace Go.Proofs.YtlagonfamllgjaaGreatDoor
set_option linter.unusedVariables false
set_option linter.unusedSimpArgs false
set_option maxRecDepth 100000
set_option maxHeartbeats 4000000
open Go.RowKit Tryz
theorem Ep {fn:Func} {p:Tmp} {ty:TypeId} (h:fn.results= #[.cell p ty]) (tmps:Array Value) (P:Program) (w:World):
 (results fn tmps).run P w=((asAddr (tmps.getD p undef)).run P w).andThen fun a w₁=>(loadVar ty a).run P w₁:=by
 simp only [results,h]
 simp [Sem.run_bind,Result.andThen]
def O7 (x:Ad):Prop:=x.l.length≤2147483647
def lI (x:Bv):Prop:=x.code.length≤2147483647∧ ∀i∈x.code,O7 i
def Qn (x:Gh):Prop:=x.b.length≤2147483647
def fU (x:Jy):Prop:=x.loc.length≤2147483647∧x.st.length≤2147483647
def Zh (x:List UInt8):Prop:=x.length≤2147483647
def SQ (x:AP):Prop:=x.types.length≤2147483647∧x.hosts.length≤2147483647∧x.globs.length≤2147483647∧(x.fns.length≤2147483647∧ ∀i∈x.fns,lI i)∧(x.dat.length≤2147483647∧ ∀i∈x.dat,Qn i)∧x.Au.length≤2147483647
def fV (x:FH):Prop:=(x.frames.length≤2147483647∧ ∀i∈x.frames,fU i)∧x.globs.length≤2147483647∧(x.pages.length≤2147483647∧ ∀i∈x.pages,Zh i)∧x.res.length≤2147483647
def NJ {α:Type} (r:Rd α) (x:α) (w:World) (e:Ending) (w':World):Prop:= ∃cs',e= .returned (.agg cs'.toArray)∧r.R w' w.heap.size w'.heap.size cs' x∧Below w.heap.size w w'
theorem Zi {α:Type} {r:Rd α} {W:World} {k hi:Nat} {cs:List Value} {x:α} (h:r.R W (k+2) hi cs x):r.R W k hi cs x:=r.more (Nat.le_add_right _ 2) (Nat.le_refl _) h
def Vr (W:World) (b:Nat):Nat→List Value→World
 | _,[]=>W
 | i,v::l=>Vr (W.setCell ⟨b,i,none⟩ v) b (i+1) l
structure JE (T:TypeId) (w W:World) (cs zs:List Value) (Q:World→Prop):Prop where
 b:AQ W w.heap.size T cs
 r:AQ W (w.heap.size+1) T zs
 H:Below w.heap.size w W
 s:w.heap.size+2≤W.heap.size
 q:Q W
 st: ∀W1 W2,Q W1→w.heap.size+2≤W1.heap.size→(Below W1.heap.size W1 W2∨ ∃p u,p.block<w.heap.size+2∧W2=W1.setCell p u)→Q W2
section
variable {T:TypeId} {w W W':World} {cs zs:List Value} {Q:World→Prop}
theorem JE.init (T:TypeId) (w:World) (cs zs:List Value):JE T w ((w.alloc (.cells cs.toArray T)).alloc (.cells zs.toArray T)) cs zs (fun _=>True):=
 ⟨(AQ.new w T cs).alloc _,by have:=AQ.new (w.alloc (.cells cs.toArray T)) T zs;rwa [World.size_alloc] at this,((Below.refl _ _).alloc (Nat.le_refl _) _).alloc (by simp) _,by simp,trivial,fun _ _ _ _ _=>trivial⟩
theorem JE.below (h:JE T w W cs zs Q) (hb:Below W.heap.size W W'):JE T w W' cs zs Q:=
 ⟨h.b.below hb h.b.lt,h.r.below hb h.r.lt,h.H.trans (hb.mono h.H.size),Nat.le_trans h.s hb.size,h.st _ _ h.q h.s (.inl hb),h.st⟩
theorem JE.put (h:JE T w W cs zs Q) {α:Type} (r:Rd α) {v:Value} {x:α} (h2:r.R W' W.heap.size W'.heap.size [v] x) (hb:Below W.heap.size W W') (j:Nat):
 JE T w (W'.setCell ⟨w.heap.size,j,none⟩ v) (cs.set j v) zs (fun W=>Q W∧r.R W (w.heap.size+2) W.heap.size [v] x):=by
 have h':=h.below hb
 have hs:=h.s
 have key: ∀W1 W2,r.R W1 (w.heap.size+2) W1.heap.size [v] x→(Below W1.heap.size W1 W2∨ ∃p u,p.block<w.heap.size+2∧W2=W1.setCell p u)→r.R W2 (w.heap.size+2) W2.heap.size [v] x:=by
  rintro W1 W2 h1 (h3 | ⟨p,u,hp,rfl⟩)
  ·exact r.more (Nat.le_refl _) h3.size (Rd.below h1 h3 (Nat.le_refl _))
  ·exact r.more (Nat.le_refl _) (by simp [World.setCell]) (Rd.set h1 u (.inl hp))
 exact⟨h'.b.set j v,h'.r.far (p:=⟨w.heap.size,j,none⟩) (by simp) v,h'.H.setCell (p:=⟨w.heap.size,j,none⟩) (Nat.le_refl _) v,by simpa [World.setCell] using h'.s,⟨h'.st _ _ h'.q h'.s (.inr ⟨_,v,by simp,rfl⟩),key _ _ (r.more hs (Nat.le_refl _) h2) (.inr ⟨_,v,by simp,rfl⟩)⟩,fun W1 W2 h1 h2 h3=>⟨h.st _ _ h1.1 h2 h3,key _ _ h1.2 h3⟩⟩
theorem JE.setR (h:JE T w W cs zs Q) (j:Nat) (v:Value):JE T w (W.setCell ⟨w.heap.size+1,j,none⟩ v) cs (zs.set j v) Q:=
 ⟨h.b.far (p:=⟨w.heap.size+1,j,none⟩) (by simp) v,h.r.set j v,h.H.setCell (p:=⟨w.heap.size+1,j,none⟩) (Nat.le_succ _) v,by simpa [World.setCell] using h.s,h.st _ _ h.q h.s (.inr ⟨_,v,by simp,rfl⟩),h.st⟩
theorem JE.xu: ∀(l a z:List Value) {W:World},JE T w W cs (a++z) Q→z.length=l.length→JE T w (Vr W (w.heap.size+1) a.length l) cs (a++l) Q
 | [],a,z,W,h,hz=>by rw [List.length_eq_zero_iff.1 hz] at h;exact h
 | v::l,a,[],W,h,hz=>by cases hz
 | v::l,a,u::z,W,h,hz=>by
  have h1:=h.setR a.length v
  rw [show(a++u::z).set a.length v=(a++ [v])++z by simp] at h1
  have:=JE.xu l (a++ [v]) z h1 (by simpa using hz)
  simpa [Vr] using this
theorem JE.fill (h:JE T w W cs zs Q) (hz:zs.length=cs.length):JE T w (Vr W (w.heap.size+1) 0 cs) cs cs Q:=JE.xu cs [] zs h hz
end
theorem zk (cs:List Value) (hi:Nat) (x:Ad) (w:World) (h:Ei.R w 0 hi cs x) (hhi:hi≤w.heap.size) (hle:O7 x):
 Calls prog 118 #[.agg cs.toArray] w (NJ Ei x w):=by
 obtain⟨Y_,rfl,Oc,KQ⟩:=DL.1 h
 obtain⟨Ga,GJ,rfl⟩:=AB KQ
 have zl:=AA Oc
 have lJ:=AA KQ
 have Gm:=AA hle
 clear h hle Oc KQ
 go_enter func118,ntmps118
 go_wp2_with fail
 generalize hw:(w.alloc _).alloc _=w1
 have S:Hid (JE 122 w w1 [.int .u8 (x.op.toNat:Int),.int .i64 x.a,.slice Ga x.l.length GJ] [.int .u8 0,.int .i64 0,.slice none 0 0] fun _=>True):=by rw [←hw];exact AA (JE.init _ _ _ _)
 clear hw
 refine(bN Ga x.l.length GJ hi x.l w1 (Rd.below lJ.out S.out.H hhi) (Nat.le_trans hhi S.out.H.size) (by have:=Gm.out;unfold O7 at this;omega)).mono ?_
 rintro e w2 ⟨xw,x9,rfl,h2,h3⟩
 have S2:=AA (S.out.below h3);replace S:=AA (S.out.put _ h2 h3 2)
 clear h2 h3
 have hf:=S2.out.b.frozen 2;have hc:=S2.out.b.q 2 rfl
 have hd0:=S2.out.b.q 0 rfl
 have hd1:=S2.out.b.q 1 rfl
 have hg0:=S2.out.r.frozen 0;have he0:=S2.out.r.q 0 rfl
 have hg1:=S2.out.r.frozen 1;have he1:=S2.out.r.q 1 rfl
 have hg2:=S2.out.r.frozen 2;have he2:=S2.out.r.q 2 rfl
 go_wp2_with fail
 have E:JE 122 w _ [.int .u8 (x.op.toNat:Int),.int .i64 x.a,.slice xw x.l.length x9] [.int .u8 (x.op.toNat:Int),.int .i64 x.a,.slice xw x.l.length x9] _:=S.out.fill rfl
 refine bodyPost_ret ?_ rfl ⟨_,rfl,DL.2 ⟨.slice xw x.l.length x9,rfl,zl.out,Zi E.q.2⟩,E.H⟩
 rw [Ep rfl]
 simp only [asAddr,Result.andThen]
 exact run_loadVar_row _ _ 122 122 _ (0,0) _ E.r underlying122 rfl (by kernel_rfl)
theorem Zj:(prog.info? 122).map (fun i=>(i.size,i.bytes,i.zero.map fun z=>z.cells.size))=some (3,40,some 3):=by kernel_rfl
def fZ (l:List Ad) (w:World) (a i:Value) (wr:World):Prop:= ∃(k:Nat) (A:Option Addr) (c:Nat) (cells:List Value),k≤l.length∧i= .int .i64 k∧a= .slice A k c∧GX Ei 122 w.heap.size wr A k c cells (l.take k)∧Below w.heap.size w wr
theorem sU (A:Option Addr) (n c hi:Nat) (l:List Ad) (w:World) (h:(Ei.sl false).R w 0 hi [.slice A n c] l) (hhi:hi≤w.heap.size) (hle:l.length≤2147483647∧ ∀x∈l,O7 x):
 Calls prog 92 #[.slice A n c] w (FI Ei l w):=by
 have hn:=Bq h
 have hlen:=hle.1
 rw [←hn] at hlen
 have Gm:=AA hle.2
 have Hh:=AA h
 have Hn:=AA hn
 clear h hn hle
 obtain⟨i0,z0,hi0,hz,hs',hb,hzz⟩:=info_parts' Zj
 have Hi:=AA hi0;have Hz:=AA hz;have Hs:=AA hs';have Hb:=AA hb;have Nz:=AA hzz;clear hi0 hz hs' hb hzz
 go_enter func92,ntmps92
 go_wp2_with fail
 go_loopw [3,4] (fun a i wr=>fZ l w a i wr) (fun _ i _=>n-(intOf i).toNat)
 case atStart=>exact⟨0,none,0,[],Nat.zero_le _,rfl,rfl,GX.nil _ _ _ _,Below.refl _ _⟩
 case round=>
  obtain⟨k,A1,c1,cells,hk,rfl,rfl,hg,hbel⟩:=hrel
  have Hg:=AA hg;clear hg
  have BM:=AA hbel;clear hbel
  rw [←Hn.out] at hk
  by_cases hlt:k<n
  ·obtain⟨x,hx⟩: ∃x,l[k]?=some x:=⟨_,List.getElem?_eq_getElem (by rw [←Hn.out];exact hlt)⟩
   obtain⟨b,o,Ga,GJ,rfl,hlo,Vs,hc0,hc1,hc2,Oc,KQ⟩:=Dy ((Ei.sl false).below Hh.out BM.out hhi) hx
   have HE:Hid (Ei.R wr 0 hi [.int .u8 (x.op.toNat:Int),.int .i64 x.a,.slice Ga x.l.length GJ] x):=AA (DL.2 ⟨.slice Ga x.l.length GJ,rfl,Oc,KQ⟩)
   have Hx:=AA hx;clear hx Oc KQ
   have hsz:w.heap.size≤wr.heap.size:=BM.out.size
   have hk0:(0:Int)≤k:=by omega
   go_wp2_with fail
   refine(zk _ hi x wr HE.out (Nat.le_trans hhi hsz) (Gm.out x (List.mem_of_getElem? Hx.out))).mono ?_
   rintro e w2 ⟨cs',rfl,hr2,hbe⟩
   obtain⟨u_l,rfl,g_a,g_l⟩:=DL.1 hr2
   obtain⟨xw,x9,rfl⟩:=AB g_l
   have UO:=AA hr2
   clear hr2 g_a g_l
   have Q_:=AA (Hg.out.below hbe)
   have ZC:=AA hbe.size
   have Hb2:=AA (BM.out.trans (hbe.mono hsz))
   have hsz2:w.heap.size≤w2.heap.size:=Hb2.out.size
   clear hbe
   have Ir:=AA (Gz w2 [.int .u8 (x.op.toNat:Int),.int .i64 x.a,.slice xw x.l.length x9] 122)
   go_wp2_with (at_builtin;refine BP _ rfl (.tmp 11) (.tmp 17) 94 rfl w.heap.size 122 i0 z0 3 40 underlying94 Hi.out Hz.out Hs.out Hb.out Nz.out (by omega) (.slice A1 k c1) k cells rfl (Q_.out.own.alloc _) (w2.heap.size+1) _ 1 1 [.int .u8 (x.op.toNat:Int),.int .i64 x.a,.slice xw x.l.length x9] rfl rfl Ir.out (by intro u hu;simp at hu;rcases hu with rfl | rfl | rfl<;>rfl) (by unfold maxLen;omega) (by omega) (by simp;omega) ?_;intro A3 c3 w3 h2 h3 h4;have H2:=AA h2;have H3:=AA h3;have H4:=AA h4;clear h2 h3 h4)
   have hba:Below w2.heap.size w2 (w2.alloc (.cells #[.int .u8 (x.op.toNat:Int),.int .i64 x.a,.slice xw x.l.length x9] 122)):=(Below.refl _ _).alloc (Nat.le_refl _) _
   have hgn:=(Q_.out.below hba).snoc (by simp;omega) (Ei.below UO.out hba (Nat.le_refl _)) (Nat.le_trans hsz (Nat.le_refl _)) (by simp) (fun g hg=> .inl (Hg.out.own.lt g hg).2) H2.out H3.out H4.out
   refine⟨⟨k+1,A3,c3,cells++ [.int .u8 (x.op.toNat:Int),.int .i64 x.a,.slice xw x.l.length x9],by rw [←Hn.out];omega,by go_num,rfl,?_,(Hb2.out.alloc hsz2 _).trans (BK (Q_.out.own.alloc _) H3.out (by simp;omega))⟩,by simp [intOf];omega⟩
   rw [List.take_add_one,Hx.out]
   exact hgn
  ·obtain rfl:n=k:=by omega
   go_wp2_with fail
   go_ret
   refine⟨A1,c1,by rw [←Hn.out];rfl,?_,BM.out⟩
   have:=Hg.out.reads
   rw [List.take_of_length_le (by rw [←Hn.out];exact Nat.le_refl _)] at this
   rw [←Hn.out]
   exact this
theorem Xo (cs:List Value) (hi:Nat) (x:Bv) (w:World) (h:Qe.R w 0 hi cs x) (hhi:hi≤w.heap.size) (hle:lI x):
 Calls prog 62 #[.agg cs.toArray] w (NJ Qe x w):=by
 obtain⟨JQ,rfl,XE,CF,Db⟩:=IX.1 h
 obtain⟨Ea,EK,rfl⟩:=AB Db
 have H_t:=AA XE
 have Xp:=AA CF
 have Zk:=AA Db
 have Gm:=AA hle
 clear h hle XE CF Db
 go_enter func62,ntmps62
 go_wp2_with fail
 generalize hw:(w.alloc _).alloc _=w1
 have S:Hid (JE 96 w w1 [.int .i64 x.t,.string x.loc,.slice Ea x.code.length EK] [.int .i64 0,.string ByteArray.empty,.slice none 0 0] fun _=>True):=by rw [←hw];exact AA (JE.init _ _ _ _)
 clear hw
 refine(sU Ea x.code.length EK hi x.code w1 (Rd.below Zk.out S.out.H hhi) (Nat.le_trans hhi S.out.H.size) Gm.out).mono ?_
 rintro e w2 ⟨Mc,Md,rfl,h2,h3⟩
 have S2:=AA (S.out.below h3);replace S:=AA (S.out.put _ h2 h3 2)
 clear h2 h3
 have hf:=S2.out.b.frozen 2;have hc:=S2.out.b.q 2 rfl
 have hd0:=S2.out.b.q 0 rfl
 have hd1:=S2.out.b.q 1 rfl
 have hg0:=S2.out.r.frozen 0;have he0:=S2.out.r.q 0 rfl
 have hg1:=S2.out.r.frozen 1;have he1:=S2.out.r.q 1 rfl
 have hg2:=S2.out.r.frozen 2;have he2:=S2.out.r.q 2 rfl
 go_wp2_with fail
 have E:JE 96 w _ [.int .i64 x.t,.string x.loc,.slice Mc x.code.length Md] [.int .i64 x.t,.string x.loc,.slice Mc x.code.length Md] _:=S.out.fill rfl
 refine bodyPost_ret ?_ rfl ⟨_,rfl,IX.2 ⟨.slice Mc x.code.length Md,rfl,H_t.out,Xp.out,Zi E.q.2⟩,E.H⟩
 rw [Ep rfl]
 simp only [asAddr,Result.andThen]
 exact run_loadVar_row _ _ 96 96 _ (0,0) _ E.r underlying96 rfl (by kernel_rfl)
theorem RB:(prog.info? 96).map (fun i=>(i.size,i.bytes,i.zero.map fun z=>z.cells.size))=some (3,48,some 3):=by kernel_rfl
def SS (l:List Bv) (w:World) (a i:Value) (wr:World):Prop:= ∃(k:Nat) (A:Option Addr) (c:Nat) (cells:List Value),k≤l.length∧i= .int .i64 k∧a= .slice A k c∧GX Qe 96 w.heap.size wr A k c cells (l.take k)∧Below w.heap.size w wr
theorem Vt (A:Option Addr) (n c hi:Nat) (l:List Bv) (w:World) (h:(Qe.sl false).R w 0 hi [.slice A n c] l) (hhi:hi≤w.heap.size) (hle:l.length≤2147483647∧ ∀x∈l,lI x):
 Calls prog 28 #[.slice A n c] w (FI Qe l w):=by
 have hn:=Bq h
 have hlen:=hle.1
 rw [←hn] at hlen
 have Gm:=AA hle.2
 have Hh:=AA h
 have Hn:=AA hn
 clear h hn hle
 obtain⟨i0,z0,hi0,hz,hs',hb,hzz⟩:=info_parts' RB
 have Hi:=AA hi0;have Hz:=AA hz;have Hs:=AA hs';have Hb:=AA hb;have Nz:=AA hzz;clear hi0 hz hs' hb hzz
 go_enter func28,ntmps28
 go_wp2_with fail
 go_loopw [3,4] (fun a i wr=>SS l w a i wr) (fun _ i _=>n-(intOf i).toNat)
 case atStart=>exact⟨0,none,0,[],Nat.zero_le _,rfl,rfl,GX.nil _ _ _ _,Below.refl _ _⟩
 case round=>
  obtain⟨k,A1,c1,cells,hk,rfl,rfl,hg,hbel⟩:=hrel
  have Hg:=AA hg;clear hg
  have BM:=AA hbel;clear hbel
  rw [←Hn.out] at hk
  by_cases hlt:k<n
  ·obtain⟨x,hx⟩: ∃x,l[k]?=some x:=⟨_,List.getElem?_eq_getElem (by rw [←Hn.out];exact hlt)⟩
   obtain⟨b,o,Ea,EK,rfl,hlo,Vs,hc0,hc1,hc2,XE,CF,Db⟩:=Eu ((Qe.sl false).below Hh.out BM.out hhi) hx
   have HE:Hid (Qe.R wr 0 hi [.int .i64 x.t,.string x.loc,.slice Ea x.code.length EK] x):=AA (IX.2 ⟨.slice Ea x.code.length EK,rfl,XE,CF,Db⟩)
   have Hx:=AA hx;clear hx XE CF Db
   have hsz:w.heap.size≤wr.heap.size:=BM.out.size
   have hk0:(0:Int)≤k:=by omega
   go_wp2_with fail
   refine(Xo _ hi x wr HE.out (Nat.le_trans hhi hsz) (Gm.out x (List.mem_of_getElem? Hx.out))).mono ?_
   rintro e w2 ⟨cs',rfl,hr2,hbe⟩
   obtain⟨u_code,rfl,g_t,bW,lK⟩:=IX.1 hr2
   obtain⟨Mc,Md,rfl⟩:=AB lK
   have UO:=AA hr2
   clear hr2 g_t bW lK
   have Q_:=AA (Hg.out.below hbe)
   have ZC:=AA hbe.size
   have Hb2:=AA (BM.out.trans (hbe.mono hsz))
   have hsz2:w.heap.size≤w2.heap.size:=Hb2.out.size
   clear hbe
   have Ir:=AA (Gz w2 [.int .i64 x.t,.string x.loc,.slice Mc x.code.length Md] 96)
   go_wp2_with (at_builtin;refine BP _ rfl (.tmp 11) (.tmp 17) 25 rfl w.heap.size 96 i0 z0 3 48 underlying25 Hi.out Hz.out Hs.out Hb.out Nz.out (by omega) (.slice A1 k c1) k cells rfl (Q_.out.own.alloc _) (w2.heap.size+1) _ 1 1 [.int .i64 x.t,.string x.loc,.slice Mc x.code.length Md] rfl rfl Ir.out (by intro u hu;simp at hu;rcases hu with rfl | rfl | rfl<;>rfl) (by unfold maxLen;omega) (by omega) (by simp;omega) ?_;intro A3 c3 w3 h2 h3 h4;have H2:=AA h2;have H3:=AA h3;have H4:=AA h4;clear h2 h3 h4)
   have hba:Below w2.heap.size w2 (w2.alloc (.cells #[.int .i64 x.t,.string x.loc,.slice Mc x.code.length Md] 96)):=(Below.refl _ _).alloc (Nat.le_refl _) _
   have hgn:=(Q_.out.below hba).snoc (by simp;omega) (Qe.below UO.out hba (Nat.le_refl _)) (Nat.le_trans hsz (Nat.le_refl _)) (by simp) (fun g hg=> .inl (Hg.out.own.lt g hg).2) H2.out H3.out H4.out
   refine⟨⟨k+1,A3,c3,cells++ [.int .i64 x.t,.string x.loc,.slice Mc x.code.length Md],by rw [←Hn.out];omega,by go_num,rfl,?_,(Hb2.out.alloc hsz2 _).trans (BK (Q_.out.own.alloc _) H3.out (by simp;omega))⟩,by simp [intOf];omega⟩
   rw [List.take_add_one,Hx.out]
   exact hgn
  ·obtain rfl:n=k:=by omega
   go_wp2_with fail
   go_ret
   refine⟨A1,c1,by rw [←Hn.out];rfl,?_,BM.out⟩
   have:=Hg.out.reads
   rw [List.take_of_length_le (by rw [←Hn.out];exact Nat.le_refl _)] at this
   rw [←Hn.out]
   exact this
theorem sV (cs:List Value) (hi:Nat) (x:Gh) (w:World) (h:Ib.R w 0 hi cs x) (hhi:hi≤w.heap.size) (hle:Qn x):
 Calls prog 63 #[.agg cs.toArray] w (NJ Ib x w):=by
 obtain⟨qg,rfl,H_,Tz⟩:=Gq.1 h
 obtain⟨Nv,Ni,rfl⟩:=AB Tz
 have AC8:=AA H_
 have H_b:=AA Tz
 have Gm:=AA hle
 clear h hle H_ Tz
 go_enter func63,ntmps63
 go_wp2_with fail
 generalize hw:(w.alloc _).alloc _=w1
 have S:Hid (JE 99 w w1 [.int .i64 x.at_,.slice Nv x.b.length Ni] [.int .i64 0,.slice none 0 0] fun _=>True):=by rw [←hw];exact AA (JE.init _ _ _ _)
 clear hw
 refine(XQ Nv x.b.length Ni hi x.b w1 (Rd.below H_b.out S.out.H hhi) (Nat.le_trans hhi S.out.H.size) (by have:=Gm.out;unfold Qn at this;omega)).mono ?_
 rintro e w2 ⟨yA,yB,rfl,h2,h3⟩
 have S2:=AA (S.out.below h3);replace S:=AA (S.out.put _ h2 h3 1)
 clear h2 h3
 have hf:=S2.out.b.frozen 1;have hc:=S2.out.b.q 1 rfl
 have hd0:=S2.out.b.q 0 rfl
 have hg0:=S2.out.r.frozen 0;have he0:=S2.out.r.q 0 rfl
 have hg1:=S2.out.r.frozen 1;have he1:=S2.out.r.q 1 rfl
 go_wp2_with fail
 have E:JE 99 w _ [.int .i64 x.at_,.slice yA x.b.length yB] [.int .i64 x.at_,.slice yA x.b.length yB] _:=S.out.fill rfl
 refine bodyPost_ret ?_ rfl ⟨_,rfl,Gq.2 ⟨.slice yA x.b.length yB,rfl,AC8.out,Zi E.q.2⟩,E.H⟩
 rw [Ep rfl]
 simp only [asAddr,Result.andThen]
 exact run_loadVar_row _ _ 99 99 _ (0,0) _ E.r underlying99 rfl (by kernel_rfl)
theorem Xq:(prog.info? 99).map (fun i=>(i.size,i.bytes,i.zero.map fun z=>z.cells.size))=some (2,32,some 2):=by kernel_rfl
def Zl (l:List Gh) (w:World) (a i:Value) (wr:World):Prop:= ∃(k:Nat) (A:Option Addr) (c:Nat) (cells:List Value),k≤l.length∧i= .int .i64 k∧a= .slice A k c∧GX Ib 99 w.heap.size wr A k c cells (l.take k)∧Below w.heap.size w wr
theorem lM (A:Option Addr) (n c hi:Nat) (l:List Gh) (w:World) (h:(Ib.sl false).R w 0 hi [.slice A n c] l) (hhi:hi≤w.heap.size) (hle:l.length≤2147483647∧ ∀x∈l,Qn x):
 Calls prog 29 #[.slice A n c] w (FI Ib l w):=by
 have hn:=Bq h
 have hlen:=hle.1
 rw [←hn] at hlen
 have Gm:=AA hle.2
 have Hh:=AA h
 have Hn:=AA hn
 clear h hn hle
 obtain⟨i0,z0,hi0,hz,hs',hb,hzz⟩:=info_parts' Xq
 have Hi:=AA hi0;have Hz:=AA hz;have Hs:=AA hs';have Hb:=AA hb;have Nz:=AA hzz;clear hi0 hz hs' hb hzz
 go_enter func29,ntmps29
 go_wp2_with fail
 go_loopw [3,4] (fun a i wr=>Zl l w a i wr) (fun _ i _=>n-(intOf i).toNat)
 case atStart=>exact⟨0,none,0,[],Nat.zero_le _,rfl,rfl,GX.nil _ _ _ _,Below.refl _ _⟩
 case round=>
  obtain⟨k,A1,c1,cells,hk,rfl,rfl,hg,hbel⟩:=hrel
  have Hg:=AA hg;clear hg
  have BM:=AA hbel;clear hbel
  rw [←Hn.out] at hk
  by_cases hlt:k<n
  ·obtain⟨x,hx⟩: ∃x,l[k]?=some x:=⟨_,List.getElem?_eq_getElem (by rw [←Hn.out];exact hlt)⟩
   obtain⟨b,o,Nv,Ni,rfl,hlo,Vs,hc0,hc1,H_,Tz⟩:=IY ((Ib.sl false).below Hh.out BM.out hhi) hx
   have HE:Hid (Ib.R wr 0 hi [.int .i64 x.at_,.slice Nv x.b.length Ni] x):=AA (Gq.2 ⟨.slice Nv x.b.length Ni,rfl,H_,Tz⟩)
   have Hx:=AA hx;clear hx H_ Tz
   have hsz:w.heap.size≤wr.heap.size:=BM.out.size
   have hk0:(0:Int)≤k:=by omega
   go_wp2_with fail
   refine(sV _ hi x wr HE.out (Nat.le_trans hhi hsz) (Gm.out x (List.mem_of_getElem? Hx.out))).mono ?_
   rintro e w2 ⟨cs',rfl,hr2,hbe⟩
   obtain⟨u_b,rfl,AC9,g_b⟩:=Gq.1 hr2
   obtain⟨yA,yB,rfl⟩:=AB g_b
   have UO:=AA hr2
   clear hr2 AC9 g_b
   have Q_:=AA (Hg.out.below hbe)
   have ZC:=AA hbe.size
   have Hb2:=AA (BM.out.trans (hbe.mono hsz))
   have hsz2:w.heap.size≤w2.heap.size:=Hb2.out.size
   clear hbe
   have Ir:=AA (Gz w2 [.int .i64 x.at_,.slice yA x.b.length yB] 99)
   go_wp2_with (at_builtin;refine BP _ rfl (.tmp 11) (.tmp 17) 26 rfl w.heap.size 99 i0 z0 2 32 underlying26 Hi.out Hz.out Hs.out Hb.out Nz.out (by omega) (.slice A1 k c1) k cells rfl (Q_.out.own.alloc _) (w2.heap.size+1) _ 1 1 [.int .i64 x.at_,.slice yA x.b.length yB] rfl rfl Ir.out (by intro u hu;simp at hu;rcases hu with rfl | rfl<;>rfl) (by unfold maxLen;omega) (by omega) (by simp;omega) ?_;intro A3 c3 w3 h2 h3 h4;have H2:=AA h2;have H3:=AA h3;have H4:=AA h4;clear h2 h3 h4)
   have hba:Below w2.heap.size w2 (w2.alloc (.cells #[.int .i64 x.at_,.slice yA x.b.length yB] 99)):=(Below.refl _ _).alloc (Nat.le_refl _) _
   have hgn:=(Q_.out.below hba).snoc (by simp;omega) (Ib.below UO.out hba (Nat.le_refl _)) (Nat.le_trans hsz (Nat.le_refl _)) (by simp) (fun g hg=> .inl (Hg.out.own.lt g hg).2) H2.out H3.out H4.out
   refine⟨⟨k+1,A3,c3,cells++ [.int .i64 x.at_,.slice yA x.b.length yB],by rw [←Hn.out];omega,by go_num,rfl,?_,(Hb2.out.alloc hsz2 _).trans (BK (Q_.out.own.alloc _) H3.out (by simp;omega))⟩,by simp [intOf];omega⟩
   rw [List.take_add_one,Hx.out]
   exact hgn
  ·obtain rfl:n=k:=by omega
   go_wp2_with fail
   go_ret
   refine⟨A1,c1,by rw [←Hn.out];rfl,?_,BM.out⟩
   have:=Hg.out.reads
   rw [List.take_of_length_le (by rw [←Hn.out];exact Nat.le_refl _)] at this
   rw [←Hn.out]
   exact this
theorem lN (cs:List Value) (hi:Nat) (x:Jy) (w:World) (h:Od.R w 0 hi cs x) (hhi:hi≤w.heap.size) (hle:fU x):
 Calls prog 64 #[.agg cs.toArray] w (NJ Od x w):=by
 obtain⟨MC,Q9,rfl,Qf,Lv,CF,Gi⟩:=FV.1 h
 obtain⟨E8,ET,rfl⟩:=AB CF
 obtain⟨I_,Io,rfl⟩:=AB Gi
 have H_f:=AA Qf
 have H_pc:=AA Lv
 have Xp:=AA CF
 have zm:=AA Gi
 have Gm:=AA hle
 clear h hle Qf Lv CF Gi
 go_enter func64,ntmps64
 go_wp2_with fail
 generalize hw:(w.alloc _).alloc _=w1
 have S:Hid (JE 91 w w1 [.int .i64 x.f,.int .i64 x.pc,.slice E8 x.loc.length ET,.slice I_ x.st.length Io] [.int .i64 0,.int .i64 0,.slice none 0 0,.slice none 0 0] fun _=>True):=by rw [←hw];exact AA (JE.init _ _ _ _)
 clear hw
 refine(Ow E8 x.loc.length ET hi x.loc w1 (Rd.below Xp.out S.out.H hhi) (Nat.le_trans hhi S.out.H.size) (by have:=Gm.out.1;omega)).mono ?_
 rintro e w2 ⟨Qo,Qp,rfl,h2,h3⟩
 have S2:=AA (S.out.below h3);replace S:=AA (S.out.put _ h2 h3 2)
 clear h2 h3
 have hf:=S2.out.b.frozen 2;have hc:=S2.out.b.q 2 rfl
 have hn:=S2.out.b.q 3 rfl
 go_wp2_with fail
 clear hn hc hf S2
 generalize w2.setCell _ _=w1 at S⊢
 clear w2
 refine(Ow I_ x.st.length Io hi x.st w1 (Rd.below zm.out S.out.H hhi) (Nat.le_trans hhi S.out.H.size) (by have:=Gm.out.2;omega)).mono ?_
 rintro e w2 ⟨Xr,Xt,rfl,h2,h3⟩
 have S2:=AA (S.out.below h3);replace S:=AA (S.out.put _ h2 h3 3)
 clear h2 h3
 have hf:=S2.out.b.frozen 3;have hc:=S2.out.b.q 3 rfl
 have hd0:=S2.out.b.q 0 rfl
 have hd1:=S2.out.b.q 1 rfl
 have hd2:=S2.out.b.q 2 rfl
 have hg0:=S2.out.r.frozen 0;have he0:=S2.out.r.q 0 rfl
 have hg1:=S2.out.r.frozen 1;have he1:=S2.out.r.q 1 rfl
 have hg2:=S2.out.r.frozen 2;have he2:=S2.out.r.q 2 rfl
 have hg3:=S2.out.r.frozen 3;have yC:=S2.out.r.q 3 rfl
 go_wp2_with fail
 have E:JE 91 w _ [.int .i64 x.f,.int .i64 x.pc,.slice Qo x.loc.length Qp,.slice Xr x.st.length Xt] [.int .i64 x.f,.int .i64 x.pc,.slice Qo x.loc.length Qp,.slice Xr x.st.length Xt] _:=S.out.fill rfl
 refine bodyPost_ret ?_ rfl ⟨_,rfl,FV.2 ⟨.slice Qo x.loc.length Qp,.slice Xr x.st.length Xt,rfl,H_f.out,H_pc.out,Zi E.q.1.2,Zi E.q.2⟩,E.H⟩
 rw [Ep rfl]
 simp only [asAddr,Result.andThen]
 exact run_loadVar_row _ _ 91 91 _ (0,0) _ E.r underlying91 rfl (by kernel_rfl)
theorem O8:(prog.info? 91).map (fun i=>(i.size,i.bytes,i.zero.map fun z=>z.cells.size))=some (4,64,some 4):=by kernel_rfl
def Xu (l:List Jy) (w:World) (a i:Value) (wr:World):Prop:= ∃(k:Nat) (A:Option Addr) (c:Nat) (cells:List Value),k≤l.length∧i= .int .i64 k∧a= .slice A k c∧GX Od 91 w.heap.size wr A k c cells (l.take k)∧Below w.heap.size w wr
theorem fq (A:Option Addr) (n c hi:Nat) (l:List Jy) (w:World) (h:(Od.sl false).R w 0 hi [.slice A n c] l) (hhi:hi≤w.heap.size) (hle:l.length≤2147483647∧ ∀x∈l,fU x):
 Calls prog 31 #[.slice A n c] w (FI Od l w):=by
 have hn:=Bq h
 have hlen:=hle.1
 rw [←hn] at hlen
 have Gm:=AA hle.2
 have Hh:=AA h
 have Hn:=AA hn
 clear h hn hle
 obtain⟨i0,z0,hi0,hz,hs',hb,hzz⟩:=info_parts' O8
 have Hi:=AA hi0;have Hz:=AA hz;have Hs:=AA hs';have Hb:=AA hb;have Nz:=AA hzz;clear hi0 hz hs' hb hzz
 go_enter func31,ntmps31
 go_wp2_with fail
 go_loopw [3,4] (fun a i wr=>Xu l w a i wr) (fun _ i _=>n-(intOf i).toNat)
 case atStart=>exact⟨0,none,0,[],Nat.zero_le _,rfl,rfl,GX.nil _ _ _ _,Below.refl _ _⟩
 case round=>
  obtain⟨k,A1,c1,cells,hk,rfl,rfl,hg,hbel⟩:=hrel
  have Hg:=AA hg;clear hg
  have BM:=AA hbel;clear hbel
  rw [←Hn.out] at hk
  by_cases hlt:k<n
  ·obtain⟨x,hx⟩: ∃x,l[k]?=some x:=⟨_,List.getElem?_eq_getElem (by rw [←Hn.out];exact hlt)⟩
   obtain⟨b,o,E8,ET,I_,Io,rfl,hlo,Vs,hc0,hc1,hc2,hc3,Qf,Lv,CF,Gi⟩:=JR ((Od.sl false).below Hh.out BM.out hhi) hx
   have HE:Hid (Od.R wr 0 hi [.int .i64 x.f,.int .i64 x.pc,.slice E8 x.loc.length ET,.slice I_ x.st.length Io] x):=AA (FV.2 ⟨.slice E8 x.loc.length ET,.slice I_ x.st.length Io,rfl,Qf,Lv,CF,Gi⟩)
   have Hx:=AA hx;clear hx Qf Lv CF Gi
   have hsz:w.heap.size≤wr.heap.size:=BM.out.size
   have hk0:(0:Int)≤k:=by omega
   go_wp2_with fail
   refine(lN _ hi x wr HE.out (Nat.le_trans hhi hsz) (Gm.out x (List.mem_of_getElem? Hx.out))).mono ?_
   rintro e w2 ⟨cs',rfl,hr2,hbe⟩
   obtain⟨u_loc,u_st,rfl,g_f,g_pc,bW,AC_⟩:=FV.1 hr2
   obtain⟨Qo,Qp,rfl⟩:=AB bW
   obtain⟨Xr,Xt,rfl⟩:=AB AC_
   have UO:=AA hr2
   clear hr2 g_f g_pc bW AC_
   have Q_:=AA (Hg.out.below hbe)
   have ZC:=AA hbe.size
   have Hb2:=AA (BM.out.trans (hbe.mono hsz))
   have hsz2:w.heap.size≤w2.heap.size:=Hb2.out.size
   clear hbe
   have Ir:=AA (Gz w2 [.int .i64 x.f,.int .i64 x.pc,.slice Qo x.loc.length Qp,.slice Xr x.st.length Xt] 91)
   go_wp2_with (at_builtin;refine BP _ rfl (.tmp 11) (.tmp 17) 30 rfl w.heap.size 91 i0 z0 4 64 underlying30 Hi.out Hz.out Hs.out Hb.out Nz.out (by omega) (.slice A1 k c1) k cells rfl (Q_.out.own.alloc _) (w2.heap.size+1) _ 1 1 [.int .i64 x.f,.int .i64 x.pc,.slice Qo x.loc.length Qp,.slice Xr x.st.length Xt] rfl rfl Ir.out (by intro u hu;simp at hu;rcases hu with rfl | rfl | rfl | rfl<;>rfl) (by unfold maxLen;omega) (by omega) (by simp;omega) ?_;intro A3 c3 w3 h2 h3 h4;have H2:=AA h2;have H3:=AA h3;have H4:=AA h4;clear h2 h3 h4)
   have hba:Below w2.heap.size w2 (w2.alloc (.cells #[.int .i64 x.f,.int .i64 x.pc,.slice Qo x.loc.length Qp,.slice Xr x.st.length Xt] 91)):=(Below.refl _ _).alloc (Nat.le_refl _) _
   have hgn:=(Q_.out.below hba).snoc (by simp;omega) (Od.below UO.out hba (Nat.le_refl _)) (Nat.le_trans hsz (Nat.le_refl _)) (by simp) (fun g hg=> .inl (Hg.out.own.lt g hg).2) H2.out H3.out H4.out
   refine⟨⟨k+1,A3,c3,cells++ [.int .i64 x.f,.int .i64 x.pc,.slice Qo x.loc.length Qp,.slice Xr x.st.length Xt],by rw [←Hn.out];omega,by go_num,rfl,?_,(Hb2.out.alloc hsz2 _).trans (BK (Q_.out.own.alloc _) H3.out (by simp;omega))⟩,by simp [intOf];omega⟩
   rw [List.take_add_one,Hx.out]
   exact hgn
  ·obtain rfl:n=k:=by omega
   go_wp2_with fail
   go_ret
   refine⟨A1,c1,by rw [←Hn.out];rfl,?_,BM.out⟩
   have:=Hg.out.reads
   rw [List.take_of_length_le (by rw [←Hn.out];exact Nat.le_refl _)] at this
   rw [←Hn.out]
   exact this
theorem Qq:(prog.info? 40).map (fun i=>(i.size,i.bytes,i.zero.map fun z=>z.cells.size))=some (1,24,some 1):=by kernel_rfl
def Zm (l:List (List UInt8)) (w:World) (a i:Value) (wr:World):Prop:= ∃(k:Nat) (A:Option Addr) (c:Nat) (cells:List Value),k≤l.length∧i= .int .i64 k∧a= .slice A k c∧GX (Rd.u8.sl false) 40 w.heap.size wr A k c cells (l.take k)∧Below w.heap.size w wr
theorem lQ (A:Option Addr) (n c hi:Nat) (l:List (List UInt8)) (w:World) (h:((Rd.u8.sl false).sl false).R w 0 hi [.slice A n c] l) (hhi:hi≤w.heap.size) (hle:l.length≤2147483647∧ ∀x∈l,Zh x):
 Calls prog 33 #[.slice A n c] w (FI (Rd.u8.sl false) l w):=by
 have hn:=Bq h
 have hlen:=hle.1
 rw [←hn] at hlen
 have Gm:=AA hle.2
 have Hh:=AA h
 have Hn:=AA hn
 clear h hn hle
 obtain⟨i0,z0,hi0,hz,hs',hb,hzz⟩:=info_parts' Qq
 have Hi:=AA hi0;have Hz:=AA hz;have Hs:=AA hs';have Hb:=AA hb;have Nz:=AA hzz;clear hi0 hz hs' hb hzz
 go_enter func33,ntmps33
 go_wp2_with fail
 go_loopw [3,4] (fun a i wr=>Zm l w a i wr) (fun _ i _=>n-(intOf i).toNat)
 case atStart=>exact⟨0,none,0,[],Nat.zero_le _,rfl,rfl,GX.nil _ _ _ _,Below.refl _ _⟩
 case round=>
  obtain⟨k,A1,c1,cells,hk,rfl,rfl,hg,hbel⟩:=hrel
  have Hg:=AA hg;clear hg
  have BM:=AA hbel;clear hbel
  rw [←Hn.out] at hk
  by_cases hlt:k<n
  ·obtain⟨x,hx⟩: ∃x,l[k]?=some x:=⟨_,List.getElem?_eq_getElem (by rw [←Hn.out];exact hlt)⟩
   obtain⟨b,o,rfl,hlo,Vs,cs,hcs,hr⟩:=DC (((Rd.u8.sl false).sl false).below Hh.out BM.out hhi) hx
   obtain⟨v,rfl,hr⟩:=Co hr
   obtain⟨A2,c2,rfl⟩:=AB hr
   have hc0:wr.cell? ⟨b,o+k,none⟩=some (.slice A2 x.length c2):=by
    have:=hcs 0 _ rfl
    rwa [show(Rd.u8.sl false).z=1 from rfl,Nat.mul_one,Nat.add_zero] at this
   have HE:=AA hr
   have Hx:=AA hx;clear hx hr hcs
   have hsz:w.heap.size≤wr.heap.size:=BM.out.size
   have hk0:(0:Int)≤k:=by omega
   go_wp2_with fail
   refine(XQ A2 x.length c2 hi x wr HE.out (Nat.le_trans hhi hsz) (by have:=Gm.out x (List.mem_of_getElem? Hx.out);unfold Zh at this;omega)).mono ?_
   rintro e w2 ⟨B2,d2,rfl,hr2,hbe⟩
   have UO:=AA hr2
   clear hr2
   have Q_:=AA (Hg.out.below hbe)
   have ZC:=AA hbe.size
   have Hb2:=AA (BM.out.trans (hbe.mono hsz))
   have hsz2:w.heap.size≤w2.heap.size:=Hb2.out.size
   clear hbe
   have Ir:=AA (Gz w2 [.slice B2 x.length d2] 40)
   go_wp2_with (at_builtin;refine BP _ rfl (.tmp 11) (.tmp 17) 32 rfl w.heap.size 40 i0 z0 1 24 underlying32 Hi.out Hz.out Hs.out Hb.out Nz.out (by omega) (.slice A1 k c1) k cells rfl (Q_.out.own.alloc _) (w2.heap.size+1) _ 1 1 [.slice B2 x.length d2] rfl rfl Ir.out (by intro u hu;simp at hu;subst hu;rfl) (by unfold maxLen;omega) (by omega) (by simp;omega) ?_;intro A3 c3 w3 h2 h3 h4;have H2:=AA h2;have H3:=AA h3;have H4:=AA h4;clear h2 h3 h4)
   have hba:Below w2.heap.size w2 (w2.alloc (.cells #[.slice B2 x.length d2] 40)):=(Below.refl _ _).alloc (Nat.le_refl _) _
   have hgn:=(Q_.out.below hba).snoc (by simp;omega) ((Rd.u8.sl false).below UO.out hba (Nat.le_refl _)) (Nat.le_trans hsz (Nat.le_refl _)) (by simp) (fun g hg=> .inl (Hg.out.own.lt g hg).2) H2.out H3.out H4.out
   refine⟨⟨k+1,A3,c3,cells++ [.slice B2 x.length d2],by rw [←Hn.out];omega,by go_num,rfl,?_,(Hb2.out.alloc hsz2 _).trans (BK (Q_.out.own.alloc _) H3.out (by simp;omega))⟩,by simp [intOf];omega⟩
   rw [List.take_add_one,Hx.out]
   exact hgn
  ·obtain rfl:n=k:=by omega
   go_wp2_with fail
   go_ret
   refine⟨A1,c1,by rw [←Hn.out];rfl,?_,BM.out⟩
   have:=Hg.out.reads
   rw [List.take_of_length_le (by rw [←Hn.out];exact Nat.le_refl _)] at this
   rw [←Hn.out]
   exact this
theorem fu (cs:List Value) (hi:Nat) (x:AP) (w:World) (h:DJ.R w 0 hi cs x) (hhi:hi≤w.heap.size) (hle:SQ x):
 Calls prog 7 #[.agg cs.toArray] w (NJ DJ x w):=by
 obtain⟨Gs,GK,Cm,Iz,Ic,Ev,rfl,Di,Dj,BN,Ez,Gt,Gu,Gv,Eb⟩:=Am.1 h
 obtain⟨J5,I8,rfl⟩:=AB Di
 obtain⟨J6,I9,rfl⟩:=AB Dj
 obtain⟨D5,Dk,rfl⟩:=AB BN
 obtain⟨Qk,Ol,rfl⟩:=AB Gu
 obtain⟨Ql,Om,rfl⟩:=AB Gv
 obtain⟨MZ,K9,rfl⟩:=AB Eb
 have O6:=AA Di
 have RZ:=AA Dj
 have J7:=AA BN
 have sZ:=AA Ez
 have zn:=AA Gt
 have Xm:=AA Gu
 have Xn:=AA Gv
 have SK:=AA Eb
 have Gm:=AA hle
 clear h hle Di Dj BN Ez Gt Gu Gv Eb
 go_enter func7,ntmps7
 go_wp2_with fail
 generalize hw:(w.alloc _).alloc _=w1
 have S:Hid (JE 29 w w1 [.slice J5 x.types.length I8,.slice J6 x.hosts.length I9,.slice D5 x.globs.length Dk,.int .i64 x.first,.int .i64 x.most,.slice Qk x.fns.length Ol,.slice Ql x.dat.length Om,.slice MZ x.Au.length K9] [.slice none 0 0,.slice none 0 0,.slice none 0 0,.int .i64 0,.int .i64 0,.slice none 0 0,.slice none 0 0,.slice none 0 0] fun _=>True):=by rw [←hw];exact AA (JE.init _ _ _ _)
 clear hw
 refine(rT J5 x.types.length I8 hi x.types w1 (Rd.below O6.out S.out.H hhi) (Nat.le_trans hhi S.out.H.size) (by have:=Gm.out;unfold SQ at this;omega)).mono ?_
 rintro e w2 ⟨Vu,Vv,rfl,h2,h3⟩
 have S2:=AA (S.out.below h3);replace S:=AA (S.out.put _ h2 h3 0)
 clear h2 h3
 have hf:=S2.out.b.frozen 0;have hc:=S2.out.b.q 0 rfl
 have hn:=S2.out.b.q 1 rfl
 go_wp2_with fail
 clear hn hc hf S2
 generalize w2.setCell _ _=w1 at S⊢
 clear w2
 refine(bN J6 x.hosts.length I9 hi x.hosts w1 (Rd.below RZ.out S.out.H hhi) (Nat.le_trans hhi S.out.H.size) (by have:=Gm.out;unfold SQ at this;omega)).mono ?_
 rintro e w2 ⟨Vw,Vx,rfl,h2,h3⟩
 have S2:=AA (S.out.below h3);replace S:=AA (S.out.put _ h2 h3 1)
 clear h2 h3
 have hf:=S2.out.b.frozen 1;have hc:=S2.out.b.q 1 rfl
 have hn:=S2.out.b.q 2 rfl
 go_wp2_with fail
 clear hn hc hf S2
 generalize w2.setCell _ _=w1 at S⊢
 clear w2
 refine(ZN D5 x.globs.length Dk hi x.globs w1 (Rd.below J7.out S.out.H hhi) (Nat.le_trans hhi S.out.H.size) (by have:=Gm.out;unfold SQ at this;omega)).mono ?_
 rintro e w2 ⟨LZ,La,rfl,h2,h3⟩
 have S2:=AA (S.out.below h3);replace S:=AA (S.out.put _ h2 h3 2)
 clear h2 h3
 have hf:=S2.out.b.frozen 2;have hc:=S2.out.b.q 2 rfl
 have hn:=S2.out.b.q 5 rfl
 go_wp2_with fail
 clear hn hc hf S2
 generalize w2.setCell _ _=w1 at S⊢
 clear w2
 refine(Vt Qk x.fns.length Ol hi x.fns w1 (Rd.below Xm.out S.out.H hhi) (Nat.le_trans hhi S.out.H.size) Gm.out.2.2.2.1).mono ?_
 rintro e w2 ⟨lS,lT,rfl,h2,h3⟩
 have S2:=AA (S.out.below h3);replace S:=AA (S.out.put _ h2 h3 5)
 clear h2 h3
 have hf:=S2.out.b.frozen 5;have hc:=S2.out.b.q 5 rfl
 have hn:=S2.out.b.q 6 rfl
 go_wp2_with fail
 clear hn hc hf S2
 generalize w2.setCell _ _=w1 at S⊢
 clear w2
 refine(lM Ql x.dat.length Om hi x.dat w1 (Rd.below Xn.out S.out.H hhi) (Nat.le_trans hhi S.out.H.size) Gm.out.2.2.2.2.1).mono ?_
 rintro e w2 ⟨lU,lV,rfl,h2,h3⟩
 have S2:=AA (S.out.below h3);replace S:=AA (S.out.put _ h2 h3 6)
 clear h2 h3
 have hf:=S2.out.b.frozen 6;have hc:=S2.out.b.q 6 rfl
 have hn:=S2.out.b.q 7 rfl
 go_wp2_with fail
 clear hn hc hf S2
 generalize w2.setCell _ _=w1 at S⊢
 clear w2
 refine(ZO MZ x.Au.length K9 hi x.Au w1 (Rd.below SK.out S.out.H hhi) (Nat.le_trans hhi S.out.H.size) (by have:=Gm.out;unfold SQ at this;omega)).mono ?_
 rintro e w2 ⟨Zn,Zo,rfl,h2,h3⟩
 have S2:=AA (S.out.below h3);replace S:=AA (S.out.put _ h2 h3 7)
 clear h2 h3
 have hf:=S2.out.b.frozen 7;have hc:=S2.out.b.q 7 rfl
 have hd0:=S2.out.b.q 0 rfl
 have hd1:=S2.out.b.q 1 rfl
 have hd2:=S2.out.b.q 2 rfl
 have hd3:=S2.out.b.q 3 rfl
 have hd4:=S2.out.b.q 4 rfl
 have hd5:=S2.out.b.q 5 rfl
 have hd6:=S2.out.b.q 6 rfl
 have hg0:=S2.out.r.frozen 0;have he0:=S2.out.r.q 0 rfl
 have hg1:=S2.out.r.frozen 1;have he1:=S2.out.r.q 1 rfl
 have hg2:=S2.out.r.frozen 2;have he2:=S2.out.r.q 2 rfl
 have hg3:=S2.out.r.frozen 3;have yC:=S2.out.r.q 3 rfl
 have hg4:=S2.out.r.frozen 4;have jV:=S2.out.r.q 4 rfl
 have hg5:=S2.out.r.frozen 5;have he5:=S2.out.r.q 5 rfl
 have hg6:=S2.out.r.frozen 6;have he6:=S2.out.r.q 6 rfl
 have hg7:=S2.out.r.frozen 7;have he7:=S2.out.r.q 7 rfl
 go_wp2_with fail
 have E:JE 29 w _ [.slice Vu x.types.length Vv,.slice Vw x.hosts.length Vx,.slice LZ x.globs.length La,.int .i64 x.first,.int .i64 x.most,.slice lS x.fns.length lT,.slice lU x.dat.length lV,.slice Zn x.Au.length Zo] [.slice Vu x.types.length Vv,.slice Vw x.hosts.length Vx,.slice LZ x.globs.length La,.int .i64 x.first,.int .i64 x.most,.slice lS x.fns.length lT,.slice lU x.dat.length lV,.slice Zn x.Au.length Zo] _:=S.out.fill rfl
 refine bodyPost_ret ?_ rfl ⟨_,rfl,Am.2 ⟨.slice Vu x.types.length Vv,.slice Vw x.hosts.length Vx,.slice LZ x.globs.length La,.slice lS x.fns.length lT,.slice lU x.dat.length lV,.slice Zn x.Au.length Zo,rfl,Zi E.q.1.1.1.1.1.2,Zi E.q.1.1.1.1.2,Zi E.q.1.1.1.2,sZ.out,zn.out,Zi E.q.1.1.2,Zi E.q.1.2,Zi E.q.2⟩,E.H⟩
 rw [Ep rfl]
 simp only [asAddr,Result.andThen]
 exact run_loadVar_row _ _ 29 29 _ (0,0) _ E.r underlying29 rfl (by kernel_rfl)
theorem lW (cs:List Value) (hi:Nat) (x:FH) (w:World) (h:K7.R w 0 hi cs x) (hhi:hi≤w.heap.size) (hle:fV x):
 Calls prog 8 #[.agg cs.toArray] w (NJ K7 x w):=by
 obtain⟨F3,Cm,GL,Ie,rfl,Cj,BN,DY,Gw,KG,IB,Gx,Gy⟩:=CU.1 h
 obtain⟨FM,Ej,rfl⟩:=AB Cj
 obtain⟨D5,Dk,rfl⟩:=AB BN
 obtain⟨GQ,FW,rfl⟩:=AB DY
 obtain⟨Qm,Oo,rfl⟩:=AB IB
 have Ma:=AA Cj
 have J7:=AA BN
 have Vy:=AA DY
 have zo:=AA Gw
 have zq:=AA KG
 have lX:=AA IB
 have zu:=AA Gx
 have zw:=AA Gy
 have Gm:=AA hle
 clear h hle Cj BN DY Gw KG IB Gx Gy
 go_enter func8,ntmps8
 go_wp2_with fail
 generalize hw:(w.alloc _).alloc _=w1
 have S:Hid (JE 35 w w1 [.slice FM x.frames.length Ej,.slice D5 x.globs.length Dk,.slice GQ x.pages.length FW,.int .i64 x.Bj,.int .i8 x.end_,.slice Qm x.res.length Oo,.int .i8 x.trap,.int .i64 x.used] [.slice none 0 0,.slice none 0 0,.slice none 0 0,.int .i64 0,.int .i8 0,.slice none 0 0,.int .i8 0,.int .i64 0] fun _=>True):=by rw [←hw];exact AA (JE.init _ _ _ _)
 clear hw
 refine(fq FM x.frames.length Ej hi x.frames w1 (Rd.below Ma.out S.out.H hhi) (Nat.le_trans hhi S.out.H.size) Gm.out.1).mono ?_
 rintro e w2 ⟨SV,SX,rfl,h2,h3⟩
 have S2:=AA (S.out.below h3);replace S:=AA (S.out.put _ h2 h3 0)
 clear h2 h3
 have hf:=S2.out.b.frozen 0;have hc:=S2.out.b.q 0 rfl
 have hn:=S2.out.b.q 1 rfl
 go_wp2_with fail
 clear hn hc hf S2
 generalize w2.setCell _ _=w1 at S⊢
 clear w2
 refine(Ow D5 x.globs.length Dk hi x.globs w1 (Rd.below J7.out S.out.H hhi) (Nat.le_trans hhi S.out.H.size) (by have:=Gm.out;unfold fV at this;omega)).mono ?_
 rintro e w2 ⟨LZ,La,rfl,h2,h3⟩
 have S2:=AA (S.out.below h3);replace S:=AA (S.out.put _ h2 h3 1)
 clear h2 h3
 have hf:=S2.out.b.frozen 1;have hc:=S2.out.b.q 1 rfl
 have hn:=S2.out.b.q 2 rfl
 go_wp2_with fail
 clear hn hc hf S2
 generalize w2.setCell _ _=w1 at S⊢
 clear w2
 refine(lQ GQ x.pages.length FW hi x.pages w1 (Rd.below Vy.out S.out.H hhi) (Nat.le_trans hhi S.out.H.size) Gm.out.2.2.1).mono ?_
 rintro e w2 ⟨Vz,V3,rfl,h2,h3⟩
 have S2:=AA (S.out.below h3);replace S:=AA (S.out.put _ h2 h3 2)
 clear h2 h3
 have hf:=S2.out.b.frozen 2;have hc:=S2.out.b.q 2 rfl
 have hn:=S2.out.b.q 5 rfl
 go_wp2_with fail
 clear hn hc hf S2
 generalize w2.setCell _ _=w1 at S⊢
 clear w2
 refine(Ow Qm x.res.length Oo hi x.res w1 (Rd.below lX.out S.out.H hhi) (Nat.le_trans hhi S.out.H.size) (by have:=Gm.out;unfold fV at this;omega)).mono ?_
 rintro e w2 ⟨lY,lZ,rfl,h2,h3⟩
 have S2:=AA (S.out.below h3);replace S:=AA (S.out.put _ h2 h3 5)
 clear h2 h3
 have hf:=S2.out.b.frozen 5;have hc:=S2.out.b.q 5 rfl
 have hd0:=S2.out.b.q 0 rfl
 have hd1:=S2.out.b.q 1 rfl
 have hd2:=S2.out.b.q 2 rfl
 have hd3:=S2.out.b.q 3 rfl
 have hd4:=S2.out.b.q 4 rfl
 have hd6:=S2.out.b.q 6 rfl
 have hd7:=S2.out.b.q 7 rfl
 have hg0:=S2.out.r.frozen 0;have he0:=S2.out.r.q 0 rfl
 have hg1:=S2.out.r.frozen 1;have he1:=S2.out.r.q 1 rfl
 have hg2:=S2.out.r.frozen 2;have he2:=S2.out.r.q 2 rfl
 have hg3:=S2.out.r.frozen 3;have yC:=S2.out.r.q 3 rfl
 have hg4:=S2.out.r.frozen 4;have jV:=S2.out.r.q 4 rfl
 have hg5:=S2.out.r.frozen 5;have he5:=S2.out.r.q 5 rfl
 have hg6:=S2.out.r.frozen 6;have he6:=S2.out.r.q 6 rfl
 have hg7:=S2.out.r.frozen 7;have he7:=S2.out.r.q 7 rfl
 go_wp2_with fail
 have E:JE 35 w _ [.slice SV x.frames.length SX,.slice LZ x.globs.length La,.slice Vz x.pages.length V3,.int .i64 x.Bj,.int .i8 x.end_,.slice lY x.res.length lZ,.int .i8 x.trap,.int .i64 x.used] [.slice SV x.frames.length SX,.slice LZ x.globs.length La,.slice Vz x.pages.length V3,.int .i64 x.Bj,.int .i8 x.end_,.slice lY x.res.length lZ,.int .i8 x.trap,.int .i64 x.used] _:=S.out.fill rfl
 refine bodyPost_ret ?_ rfl ⟨_,rfl,CU.2 ⟨.slice SV x.frames.length SX,.slice LZ x.globs.length La,.slice Vz x.pages.length V3,.slice lY x.res.length lZ,rfl,Zi E.q.1.1.1.2,Zi E.q.1.1.2,Zi E.q.1.2,zo.out,zq.out,Zi E.q.2,zu.out,zw.out⟩,E.H⟩
 rw [Ep rfl]
 simp only [asAddr,Result.andThen]
 exact run_loadVar_row _ _ 35 35 _ (0,0) _ E.r underlying35 rfl (by kernel_rfl)
end Go.Proofs.YtlagonfamllgjaaGreatDoor
