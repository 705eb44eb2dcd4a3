/- Part 26 of the proof: SrdG RdP SrdH SrdK -/
import Derived.Laws.CopyOwn
import Derived.Test.YtlagonfamllgjaaGreatDoorR23
namespace Go.Proofs.YtlagonfamllgjaaGreatDoor
set_option linter.unusedVariables false
set_option linter.unusedSimpArgs false
set_option maxRecDepth 100000
set_option maxHeartbeats 4000000
open Go.RowKit Tryz
structure RS (T:TypeId) (w:World) (g sb B:Nat) (A:Option Addr) (c:Nat) (l:List UInt8) (zs:List Value) (st:(Int×Int)⊕Nat) (cells:List Value) (W:World):Prop where
 rd:CK T W g (.slice A l.length c) st
 box:AQ W sb 35 cells
 res:AQ W w.heap.size 35 zs
 Ep:Below w.heap.size w W
 row:Row W B A (l.map bv)
abbrev KS (g sb:Nat):Nat→Prop:=fun k=>k≠g∧k≠sb
section
variable {T:TypeId} {w:World} {g sb B:Nat} {A:Option Addr} {c:Nat} {l:List UInt8} {zs cells:List Value} {st st':(Int×Int)⊕Nat} {W W':World}
theorem RS.call (h:RS T w g sb B A c l zs st cells W) (hg:w.heap.size<g) (hs:g<sb) (hB:B≤w.heap.size) (hk:Keep (KN g) W W') (hr:CK T W' g (.slice A l.length c) st'):RS T w g sb B A c l zs st' cells W':=
 ⟨hr,h.box.keep hk (by show sb≠g;omega),h.res.keep hk (by show w.heap.size≠g;omega),h.Ep.trans (hk.below h.Ep.size (fun k hk=>by show k≠g;omega)),Row.CB h.row hk (fun k hk=>by show k≠g;omega) (Nat.le_trans hB h.Ep.size)⟩
theorem RS.set (h:RS T w g sb B A c l zs st cells W) (hg:w.heap.size<g) (hs:g<sb) (hB:B≤w.heap.size) (i:Nat) (u:Value):RS T w g sb B A c l zs st (cells.set i u) (W.setCell ⟨sb,i,none⟩ u):=by
 have hk:Keep (KN sb) W (W.setCell ⟨sb,i,none⟩ u):=Cy i u
 exact⟨h.rd.keep hk (by show g≠sb;omega),h.box.set i u,h.res.keep hk (by show w.heap.size≠sb;omega),h.Ep.setCell (by show w.heap.size≤sb;omega) u,Row.CB h.row hk (fun k hk=>by show k≠sb;omega) (Nat.le_trans hB h.Ep.size)⟩
theorem RS.under (h:RS T w g sb B A c l zs st cells W) (hg:w.heap.size<g) (hs:g<sb) (hB:B≤w.heap.size) {b:Nat} (hb:Below b W W') (hlt:sb<b):RS T w g sb B A c l zs st cells W':=
 ⟨h.rd.under hb (by omega),h.box.below hb hlt,h.res.below hb (by omega),h.Ep.trans ⟨hb.os,hb.tape,hb.output,hb.size,fun k hk=>hb.block k (by omega)⟩,h.row.below' hb (by omega)⟩
end
def uI {α:Type} (r:Rd α) (W:World) (lo hi:Nat) (A:Option Addr) (n c:Nat) (x:G8 (List α)):Prop:=hi≤W.heap.size∧ ∀vs q,x= .inr (vs,q)→n=vs.length∧(r.sl false).R W lo hi [.slice A n c] vs
theorem uI.keep {α:Type} {r:Rd α} {W W':World} {lo hi:Nat} {A:Option Addr} {n c:Nat} {x:G8 (List α)} {K:Nat→Prop} (h:uI r W lo hi A n c x) (hk:Keep K W W') (hK: ∀k,lo≤k→k<hi→K k):uI r W' lo hi A n c x:=
 ⟨Nat.le_trans h.1 hk.size,fun vs q hx=>⟨(h.2 vs q hx).1,Rd.CB (h.2 vs q hx).2 hk h.1 hK⟩⟩
theorem Wm.ls {α:Type} {r:Rd α} {w w':World} {x:G8 (List α)} {en:Ending} (h:Wm r w x en w'): ∃A n c,en= .returned (.slice A n c)∧uI r w' w.heap.size w'.heap.size A n c x:=by
 obtain⟨A,n,c,h1,h2⟩:=h
 exact⟨A,n,c,h1,Nat.le_refl _,h2⟩
theorem Qd {g sb:Nat} {W W':World} (h:Keep (KN g) W W'):Keep (KS g sb) W W':=h.mono (fun k hk=>hk.1)
theorem P8 {g sb:Nat} {W:World} (i:Nat) (u:Value):Keep (KS g sb) W (W.setCell ⟨sb,i,none⟩ u):=(Keep.refl _ _).setCell (fun h=>h.2 rfl) u
theorem Hq {l:List UInt8} {most:Nat} {great:Int} {st:(Int×Int)⊕Nat}:B_ 0 (Ak st (Ar l most great))≤most:=by
 cases st with
 | inl e=>exact Nat.zero_le _
 | inr p=>
  cases h:Ar l most great p with
  | inl e=>show B_ 0 (Ar l most great p)≤most;rw [h];exact Nat.zero_le _
  | inr x=>obtain⟨v,q⟩:=x;show B_ 0 (Ar l most great p)≤most;rw [h];exact ET h
def FSt (l:List UInt8) (N k hb:Nat) (RR:G8 (List Js)) (W:World) (Af:Option Addr) (cf:Nat) (fc:List Value):(Int×Int)⊕Nat→Prop
 | .inr q=> ∃acc,Fu UR 91 hb W Af k cf fc acc∧EX l (N-k) acc q=RR
 | .inl e=>RR= .inl e
theorem UA {l:List UInt8} {n k q:Nat} {acc:List Js} (hk:k<n):EX l (n-k) acc q=match Gt l q with
 | .inl e=> .inl e
 | .inr (f,q2)=>EX l (n-(k+1)) (acc++ [f]) q2:=by
 obtain⟨d,hd⟩: ∃d,n-k=d+1:=⟨n-k-1,by omega⟩
 rw [hd,show n-(k+1)=d by omega]
 rfl
def cZ (l:List UInt8) (st:(Int×Int)⊕Nat):G8 Nat:=Ak st (Ar l 127 17)
def aA (l:List UInt8) (st:(Int×Int)⊕Nat):G8 Nat:=Ak (posR (cZ l st)) (Ar l 2047 17)
def nA (l:List UInt8) (st:(Int×Int)⊕Nat):G8 (List Nat):=Ak (posR (aA l st)) (DL l 64)
def uJ (l:List UInt8) (st:(Int×Int)⊕Nat):G8 (List Nat):=Ak (posR (nA l st)) (DL l 256)
theorem AAL {l:List UInt8} {q:Nat}:cZ l (.inr q)=fr1 l q∧aA l (.inr q)=xR l q∧nA l (.inr q)=pW l q∧uJ l (.inr q)=xS l q:=by
 have h1:cZ l (.inr q)=fr1 l q:=rfl
 have h2:aA l (.inr q)=xR l q:=by unfold aA;rw [h1];exact Cc _ _
 have h3:nA l (.inr q)=pW l q:=by unfold nA;rw [h2];exact Cc _ _
 have h4:uJ l (.inr q)=xS l q:=by unfold uJ;rw [h3];exact Cc _ _
 exact⟨h1,h2,h3,h4⟩
theorem DY {α β:Type} {x:G8 α} {f:Nat→G8 β} {y:β×Nat} (h:C9 x f= .inr y): ∃a p,x= .inr (a,p)∧f p= .inr y:=by
 cases x with
 | inl e=>cases h
 | inr z=>obtain⟨a,p⟩:=z;exact⟨a,p,rfl,h⟩
theorem DZ {w:World} {g i:Nat} {u:Value}:Below g w (w.setCell ⟨g,i,none⟩ u):=(Below.refl g w).setCell (p:=⟨g,i,none⟩) (Nat.le_refl g) u
theorem FSt.next {l:List UInt8} {N k hb g sb:Nat} {RR:G8 (List Js)} {wr y7 y9:World} {Af A9 Al At:Option Addr} {cf c9 n1 n2 ml cl mt ct lo3 hi3 lo5 hi5:Nat} {fc:List Value} {st:(Int×Int)⊕Nat} {u:Value} (h:FSt l N k hb RR wr Af cf fc st) (hk:k<N) (hgh:g<hb) (hsh:sb<hb) (hz:hb≤wr.heap.size)
 (hKE:Keep (KN g) wr y7) (hn1:B_ 0 (cZ l st)=n1) (hn2:B_ 0 (aA l st)=n2) (h1:n1≤127) (h2:n2≤2047) (hl3:uI Rd.u64 y7 lo3 hi3 Al ml cl (nA l st)) (hlo3:wr.heap.size≤lo3) (hl4:uI Rd.u64 y7 lo5 hi5 At mt ct (uJ l st)) (uK:wr.heap.size≤lo5)
 (hol: ∀k',(Value.slice Af k cf).ownBlock=some k'→hb≤k'∧k'<wr.heap.size) (ho:y9.ownsRow hb 91 4 (.slice A9 (k+1) c9) (k+1) (fc++ [.int .i64 n1,.int .i64 n2,.slice Al ml cl,.slice At mt ct]))
 (hg9:(y7.alloc (.cells #[.int .i64 n1,.int .i64 n2,.slice Al ml cl,.slice At mt ct] 91)).grownBy y9 (Value.slice Af k cf).ownBlock)
 (hat:(Value.slice A9 (k+1) c9).ownBlock=(Value.slice Af k cf).ownBlock∨(Value.slice A9 (k+1) c9).ownBlock=some (y7.alloc (.cells #[.int .i64 n1,.int .i64 n2,.slice Al ml cl,.slice At mt ct] 91)).heap.size):
 FSt l N (k+1) hb RR (y9.setCell ⟨sb,0,none⟩ u) A9 c9 (fc++ [.int .i64 n1,.int .i64 n2,.slice Al ml cl,.slice At mt ct]) (posR (uJ l st)):=by
 cases st with
 | inl e=>exact h
 | inr q=>
  obtain⟨acc,hG,hgo⟩:=h
  obtain⟨x1,x2,x3,x4⟩:=AAL (l:=l) (q:=q)
  rw [x1] at hn1
  rw [x2] at hn2
  rw [x3] at hl3
  rw [x4] at hl4⊢
  have hnx:=UA (l:=l) (q:=q) (acc:=acc) hk
  rw [hgo] at hnx
  cases h4:xS l q with
  | inl e=>
   have:Gt l q= .inl e:=by unfold Gt;rw [h4]
   rw [this] at hnx
   exact hnx
  | inr z=>
   obtain⟨vs,q'⟩:=z
   have hfr:Gt l q= .inr (⟨(B_ 0 (fr1 l q):Nat),(B_ 0 (xR l q):Nat),B_ [] (pW l q),vs⟩,q'):=by unfold Gt;rw [h4]
   rw [hfr,hn1,hn2] at hnx
   obtain⟨lv,q3,h3,_⟩:=DY (f:=DL l 256) (show C9 (pW l q) (DL l 256)= .inr (vs,q')from h4)
   obtain⟨e3,r3⟩:=hl3.2 lv q3 h3
   obtain⟨e4,r4⟩:=hl4.2 vs q' h4
   rw [h3] at hnx
   have hz7:=hKE.size
   have Q9:Below y7.heap.size y7 (y7.alloc (.cells #[.int .i64 n1,.int .i64 n2,.slice Al ml cl,.slice At mt ct] 91)):=(Below.refl _ _).alloc (Nat.le_refl _) _
   have hr7:UR.R y7 wr.heap.size y7.heap.size [.int .i64 n1,.int .i64 n2,.slice Al ml cl,.slice At mt ct] ⟨(n1:Int),(n2:Int),lv,vs⟩:=
    Ic.2 ⟨_,_,rfl,⟨by show(-9223372036854775808:Int)≤n1;omega,by show(n1:Int)<_;omega⟩,⟨by show(-9223372036854775808:Int)≤n2;omega,by show(n2:Int)<_;omega⟩,Rd.more _ hlo3 hl3.1 r3,Rd.more _ uK hl4.1 r4⟩
   refine⟨acc++ [⟨(n1:Int),(n2:Int),lv,vs⟩],?_,hnx.symm⟩
   have hs:=((hG.kn hKE hgh).below Q9).snoc (by simp;omega) (Rd.below hr7 Q9 (Nat.le_refl _)) hz (by simp) (fun g' hg'=> .inl (hol g' hg').2) ho hg9 hat
   exact hs.kn (Cy 0 u) hsh
theorem cu {l:List UInt8} {least most p a q:Nat} (h:FH l least most p= .inr (a,q)):a≤most:=by
 unfold FH at h
 split at h
 ·cases h
 ·split at h
  ·cases h
  ·injection h with h;injection h with h1 h2;omega
structure uL (l:List UInt8) (acc:List Js) (v1 v2:Int) (n3 n4:Nat) (v5 v6:List Nat) (v7:List (List UInt8)) (p5 p6 p7:Nat):Prop where
 e5:Ww l= .inr (v5,p5)
 e6:Rm l= .inr (v6,p6)
 e7:LG l= .inr (v7,p7)
 b1:0≤v1∧v1≤3
 b2:0≤v2∧v2≤6
 st:OO l=⟨acc,v6,v7,n4,v1,v5,v2,n3⟩
theorem nC {l:List UInt8} {acc:List Js} {p n3 n4:Nat} {v1 v2:Int} (h:TN l= .inr (acc,p)) (hv1: ∀(a q:Nat),Yk l= .inr (a,q)→v1=a) (hv2: ∀(a q:Nat),XK l= .inr (a,q)→v2=a) (h3:B_ 0 (VT l)=n3) (h4:B_ 0 (Wv l)=n4):
 ∃v5 v6 v7 p5 p6 p7,uL l acc v1 v2 n3 n4 v5 v6 v7 p5 p6 p7:=by
 obtain⟨v7,p7,e7,_⟩:=DY (show C9 (LG l) (Il l)= .inr (acc,p)from h)
 obtain⟨v6,p6,e6,_⟩:=DY (show C9 (Rm l) (Cx l)= .inr (v7,p7)from e7)
 obtain⟨v5,p5,e5,_⟩:=DY (show C9 (Ww l) (DL l 64)= .inr (v6,p6)from e6)
 obtain⟨a4,p4,e4,_⟩:=DY (show C9 (Wv l) (DL l 8)= .inr (v5,p5)from e5)
 obtain⟨a3,p3,e3,_⟩:=DY (show C9 (VT l) (Ar l 9223372036854775807 17)= .inr (a4,p4)from e4)
 obtain⟨a2,p2,e2,_⟩:=DY (show C9 (XK l) (Ar l 4611686018427387904 17)= .inr (a3,p3)from e3)
 obtain⟨a1,p1,e1,f2⟩:=DY (show C9 (Yk l) (FH l 0 6)= .inr (a2,p2)from e2)
 have b1:=cu (show FH l 1 3 5= .inr (a1,p1)from e1)
 have b2:=cu f2
 have g1:=hv1 a1 p1 e1
 have g2:=hv2 a2 p2 e2
 have st:OO l=⟨B_ [] (TN l),B_ [] (Rm l),B_ [] (LG l),(B_ 0 (Wv l):Nat),(B_ 0 (Yk l):Nat),B_ [] (Ww l),(B_ 0 (XK l):Nat),(B_ 0 (VT l):Nat)⟩:=rfl
 rw [h,e6,e7,h4,e1,e5,e2,h3] at st
 exact⟨v5,v6,v7,p5,p6,p7,e5,e6,e7,by omega,by omega,by rw [st,g1,g2];rfl⟩
theorem aB {w:World} {g:Nat} (cs:Array Value) (h:g=g):Keep (KN g) w (w.setRow g cs):=
 ⟨rfl,rfl,rfl,by rw [size_setRow];exact Nat.le_refl _,fun k _ hk=>setRow_other _ _ _ _ hk⟩
theorem U5 {l:List UInt8} {acc:List Js} {v1 v2:Int} {n3 n4 N cf m5 m6 m7 c5 c6 c7 p5 p6 p7 base hb lo5 hi5 lo6 hi6 lo7 hi7:Nat} {Af A5 A6 A7:Option Addr} {v5 v6:List Nat} {v7:List (List UInt8)} {W:World} (h:uL l acc v1 v2 n3 n4 v5 v6 v7 p5 p6 p7) (h3:n3≤4611686018427387904) (h4:n4≤9223372036854775807)
 (hb0:base≤hb) (b5:base≤lo5) (b6:base≤lo6) (b7:base≤lo7) (fG:(UR.sl false).R W hb W.heap.size [.slice Af N cf] acc) (hN:N=acc.length) (f5:uI Rd.u64 W lo5 hi5 A5 m5 c5 (Ww l)) (f6:uI Rd.u64 W lo6 hi6 A6 m6 c6 (Rm l)) (f7:uI (Rd.u8.sl false) W lo7 hi7 A7 m7 c7 (LG l)):
 K8.R W base W.heap.size [.slice Af N cf,.slice A6 m6 c6,.slice A7 m7 c7,.int .i64 n4,.int .i8 v1,.slice A5 m5 c5,.int .i8 v2,.int .i64 n3] (OO l):=by
 rw [h.st]
 have b1:=h.b1
 have b2:=h.b2
 exact DR.2 ⟨_,_,_,_,rfl,Rd.more _ hb0 (Nat.le_refl _) fG,Rd.more _ b6 f6.1 (f6.2 _ _ h.e6).2,Rd.more _ b7 f7.1 (f7.2 _ _ h.e7).2,⟨by show(-9223372036854775808:Int)≤n4;omega,by show(n4:Int)<_;omega⟩,⟨by show(-128:Int)≤v1;omega,by show v1<128;omega⟩,Rd.more _ b5 f5.1 (f5.2 _ _ h.e5).2,⟨by show(-128:Int)≤v2;omega,by show v2<128;omega⟩,⟨by show(-9223372036854775808:Int)≤n3;omega,by show(n3:Int)<_;omega⟩⟩
theorem TI {l:List UInt8}: ∀(n:Nat) (acc:List Nat) (p:Nat) (vs:List Nat) (q:Nat),IU l n acc p= .inr (vs,q)→vs.length=acc.length+n
 | 0,acc,p,vs,q,h=>by injection h with h;injection h with h1 h2;subst h1;rfl
 | n+1,acc,p,vs,q,h=>by
  unfold IU at h
  cases hn:Ar l 18446744073709551615 17 p with
  | inl e=>rw [hn] at h;cases h
  | inr x=>
   obtain⟨v,r⟩:=x
   rw [hn] at h
   have:=TI n _ _ _ _ h
   rw [this,List.length_append]
   simp;omega
theorem Mv {l:List UInt8} {most p q:Nat} {vs:List Nat} (h:DL l most p= .inr (vs,q)):vs.length≤most:=by
 unfold DL at h
 cases hn:Ar l most 20 p with
 | inl e=>rw [hn] at h;cases h
 | inr x=>
  obtain⟨v,r⟩:=x
  rw [hn] at h
  have:=TI _ _ _ _ _ h
  have h2:=ET hn
  simp at this
  omega
theorem TJ {l:List UInt8}: ∀(n:Nat) (acc:List Nat) (p:Nat) (e:Int×Int),IU l n acc p= .inl e→e.1≠0
 | 0,acc,p,e,h=>by cases h
 | n+1,acc,p,e,h=>by
  unfold IU at h
  cases hn:Ar l 18446744073709551615 17 p with
  | inl x=>rw [hn] at h;injection h with h;subst h;exact Ho (by decide) hn
  | inr x=>obtain⟨v,r⟩:=x;rw [hn] at h;exact TJ n _ _ _ h
theorem Mw {l:List UInt8} {most p:Nat} {e:Int×Int} (h:DL l most p= .inl e):e.1≠0:=by
 unfold DL at h
 cases hn:Ar l most 20 p with
 | inl x=>rw [hn] at h;injection h with h;subst h;exact Ho (by decide) hn
 | inr x=>obtain⟨v,r⟩:=x;rw [hn] at h;exact TJ _ _ _ _ h
theorem Yf {l:List UInt8} {least most p:Nat} {e:Int×Int} (h:FH l least most p= .inl e):e.1≠0:=by
 unfold FH at h
 split at h
 ·injection h with h;subst h;exact(by decide:(10:Int)≠0)
 ·split at h
  ·injection h with h;subst h;exact(by decide:(17:Int)≠0)
  ·cases h
theorem iJ {l:List UInt8} {n bh p:Nat} {pg:List (List UInt8)} {e:Int×Int} (h:NC l n pg bh p= .inl e):e.1≠0:=by
 unfold NC at h
 cases hn:Ar l 18446744073709551615 17 p with
 | inl x=>rw [hn] at h;injection h with h;subst h;exact Ho (by decide) hn
 | inr x=>
  obtain⟨v,r⟩:=x
  rw [hn] at h
  dsimp only at h
  split at h
  ·injection h with h;subst h;exact(by decide:(17:Int)≠0)
  split at h
  ·injection h with h;subst h;exact(by decide:(18:Int)≠0)
  split at h
  ·injection h with h;subst h;exact(by decide:(10:Int)≠0)
  split at h
  ·injection h with h;subst h;exact(by decide:(12:Int)≠0)
  ·cases h
theorem Qh {l:List UInt8} {n:Nat}: ∀(k:Nat) (pg:List (List UInt8)) (bh p:Nat) (e:Int×Int),Em l n k pg bh p= .inl e→e.1≠0
 | 0,pg,bh,p,e,h=>by cases h
 | k+1,pg,bh,p,e,h=>by
  unfold Em at h
  cases hp:NC l n pg bh p with
  | inl x=>rw [hp] at h;injection h with h;subst h;exact iJ hp
  | inr x=>obtain⟨v,r⟩:=x;rw [hp] at h;exact Qh k _ _ _ _ h
theorem aJ {l:List UInt8} {p:Nat} {e:Int×Int} (h:Cx l p= .inl e):e.1≠0:=by
 unfold Cx at h
 cases hn:Ar l 64 20 p with
 | inl x=>rw [hn] at h;injection h with h;subst h;exact Ho (by decide) hn
 | inr x=>
  obtain⟨n,q⟩:=x
  rw [hn] at h
  dsimp only at h
  cases hk:Ar l n 20 q with
  | inl x=>rw [hk] at h;injection h with h;subst h;exact Ho (by decide) hk
  | inr x=>obtain⟨k,r⟩:=x;rw [hk] at h;exact Qh _ _ _ _ _ h
theorem nk {l:List UInt8} {n bh p:Nat} {pg:List (List UInt8)} {x:List (List UInt8)×Nat} {q:Nat} (h:NC l n pg bh p= .inr (x,q)) (hp: ∀y∈pg,y.length=4096):x.1.length=pg.length∧ ∀y∈x.1,y.length=4096:=by
 unfold NC at h
 cases hn:Ar l 18446744073709551615 17 p with
 | inl x=>rw [hn] at h;cases h
 | inr x=>
  obtain⟨v,r⟩:=x
  rw [hn] at h
  dsimp only at h
  split at h
  ·cases h
  split at h
  ·cases h
  split at h
  ·cases h
  rename_i hl
  split at h
  ·cases h
  injection h with h;injection h with h1 h2
  subst h1
  refine⟨List.length_set ..,fun y hy=> ?_⟩
  rcases List.mem_or_eq_of_mem_set hy with hy | rfl
  ·exact hp y hy
  ·rw [List.length_take,List.length_drop];omega
theorem TK {l:List UInt8} {n:Nat}: ∀(k:Nat) (pg:List (List UInt8)) (bh p:Nat) (x:List (List UInt8)) (q:Nat),(∀y∈pg,y.length=4096)→Em l n k pg bh p= .inr (x,q)→x.length=pg.length∧ ∀y∈x,y.length=4096
 | 0,pg,bh,p,x,q,hp,h=>by injection h with h;injection h with h1 h2;subst h1;exact⟨rfl,hp⟩
 | k+1,pg,bh,p,x,q,hp,h=>by
  unfold Em at h
  cases hpr:NC l n pg bh p with
  | inl e=>rw [hpr] at h;cases h
  | inr y=>
   obtain⟨v,r⟩:=y
   rw [hpr] at h
   obtain⟨h1,h2⟩:=nk hpr hp
   obtain⟨h3,h4⟩:=TK k _ _ _ _ _ h2 h
   exact⟨h3.trans h1,h4⟩
theorem iK {l:List UInt8} {p q:Nat} {x:List (List UInt8)} (h:Cx l p= .inr (x,q)):x.length≤64∧ ∀y∈x,y.length=4096:=by
 unfold Cx at h
 cases hn:Ar l 64 20 p with
 | inl e=>rw [hn] at h;cases h
 | inr y=>
  obtain⟨n,q⟩:=y
  rw [hn] at h
  dsimp only at h
  have hle:=ET hn
  cases hk:Ar l n 20 q with
  | inl e=>rw [hk] at h;cases h
  | inr y=>
   obtain⟨k,r⟩:=y
   rw [hk] at h
   obtain⟨h1,h2⟩:=TK _ _ _ _ _ _ (fun y hy=>by rw [(List.mem_replicate.1 hy).2];exact List.length_replicate ..) h
   exact⟨by rw [h1,List.length_replicate];exact hle,h2⟩
theorem Ee {α β:Type} {x:G8 α} {f:Nat→G8 β} {e:Int×Int} (h:C9 x f= .inl e):x= .inl e∨ ∃a p,x= .inr (a,p)∧f p= .inl e:=by
 cases x with
 | inl y=>exact .inl (by have:(.inl y:G8 β)= .inl e:=h;injection this with h;rw [h])
 | inr y=>exact .inr ⟨y.1,y.2,rfl,h⟩
theorem aK {l:List UInt8} {p:Nat} {e:Int×Int} (h:Gt l p= .inl e):e.1≠0:=by
 unfold Gt at h
 cases h4:xS l p with
 | inr x=>rw [h4] at h;cases h
 | inl x=>
  rw [h4] at h
  injection h with h;subst h
  rcases Ee h4 with h3 | ⟨_,q,_,h3⟩
  ·rcases Ee h3 with h2 | ⟨_,q,_,h2⟩
   ·rcases Ee h2 with h1 | ⟨_,q,_,h1⟩
    ·exact Ho (by decide) h1
    ·exact Ho (by decide) h1
   ·exact Mw h2
  ·exact Mw h3
theorem O_ {l:List UInt8}: ∀(n:Nat) (acc:List Js) (p:Nat) (e:Int×Int),EX l n acc p= .inl e→e.1≠0
 | 0,acc,p,e,h=>by cases h
 | n+1,acc,p,e,h=>by
  unfold EX at h
  cases hf:Gt l p with
  | inl x=>rw [hf] at h;injection h with h;subst h;exact aK hf
  | inr x=>obtain⟨v,r⟩:=x;rw [hf] at h;exact O_ n _ _ _ h
theorem vC {l:List UInt8} {e:Int×Int} (h:TN l= .inl e):e.1≠0:=by
 rcases Ee (show C9 (LG l) (Il l)= .inl e from h)with h7 | ⟨_,p,_,hf⟩
 ·rcases Ee (show C9 (Rm l) (Cx l)= .inl e from h7)with h6 | ⟨_,p,_,h⟩
  ·rcases Ee (show C9 (Ww l) (DL l 64)= .inl e from h6)with h5 | ⟨_,p,_,h⟩
   ·rcases Ee (show C9 (Wv l) (DL l 8)= .inl e from h5)with h4 | ⟨_,p,_,h⟩
    ·rcases Ee (show C9 (VT l) (Ar l 9223372036854775807 17)= .inl e from h4)with h3 | ⟨_,p,_,h⟩
     ·rcases Ee (show C9 (XK l) (Ar l 4611686018427387904 17)= .inl e from h3)with h2 | ⟨_,p,_,h⟩
      ·rcases Ee (show C9 (Yk l) (FH l 0 6)= .inl e from h2)with h1 | ⟨_,p,_,h⟩
       ·exact Yf (show FH l 1 3 5= .inl e from h1)
       ·exact Yf h
      ·exact Ho (by decide) h
     ·exact Ho (by decide) h
    ·exact Mw h
   ·exact Mw h
  ·exact aJ h
 ·unfold Il at hf
  cases hn:Ar l 64 20 p with
  | inl x=>rw [hn] at hf;injection hf with hf;subst hf;exact Ho (by decide) hn
  | inr x=>obtain⟨n,q⟩:=x;rw [hn] at hf;exact O_ _ _ _ _ hf
def Yg (f:Js):Prop:=f.loc.length≤64∧f.st.length≤256
theorem iL {l:List UInt8} {p q:Nat} {f:Js} (h:Gt l p= .inr (f,q)):Yg f:=by
 unfold Gt at h
 cases h4:xS l p with
 | inl x=>rw [h4] at h;cases h
 | inr x=>
  obtain⟨st,r⟩:=x
  rw [h4] at h
  injection h with h;injection h with h1 h2
  subst h1
  obtain⟨v3,q3,e3,f4⟩:=DY (show C9 (pW l p) (DL l 256)= .inr (st,r)from h4)
  obtain⟨v2,q2,e2,f3⟩:=DY (show C9 (xR l p) (DL l 64)= .inr (v3,q3)from e3)
  refine⟨?_,Mv f4⟩
  show(B_ [] (pW l p)).length≤64
  rw [e3]
  exact Mv f3
theorem Qi {l:List UInt8}: ∀(n:Nat) (acc:List Js) (p:Nat) (x:List Js) (q:Nat),(∀f∈acc,Yg f)→EX l n acc p= .inr (x,q)→x.length=acc.length+n∧ ∀f∈x,Yg f
 | 0,acc,p,x,q,ha,h=>by injection h with h;injection h with h1 h2;subst h1;exact⟨rfl,ha⟩
 | n+1,acc,p,x,q,ha,h=>by
  unfold EX at h
  cases hf:Gt l p with
  | inl e=>rw [hf] at h;cases h
  | inr y=>
   obtain⟨v,r⟩:=y
   rw [hf] at h
   obtain⟨h1,h2⟩:=Qi n _ _ _ _ (fun f hm=>by
    rcases List.mem_append.1 hm with hm | hm
    ·exact ha f hm
    ·rw [List.mem_singleton] at hm;subst hm;exact iL hf) h
   refine⟨?_,h2⟩
   rw [h1,List.length_append]
   simp;omega
theorem TL {l:List UInt8} {x:Int×Int} (h:Dr l= .inl x):x.1≠0:=by
 unfold Dr at h
 split at h
 ·injection h with h;subst h;decide
 split at h
 ·injection h with h;subst h;decide
 split at h
 ·rename_i e he;injection h with h;subst h;exact vC he
 ·split at h
  ·injection h with h;subst h;exact(show(19:Int)≠0 by decide)
  ·cases h
structure aL (s:FU):Prop where
 fr:s.frames.length≤64
 fs: ∀f∈s.frames,Yg f
 gl:s.globs.length≤64
 pl:s.pages.length≤64
 ps: ∀p∈s.pages,p.length=4096
 rs:s.res.length≤8
theorem TM {l:List UInt8} {s:FU} (h:Dr l= .inr s):aL s:=by
 unfold Dr at h
 split at h
 ·cases h
 split at h
 ·cases h
 split at h
 ·cases h
 ·rename_i acc p he
  split at h
  ·cases h
  injection h with h
  subst h
  obtain⟨v7,p7,e7,f8⟩:=DY (show C9 (LG l) (Il l)= .inr (acc,p)from he)
  obtain⟨v6,p6,e6,f7⟩:=DY (show C9 (Rm l) (Cx l)= .inr (v7,p7)from e7)
  obtain⟨v5,p5,e5,f6⟩:=DY (show C9 (Ww l) (DL l 64)= .inr (v6,p6)from e6)
  obtain⟨v4,p4,e4,f5⟩:=DY (show C9 (Wv l) (DL l 8)= .inr (v5,p5)from e5)
  obtain⟨hp1,hp2⟩:=iK f7
  unfold Il at f8
  cases hn:Ar l 64 20 p7 with
  | inl e=>rw [hn] at f8;cases f8
  | inr y=>
   obtain⟨n,q⟩:=y
   rw [hn] at f8
   have hle:=ET hn
   obtain⟨hf1,hf2⟩:=Qi _ _ _ _ _ (fun f hf=>by simp at hf) f8
   exact⟨by show(B_ [] (TN l)).length≤64;rw [he];show acc.length≤64;rw [hf1];simpa using hle,by show ∀f∈B_ [] (TN l),Yg f;rw [he];exact hf2,by show(B_ [] (Rm l)).length≤64;rw [e6];exact Mv f6,by show(B_ [] (LG l)).length≤64;rw [e7];exact hp1,by show ∀p∈B_ [] (LG l),p.length=4096;rw [e7];exact hp2,by show(B_ [] (Ww l)).length≤8;rw [e5];exact Mv f5⟩
theorem aL.AFl {s:FU} (h:aL s):Vd s:=
 ⟨by have:=h.fr;omega,fun f hf=>⟨by have:=(h.fs f hf).1;omega,by have:=(h.fs f hf).2;omega⟩,by have:=h.gl;omega,by have:=h.pl;omega,fun p hp=>by have:=h.ps p hp;omega,by have:=h.rs;omega⟩
theorem aL.le {s:FU} (h:aL s):yA s:=
 ⟨⟨by have:=h.fr;omega,fun f hf=>⟨by have:=(h.fs f hf).1;omega,by have:=(h.fs f hf).2;omega⟩⟩,by have:=h.gl;omega,⟨by have:=h.pl;omega,fun p hp=>by have:=h.ps p hp;unfold qK;omega⟩,by have:=h.rs;omega⟩
def O4 (n:Nat):Code→Option Code
 | .region i a b=>if i=n then some (.region i a b) else none
 | .seq a b=>match O4 n a with
  | some c=>some c
  | none=>O4 n b
 | .block _ c=>O4 n c
 | .loop c=>O4 n c
 | .scope c=>O4 n c
 | .cond _ a b=>match O4 n a with
  | some c=>some c
  | none=>O4 n b
 | _=>none
def ZB (B:Nat) (w0:World) (rb:Nat) (t:TypeId) (W:World):Prop:=Below B w0 W∧AQ W rb t [.slice none 0 0,.slice none 0 0,.slice none 0 0,.int .i64 0,.int .i8 0,.slice none 0 0,.int .i8 0,.int .i64 0]
theorem zb0 {w0 w:World} {rb:Nat} {t:TypeId} (h:ZB rb w0 rb t w):ZB rb w0 rb t (w.setCell ⟨rb,0,none⟩ (.slice none 0 0)):=⟨h.1.trans DZ,h.2.set 0 (.slice none 0 0)⟩
theorem zb1 {w0 w:World} {rb:Nat} {t:TypeId} (h:ZB rb w0 rb t w):ZB rb w0 rb t (w.setCell ⟨rb,1,none⟩ (.slice none 0 0)):=⟨h.1.trans DZ,h.2.set 1 (.slice none 0 0)⟩
theorem zb2 {w0 w:World} {rb:Nat} {t:TypeId} (h:ZB rb w0 rb t w):ZB rb w0 rb t (w.setCell ⟨rb,2,none⟩ (.slice none 0 0)):=⟨h.1.trans DZ,h.2.set 2 (.slice none 0 0)⟩
theorem zb3 {w0 w:World} {rb:Nat} {t:TypeId} (h:ZB rb w0 rb t w):ZB rb w0 rb t (w.setCell ⟨rb,3,none⟩ (.int .i64 0)):=⟨h.1.trans DZ,h.2.set 3 (.int .i64 0)⟩
theorem zb4 {w0 w:World} {rb:Nat} {t:TypeId} (h:ZB rb w0 rb t w):ZB rb w0 rb t (w.setCell ⟨rb,4,none⟩ (.int .i8 0)):=⟨h.1.trans DZ,h.2.set 4 (.int .i8 0)⟩
theorem zb5 {w0 w:World} {rb:Nat} {t:TypeId} (h:ZB rb w0 rb t w):ZB rb w0 rb t (w.setCell ⟨rb,5,none⟩ (.slice none 0 0)):=⟨h.1.trans DZ,h.2.set 5 (.slice none 0 0)⟩
theorem zb6 {w0 w:World} {rb:Nat} {t:TypeId} (h:ZB rb w0 rb t w):ZB rb w0 rb t (w.setCell ⟨rb,6,none⟩ (.int .i8 0)):=⟨h.1.trans DZ,h.2.set 6 (.int .i8 0)⟩
theorem zb7 {w0 w:World} {rb:Nat} {t:TypeId} (h:ZB rb w0 rb t w):ZB rb w0 rb t (w.setCell ⟨rb,7,none⟩ (.int .i64 0)):=⟨h.1.trans DZ,h.2.set 7 (.int .i64 0)⟩
theorem zbd {w0 w:World} {rb:Nat} {t:TypeId} (h:ZB rb w0 rb t w):ZB rb w0 rb t w.drew:=⟨h.1.drew,h.2⟩
theorem dA {w:World} {rb:Nat} {t:TypeId} (h:AQ w rb t [.slice none 0 0,.slice none 0 0,.slice none 0 0,.int .i64 0,.int .i8 0,.slice none 0 0,.int .i8 0,.int .i64 0]):ZB rb w rb t (World.drew (World.setCell (World.setCell (World.setCell (World.setCell (World.setCell (World.setCell (World.setCell (World.setCell w ⟨rb,0,none⟩ (.slice none 0 0)) ⟨rb,1,none⟩ (.slice none 0 0)) ⟨rb,2,none⟩ (.slice none 0 0)) ⟨rb,3,none⟩ (.int .i64 0)) ⟨rb,4,none⟩ (.int .i8 0)) ⟨rb,5,none⟩ (.slice none 0 0)) ⟨rb,6,none⟩ (.int .i8 0)) ⟨rb,7,none⟩ (.int .i64 0))):=zbd (zb7 (zb6 (zb5 (zb4 (zb3 (zb2 (zb1 (zb0 ⟨Below.refl _ _,h⟩))))))))
noncomputable def AAM:Code:=((f53.body.bind (O4 22)).getD .skip)
set_option maxRecDepth 1000000 in
set_option maxHeartbeats 20000000 in
theorem nD {rb g:Nat} {e b:Int} {w:World} (q2:w.cell? ⟨g,2,none⟩=some (.int .i64 e)) (q3:w.cell? ⟨g,3,none⟩=some (.int .i64 b)) (hne:g≠rb) (hr:AQ w rb 35 [.slice none 0 0,.slice none 0 0,.slice none 0 0,.int .i64 0,.int .i8 0,.slice none 0 0,.int .i8 0,.int .i64 0]) (s0 s1 s3 s4 s6 s7 s8 s9 s10 s11 s12 s13 s14 s15 s16 s17 s18 s19 s20 s21 s22 s23 s24 s25 s26 s27 s28 s29 s30 s31 s32 s33 s34 s35 s36 s37 s38 s39 s40 s41 s42 s43 s44 s45 s46 s47 s48 s49 s50 s51 s52 s53 s54 s55 s56 s57 s58 s59 s60 s61 s62 s63 s64 s65 s66 s67 s68 s69 s70 s71 s72 s73 s74 s75 s76 s77 s78 s79 s80 s81 s82 s83 s84 s85 s86 s87 s88 s89 s90 s91 s92 s93 s94 s95 s96 s97 s98 s99 uM uN uP uQ uR nG:Value) (K K1:Act→World→Prop) (P:Ending→World→Prop)
 (HK:Hid (∀(t96 t97 t98 t99 AAN AAO AAP AAQ AAR:Value) (w':World),Below rb w w'→AQ w' rb 35 [.slice none 0 0,.slice none 0 0,.slice none 0 0,.int .i64 0,.int .i8 0,.slice none 0 0,.int .i8 0,.int .i64 0]→K ⟨(List.toArray (s0::s1::(.pointer (some ⟨rb,0,none⟩))::(.int .i64 e)::(.int .i64 b)::(.pointer (some ⟨g,0,none⟩))::s6::s7::s8::s9::s10::s11::s12::s13::s14::s15::s16::s17::s18::s19::s20::s21::s22::s23::s24::s25::s26::s27::s28::s29::s30::s31::s32::s33::s34::s35::s36::s37::s38::s39::s40::s41::s42::s43::s44::s45::s46::s47::s48::s49::s50::s51::s52::s53::s54::s55::s56::s57::s58::s59::s60::s61::s62::s63::s64::s65::s66::s67::s68::s69::s70::s71::s72::s73::s74::s75::s76::s77::s78::s79::s80::s81::s82::s83::s84::s85::s86::s87::s88::s89::s90::s91::s92::s93::s94::s95::t96::t97::t98::t99::AAN::AAO::AAP::AAQ::AAR::nG:: [])),[]⟩ w')):
 Code.wp prog AAM (Exit.then K (Exit.then K1 (bodyPost prog f53 P))) ⟨(List.toArray (s0::s1::(.pointer (some ⟨rb,0,none⟩))::s3::s4::(.pointer (some ⟨g,0,none⟩))::s6::s7::s8::s9::s10::s11::s12::s13::s14::s15::s16::s17::s18::s19::s20::s21::s22::s23::s24::s25::s26::s27::s28::s29::s30::s31::s32::s33::s34::s35::s36::s37::s38::s39::s40::s41::s42::s43::s44::s45::s46::s47::s48::s49::s50::s51::s52::s53::s54::s55::s56::s57::s58::s59::s60::s61::s62::s63::s64::s65::s66::s67::s68::s69::s70::s71::s72::s73::s74::s75::s76::s77::s78::s79::s80::s81::s82::s83::s84::s85::s86::s87::s88::s89::s90::s91::s92::s93::s94::s95::s96::s97::s98::s99::uM::uN::uP::uQ::uR::nG:: [])),[]⟩ w:=by
 conv=>arg 2;whnf
 have HR:=AA hr
 have z0:=hr.q 0 rfl
 have z1:=hr.q 1 rfl
 have z2:=hr.q 2 rfl
 have z3:=hr.q 3 rfl
 have z4:=hr.q 4 rfl
 have z5:=hr.q 5 rfl
 have z6:=hr.q 6 rfl
 have z7:=hr.q 7 rfl
 have f0:=hr.frozen 0;have f1:=hr.frozen 1;have f2:=hr.frozen 2;have f3:=hr.frozen 3
 have f4:=hr.frozen 4;have f5:=hr.frozen 5;have f6:=hr.frozen 6;have f7:=hr.frozen 7
 clear hr
 go_region_law (fail)
 all_goals
  go_wp2_with fail
  apply HK.out
  ·exact(dA HR.out).1
  ·exact(dA HR.out).2
noncomputable def vB:Code:=((f20.body.bind (O4 27)).getD .skip)
set_option maxRecDepth 1000000 in
set_option maxHeartbeats 20000000 in
theorem dI {rb g:Nat} {e b:Int} {w:World} (q2:w.cell? ⟨g,2,none⟩=some (.int .i64 e)) (q3:w.cell? ⟨g,3,none⟩=some (.int .i64 b)) (hne:g≠rb) (hr:AQ w rb 35 [.slice none 0 0,.slice none 0 0,.slice none 0 0,.int .i64 0,.int .i8 0,.slice none 0 0,.int .i8 0,.int .i64 0]) (s0 s1 s3 s4 s6 s7 s8 s9 s10 s11 s12 s13 s14 s15 s16 s17 s18 s19 s20 s21 s22 s23 s24 s25 s26 s27 s28 s29 s30 s31 s32 s33 s34 s35 s36 s37 s38 s39 s40 s41 s42 s43 s44 s45 s46 s47 s48 s49 s50 s51 s52 s53 s54 s55 s56 s57 s58 s59 s60 s61 s62 s63 s64 s65 s66 s67 s68 s69 s70 s71 s72 s73 s74 s75 s76 s77 s78 s79 s80 s81 s82 s83 s84 s85 s86 s87 s88 s89 s90 s91 s92 s93 s94 s95 s96 s97 s98 s99 uM uN uP uQ uR nG AFd AFe AFf AFg AFh s111 s112 s113 s114 s115 s116 s117 s118 s119 AFi:Value) (K K1:Act→World→Prop) (P:Ending→World→Prop)
 (HK:Hid (∀(AAj AAk AAl AAm AAn t116 t117 AAo t119:Value) (w':World),Below rb w w'→AQ w' rb 35 [.slice none 0 0,.slice none 0 0,.slice none 0 0,.int .i64 0,.int .i8 0,.slice none 0 0,.int .i8 0,.int .i64 0]→K ⟨(List.toArray (s0::s1::(.pointer (some ⟨rb,0,none⟩))::(.int .i64 e)::(.int .i64 b)::(.pointer (some ⟨g,0,none⟩))::s6::s7::s8::s9::s10::s11::s12::s13::s14::s15::s16::s17::s18::s19::s20::s21::s22::s23::s24::s25::s26::s27::s28::s29::s30::s31::s32::s33::s34::s35::s36::s37::s38::s39::s40::s41::s42::s43::s44::s45::s46::s47::s48::s49::s50::s51::s52::s53::s54::s55::s56::s57::s58::s59::s60::s61::s62::s63::s64::s65::s66::s67::s68::s69::s70::s71::s72::s73::s74::s75::s76::s77::s78::s79::s80::s81::s82::s83::s84::s85::s86::s87::s88::s89::s90::s91::s92::s93::s94::s95::s96::s97::s98::s99::uM::uN::uP::uQ::uR::nG::AFd::AFe::AFf::AFg::AFh::AAj::AAk::AAl::AAm::AAn::t116::t117::AAo::t119::AFi:: [])),[]⟩ w')):
 Code.wp prog vB (Exit.then K (Exit.then K1 (bodyPost prog f20 P))) ⟨(List.toArray (s0::s1::(.pointer (some ⟨rb,0,none⟩))::s3::s4::(.pointer (some ⟨g,0,none⟩))::s6::s7::s8::s9::s10::s11::s12::s13::s14::s15::s16::s17::s18::s19::s20::s21::s22::s23::s24::s25::s26::s27::s28::s29::s30::s31::s32::s33::s34::s35::s36::s37::s38::s39::s40::s41::s42::s43::s44::s45::s46::s47::s48::s49::s50::s51::s52::s53::s54::s55::s56::s57::s58::s59::s60::s61::s62::s63::s64::s65::s66::s67::s68::s69::s70::s71::s72::s73::s74::s75::s76::s77::s78::s79::s80::s81::s82::s83::s84::s85::s86::s87::s88::s89::s90::s91::s92::s93::s94::s95::s96::s97::s98::s99::uM::uN::uP::uQ::uR::nG::AFd::AFe::AFf::AFg::AFh::s111::s112::s113::s114::s115::s116::s117::s118::s119::AFi:: [])),[]⟩ w:=by
 conv=>arg 2;whnf
 have HR:=AA hr
 have z0:=hr.q 0 rfl;have z1:=hr.q 1 rfl;have z2:=hr.q 2 rfl;have z3:=hr.q 3 rfl;have z4:=hr.q 4 rfl;have z5:=hr.q 5 rfl;have z6:=hr.q 6 rfl;have z7:=hr.q 7 rfl
 have f0:=hr.frozen 0;have f1:=hr.frozen 1;have f2:=hr.frozen 2;have f3:=hr.frozen 3
 have f4:=hr.frozen 4;have f5:=hr.frozen 5;have f6:=hr.frozen 6;have f7:=hr.frozen 7
 clear hr
 go_region_law (fail)
 all_goals
  go_wp2_with fail
  apply HK.out
  ·exact(dA HR.out).1
  ·exact(dA HR.out).2
end Go.Proofs.YtlagonfamllgjaaGreatDoor
