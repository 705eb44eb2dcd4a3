/- Part 9 of the proof: ModG Fits ModQ DecI -/
import Derived.Test.YtejbcledkhioeaaGreatDoorQ07
namespace Go.Proofs.YtejbcledkhioeaaGreatDoor
set_option linter.unusedVariables false
set_option linter.unusedSimpArgs false
set_option linter.unusedSectionVars false
set_option maxRecDepth 100000
set_option maxHeartbeats 4000000
open Go.RowKit Tryz
def KT (K:Nat→Prop) (gs:Nat) (v:Value) (k:Nat):Prop:=K k∨k=gs∨v.ownBlock=some k
def Hd (W:World) (base g gs:Nat) (K:Nat→Prop) (first all:Int) (ts:List DI) (l:List UInt8):Prop:=
 ∃T d,tO W base gs first ts T d∧Wr W base g (KT K gs (.slice T ts.length d)) (.pointer (some ⟨gs,0,none⟩)) all l∧base≤gs∧ ¬K gs∧(∀k,(Value.slice T ts.length d).ownBlock=some k→ ¬K k∧k≠gs)
theorem tO.keep {W W':World} {base gs:Nat} {K:Nat→Prop} {first:Int} {ts:List DI} {T:Option Addr} {d:Nat} (h:tO W base gs first ts T d) (hk:Keep (KT K gs (.slice T ts.length d)) W W'):tO W' base gs first ts T d:=
 ⟨h.blk.keep hk (.inr (.inl rfl)),BD h.own hk fun k hb=> .inr (.inr hb),h.ok⟩
section
variable {W W':World} {base g gs:Nat} {K:Nat→Prop} {first all all':Int} {ts:List DI} {l l':List UInt8}
theorem Hd.Ej (h:Hd W base g gs K first all ts l) (hb:Below W.heap.size W W'):Hd W' base g gs K first all ts l:=by
 obtain⟨T,d,h1,h2,h3,h4,h5⟩:=h
 exact⟨T,d,h1.keep (K:=K) (Keep.Aq hb),h2.Ej hb,h3,h4,h5⟩
theorem Hd.ny (h:Hd W base g gs K first all ts l):W.cell? ⟨g,0,none⟩=some (.pointer (some ⟨gs,0,none⟩)):=by
 obtain⟨T,d,h1,⟨A,c,h2⟩,_⟩:=h
 exact h2.blk.cell 0
theorem Hd.lt (h:Hd W base g gs K first all ts l):g<W.heap.size∧gs<W.heap.size:=by
 obtain⟨T,d,h1,⟨A,c,h2⟩,_⟩:=h
 exact⟨h2.blk.lt,h1.blk.lt⟩
theorem Hd.kg (h:Hd W base g gs K first all ts l): ¬K g∧ ¬K gs∧(∀k,K k→k<W.heap.size):=by
 obtain⟨T,d,h1,⟨A,c,h2⟩,_,h4,_⟩:=h
 exact⟨fun e=>h2.kg (.inl e),h4,fun k hk=>h2.lt k (.inl hk)⟩
end
theorem Hd.less {W:World} {base g gs:Nat} {K K':Nat→Prop} {first all:Int} {ts:List DI} {l:List UInt8} (h:Hd W base g gs K' first all ts l) (hk: ∀k,K k→K' k):Hd W base g gs K first all ts l:=by
 obtain⟨T,d,h1,⟨A,c,h2⟩,h3,h4,h5⟩:=h
 have hm: ∀k,KT K gs (.slice T ts.length d) k→KT K' gs (.slice T ts.length d) k:=fun k h=>h.imp (hk k) id
 exact⟨T,d,h1,⟨A,c,h2.blk,h2.own,h2.low,fun e=>h2.kg (hm _ e),fun k hb=>⟨fun e=>(h2.apart k hb).1 (hm _ e),(h2.apart k hb).2⟩,fun k e=>h2.lt k (hm _ e)⟩,h3,fun e=>h4 (hk _ e),fun k hb=>⟨fun e=>(h5 k hb).1 (hk _ e),(h5 k hb).2⟩⟩
theorem Hd.box {w W:World} {base g gs:Nat} {K:Nat→Prop} {first all:Int} {ts:List DI} {l:List UInt8} (h:Hd w base g gs K first all ts l) (hb:Below w.heap.size w W) (hl:w.heap.size<W.heap.size):Hd W base g gs (fun k=>K k∨k=w.heap.size) first all ts l:=by
 have h0:=h
 obtain⟨T,d,h1,⟨A,c,h2⟩,h3,h4,h5⟩:=h0
 have hg:=h2.blk.lt
 have hgs:=h1.blk.lt
 have h1':=h1.keep (K:=K) (Keep.Aq hb)
 have h2':=h2.Ej hb
 refine⟨T,d,h1',⟨A,c,h2'.blk,h2'.own,h2'.low,?_,?_,?_⟩,h3,?_,?_⟩
 ·rintro((e | e) | e | e)
  ·exact h2.kg (.inl e)
  ·omega
  ·exact h2.kg (.inr (.inl e))
  ·exact h2.kg (.inr (.inr e))
 ·intro k hk
  refine⟨?_,(h2.apart k hk).2⟩
  have:=(h2.own.lt k hk).2
  rintro((e | e) | e | e)
  ·exact(h2.apart k hk).1 (.inl e)
  ·omega
  ·exact(h2.apart k hk).1 (.inr (.inl e))
  ·exact(h2.apart k hk).1 (.inr (.inr e))
 ·rintro k ((e | e) | e | e)
  ·have:=h2.lt k (.inl e);omega
  ·omega
  ·have:=h2.lt k (.inr (.inl e));omega
  ·have:=h2.lt k (.inr (.inr e));omega
 ·rintro(e | e)
  ·exact h4 e
  ·omega
 ·intro k hk
  have:=(h1.own.lt k hk).2
  exact⟨fun e=>e.elim (h5 k hk).1 (fun e=>by omega),(h5 k hk).2⟩
theorem Hd.of {w w':World} {base g gs:Nat} {K:Nat→Prop} {first all':Int} {ts:List DI} {l':List UInt8} {T:Option Addr} {d:Nat} (h1:tO w base gs first ts T d) (h3:base≤gs) (h4: ¬K gs) (h5: ∀k,(Value.slice T ts.length d).ownBlock=some k→ ¬K k∧k≠gs)
 (hk:Keep (KT K gs (.slice T ts.length d)) w w') (hw:Wr w' base g (KT K gs (.slice T ts.length d)) (.pointer (some ⟨gs,0,none⟩)) all' l'):Keep K w w'∧Hd w' base g gs K first all' ts l':=
 ⟨hk.mono fun k hk=> .inl hk,T,d,h1.keep hk,hw,h3,h4,h5⟩
section
variable {base g gs:Nat} {K:Nat→Prop} {first:Int} {ts:List DI} {l:List UInt8} {w:World}
theorem PV (n:Nat) (hn:n<9223372036854775808) {all:Int} (h:Hd w base g gs K first all ts l) (hl:l.length≤1099511627776) (hbase:base≤w.heap.size):
 Calls prog 119 #[.pointer (some ⟨g,0,none⟩),.int .i64 n] w fun e w'=>e= .returned (.tuple #[])∧Keep K w w'∧Hd w' base g gs K first all ts (l++enc n):=by
 obtain⟨T,d,h1,h2,h3,h4,h5⟩:=h
 exact(SL n hn base g _ _ all l w h2 hl hbase).mono fun e w' ⟨he,hk,hw⟩=>⟨he,Hd.of h1 h3 h4 h5 hk hw⟩
theorem Q6 (s:ByteArray) (h47:s.size≤70368744177664) {all:Int} (h:Hd w base g gs K first all ts l) (hl:l.length≤1099511627776) (hbase:base≤w.heap.size):
 Calls prog 115 #[.pointer (some ⟨g,0,none⟩),.string s] w fun e w'=>e= .returned (.tuple #[])∧Keep K w w'∧Hd w' base g gs K first all ts (l++EX s):=by
 obtain⟨T,d,h1,h2,h3,h4,h5⟩:=h
 exact(tN s h47 base g _ _ all l w h2 hl hbase).mono fun e w' ⟨he,hk,hw⟩=>⟨he,Hd.of h1 h3 h4 h5 hk hw⟩
theorem Oo.of {w w':World} {err:Int} {e:Ending} {K1 K:Nat→Prop} {P Q:Prop} (hk:Keep K1 w w') (hm: ∀k,K k→K1 k) (h:Oo err e P) (hp:P→Q):Keep K w w'∧Oo err e Q:=
 ⟨hk.mono hm,h.imp (fun h=>⟨h.1,h.2.1,hp h.2.2⟩) id⟩
theorem NI (n most:Nat) (hn:n<9223372036854775808) {all:Int} (h:Hd w base g gs K first all ts l) (hl:l.length≤1099511627776) (hbase:base≤w.heap.size):
 Calls prog 113 #[.pointer (some ⟨g,0,none⟩),.int .i64 n,.int .i64 most] w fun e w'=>Keep K w w'∧Oo (Ae (decide (n≤most)) 20) e (Hd w' base g gs K first all ts (l++enc n)):=by
 obtain⟨T,d,h1,h2,h3,h4,h5⟩:=h
 exact(nX n most hn base g _ _ all l w h2 hl hbase).mono fun e w' ⟨hk,hw⟩=>hw.of hk (fun k hk=> .inl hk) fun hp=>(Hd.of h1 h3 h4 h5 hk hp).2
theorem VB (n:Int) (below:Nat) (hn:n<9223372036854775808) {all:Int} (h:Hd w base g gs K first all ts l) (hl:l.length≤1099511627776) (hbase:base≤w.heap.size):
 Calls prog 116 #[.pointer (some ⟨g,0,none⟩),.int .i64 n,.int .i64 below] w fun e w'=>Keep K w w'∧Oo (Ae (decide (0≤n∧n<below)) 30) e (Hd w' base g gs K first all ts (l++enc n.toNat)):=by
 obtain⟨T,d,h1,h2,h3,h4,h5⟩:=h
 exact(nY n below hn base g _ _ all l w h2 hl hbase).mono fun e w' ⟨hk,hw⟩=>hw.of hk (fun k hk=> .inl hk) fun hp=>(Hd.of h1 h3 h4 h5 hk hp).2
theorem tV (n:Nat) (hn:n≤2147483647) {all:Nat} (ha:all≤2147483647) (h:Hd w base g gs K first all ts l):
 Calls prog 121 #[.pointer (some ⟨g,0,none⟩),.int .i64 n,.int .i64 0] w fun e w'=>Keep K w w'∧Oo (II (Ae (decide (n≤2048)) 20) (Ae (decide (all+n≤16384)) 20)) e (Hd w' base g gs K first ((all+n:Nat):Int) ts l):=by
 obtain⟨T,d,h1,h2,h3,h4,h5⟩:=h
 exact(tT n hn base g _ _ all ha l w h2).mono fun e w' ⟨hk,hw⟩=>hw.of hk (fun k hk=> .inl hk) fun hp=>(Hd.of h1 h3 h4 h5 hk hp).2
theorem n_ (n:Nat) (x:DI) {all:Int} (h:Hd w base g gs K first all ts l) (hn:ts.length=n+1) (hx:ts[n]?=some x) (h47:n≤1000000):
 Calls prog 102 #[.pointer (some ⟨g,0,none⟩),.int .i64 0] w fun e w'=>Below w.heap.size w w'∧Ends (Ae (!(ts.take n).any (fun y=>Lg y x)) 16) 0 e:=by
 have hc:=h.ny
 obtain⟨T,d,h1,h2,h3,h4,h5⟩:=h
 exact ng base g gs first ts T d n x w hc h1 hn hx h47
theorem tX (t:Nat) (x:DI) {all:Int} (h:Hd w base g gs K first all ts l) (hx:ts[t]?=some x) (hp:x.p.size≤1000000):
 Calls prog 120 #[.pointer (some ⟨g,0,none⟩),.int .i64 t] w fun e w'=>w'=w∧e= .returned (.int .i64 (64-x.p.size)):=by
 have hc:=h.ny
 obtain⟨T,d,h1,h2,h3,h4,h5⟩:=h
 exact tQ base g gs first ts T d t x w hc h1 hx hp
theorem jR (x:Int) (A:Option Addr) (k c lo hi:Nat) (q:List EU) {all:Int} (h:Hd w base g gs K first all ts l)
 (hr:(JC.sl false).R w lo hi [.slice A k c] q) (hf0:0≤first) (hf1:first≤64) (hx: -9223372036854775808≤x∧x<9223372036854775808) (hok: ∀y∈q,0≤y.at_∧y.at_≤262144∧y.b.length≤262144) (hk:k≤1000000):
 Calls prog 110 #[.pointer (some ⟨g,0,none⟩),.int .i64 x,.slice A k c,.int .i64 0] w fun e w'=>Below w.heap.size w w'∧
  Ends (II (Ae (decide (0≤x∧x≤first*4096)) 17) (if k=0 then 0 else match q[k-1]? with | none=>0 | some y=>Ae (decide (y.at_+y.b.length<x)) 18)) 0 e:=by
 have hc:=h.ny
 obtain⟨T,d,h1,h2,h3,h4,h5⟩:=h
 exact jP base g gs first x ts T d A k c lo hi q w hc h1 hr hf0 hf1 hx hok hk
theorem Hd.type {all:Int} {W:World} {T:Option Addr} {d:Nat} {x:DI} (h1:tO w base gs first ts T d) (h2:Wr w base g (KT K gs (.slice T ts.length d)) (.pointer (some ⟨gs,0,none⟩)) all l) (h3:base≤gs) (h4: ¬K gs) (h5: ∀k,(Value.slice T ts.length d).ownBlock=some k→ ¬K k∧k≠gs)
 (hx:Rd.Yb x.p∧Rd.Yb x.r) {T':Option Addr} {d':Nat} (hg:w.grownBy W (Value.slice T ts.length d).ownBlock) (ho:W.ownsRow base 51 2 (.slice T' (ts.length+1) d') (ts.length+1) (ts.flatMap Qj++Qj x))
 (hb:(Value.slice T' (ts.length+1) d').ownBlock=(Value.slice T ts.length d).ownBlock∨(Value.slice T' (ts.length+1) d').ownBlock=some w.heap.size):
 Keep K w (W.setCell ⟨gs,0,none⟩ (.slice T' (ts.length+1) d'))∧Hd (W.setCell ⟨gs,0,none⟩ (.slice T' (ts.length+1) d')) base g gs K first all (ts++ [x]) l:=by
 obtain⟨A,c,h2⟩:=h2
 have hgs:=h1.blk.lt
 have hgl:=h2.blk.lt
 have hnew: ∀k,(Value.slice T' (ts.length+1) d').ownBlock=some k→ ¬K k∧k≠gs∧k≠g∧(Value.slice A l.length c).ownBlock≠some k:=fun k hk=>by
  rcases hb with e | e
  ·rw [e] at hk
   refine⟨(h5 k hk).1,(h5 k hk).2,fun e'=>h2.kg (e'▸ .inr (.inr hk)),fun e'=>(h2.apart k e').1 (.inr (.inr hk))⟩
  ·rw [e] at hk;injection hk with hk;subst hk
   refine⟨fun hK=>by have:=h2.lt _ (.inl hK);omega,by omega,by omega,fun e'=> ?_⟩
   have:=h2.own.lt _ e'
   omega
 have hlen:(ts++ [x]).length=ts.length+1:=by simp
 have hk:Keep K w (W.setCell ⟨gs,0,none⟩ (.slice T' (ts.length+1) d')):=((Keep.refl K w).grown hg (fun k hk=>(h5 k hk).1)).setCell h4 _
 have hka: ∀v,Keep (fun k=>k=g∨(Value.slice A l.length c).ownBlock=some k) w (W.setCell ⟨gs,0,none⟩ v):=fun v=>
  ((Keep.refl _ w).grown hg (fun k hk e=>by
    rcases e with e | e
    ·subst e;exact h2.kg (.inr (.inr hk))
    ·exact(h2.apart k e).1 (.inr (.inr hk)))).setCell (fun e=>by
    rcases e with e | e
    ·exact h2.kg (.inr (.inl e.symm))
    ·exact(h2.apart gs e).1 (.inr (.inl rfl))) _
 refine⟨hk,T',d',⟨?_,?_,fun y hy=> ?_⟩,⟨A,c,⟨?_,?_,h2.low,?_,?_,?_⟩⟩,h3,h4,?_⟩
 ·rw [hlen]
  have:AL W gs 29 _:=(hg.block gs hgs (fun e=>(h5 gs e.symm).2 rfl)).trans h1.blk
  exact this.set 0 _
 ·rw [hlen,List.flatMap_append]
  have: [x].flatMap Qj=Qj x:=by simp
  rw [this]
  exact IU ho (fun e=>(hnew gs e).2.1 rfl) _
 ·rcases List.mem_append.1 hy with hy | hy
  ·exact h1.ok y hy
  ·rw [List.mem_singleton] at hy;subst hy;exact hx
 ·exact h2.blk.keep (hka _) (.inl rfl)
 ·exact h2.own.GX (hka _) fun k hk=> .inr hk
 ·rw [hlen]
  rintro(e | e | e)
  ·exact h2.kg (.inl e)
  ·exact h2.kg (.inr (.inl e))
  ·exact(hnew g e).2.2.1 rfl
 ·intro k hk
  refine⟨?_,(h2.apart k hk).2⟩
  rw [hlen]
  rintro(e | e | e)
  ·exact(h2.apart k hk).1 (.inl e)
  ·exact(h2.apart k hk).1 (.inr (.inl e))
  ·exact(hnew k e).2.2.2 hk
 ·intro k hk
  rw [hlen] at hk
  have hsz:=hg.size
  have hs2:(W.setCell ⟨gs,0,none⟩ (.slice T' (ts.length+1) d')).heap.size=W.heap.size:=by simp [World.setCell]
  rw [hs2]
  rcases hk with e | e | e
  ·have:=h2.lt k (.inl e);omega
  ·omega
  ·have:=ho.lt k e;omega
 ·intro k hk
  rw [hlen] at hk
  exact⟨(hnew k hk).1,(hnew k hk).2.1⟩
end
theorem EH {α:Type} (f:α→Nat): ∀(l:List α) (x:α),x∈l→f x≤A_ f l
 | y::l,x,h=>by
  have hs:A_ f (y::l)=f y+A_ f l:=by simp [A_]
  rcases List.mem_cons.1 h with rfl | h
  ·omega
  ·have:=EH f l x h
   omega
theorem g_ {l:List DL} (h:Ng l≤2147483647):l.length≤2147483647∧ ∀i∈l,WK i:=
 ⟨by unfold Ng at h;omega,fun i hi=>by have:=EH (fun i:DL=>i.l.length) l i hi;unfold Ng at h;unfold WK;omega⟩
theorem lS {x:AP} (h:Ap x≤2147483647):vY x:=by
 unfold Ap at h
 refine⟨by omega,by omega,by omega,⟨by omega,fun i hi=>g_ ?_⟩,⟨by omega,fun i hi=> ?_⟩,by omega⟩
 ·have:=EH J2 x.fns i hi
  unfold J2 at this
  unfold J2 at h
  omega
 ·have:=EH (fun d:EU=>d.b.length) x.dat i hi
  unfold Yu
  omega
theorem XK {α:Type} {f:α→List UInt8} {h:α→Nat} {c:Nat}: ∀ {l:List α},(∀x∈l,(f x).length≤c+h x)→(l.flatMap f).length≤c*l.length+A_ h l
 | [],_=>by simp
 | x::l,hx=>by
  have h1:=hx x (List.mem_cons_self ..)
  have h2:=XK (fun y hy=>hx y (List.mem_cons_of_mem _ hy)) (l:=l)
  have h3:A_ h (x::l)=h x+A_ h l:=by simp [A_]
  rw [List.flatMap_cons,List.length_append,List.length_cons,h3,Nat.mul_add,Nat.mul_one]
  omega
theorem I6 {α:Type} {f:α→List UInt8} {h:α→Nat} {c:Nat} {l:List α} (hx: ∀x∈l,(f x).length≤c+h x) (k:Nat):((l.take k).flatMap f).length≤c*l.length+A_ h l:=by
 have h1:=XK (l:=l.take k) (fun x hm=>hx x (List.mem_of_mem_take hm))
 have h2:=QM h l k
 have h3:c*(l.take k).length≤c*l.length:=Nat.mul_le_mul_left _ (by rw [List.length_take];omega)
 omega
theorem Uj {α:Type} (l:List α):A_ (fun _:α=>0) l=0:=by unfold A_;induction l with | nil=>rfl | cons a l ih=>simpa using ih
theorem Ja {s:ByteArray} (h:s.size≤2147483647):(EX s).length≤10+s.size:=by
 unfold EX
 rw [List.length_append]
 have:=BA s.size (by omega)
 have h2:s.data.toList.length=s.size:=by simp
 omega
structure Kc (m:AP):Prop where
 hosts: ∀t∈m.hosts,t<9223372036854775808
 globs: ∀x∈m.globs,x.v<18446744073709551616
 first:m.first<9223372036854775808
 most:m.most<9223372036854775808
 fns: ∀f∈m.fns,f.t<9223372036854775808∧ ∀x∈f.code,Rd.ER x.a∧ ∀n∈x.l,n<9223372036854775808
 dat: ∀d∈m.dat,d.at_<9223372036854775808
 AU: ∀x∈m.AU,x.f<9223372036854775808
theorem LW {t:Int} (h:t<9223372036854775808):(enc t.toNat).length≤10:=BA _ (by omega)
theorem Oh {x:EJ} (h:x.v<18446744073709551616) (hf:Je x.v x.l.toNat=true): -9223372036854775808≤BK x∧BK x<9223372036854775808:=by
 unfold BK
 split
 ·rename_i h1
  unfold Je at hf
  rw [h1.1] at hf
  simp at hf
  omega
 ·split<;>omega
theorem iA {x:EJ} (h:x.v<18446744073709551616) (hf:Je x.v x.l.toNat=true):(Jj x).length≤12:=by
 unfold Jj
 rw [List.length_append]
 have:=BA (folded (BK x)) (M4 _ (Oh h hf).1 (Oh h hf).2)
 simp
 omega
theorem lT {x:DL} (h:Rd.ER x.a∧ ∀n∈x.l,n<9223372036854775808) (hl:x.l.length≤2147483647):(Iw x).length≤11+10*x.l.length:=by
 unfold Iw
 cases hr:DU x.op.toNat with
 | none=>simp
 | some r=>
  simp only [List.length_cons]
  have h1:=BA (folded x.a) (M4 _ h.1.1 h.1.2)
  have h2:=BA x.l.length (by omega)
  have h3:=Ub (f:=fun n:Int=>enc n.toNat) (c:=10) (l:=x.l) (fun n hn=>LW (h.2 n hn))
  have h4:=LW h.1.2
  split
  ·simp;omega
  split
  ·omega
  split
  ·rw [List.length_append];omega
  ·omega
section
variable {m:AP} (hn:Kc m) (hs:Ap m≤2147483647)
include hn hs
theorem R_ (n k:Nat) (h:n≤2147483647):(enc n++(m.types.take k).flatMap R3).length≤10+42*Ap m:=by
 rw [List.length_append]
 have h1:=BA n (by omega)
 have h2:=I6 (f:=R3) (h:=fun t:DI=>t.p.size+t.r.size) (c:=20) (l:=m.types) (fun x hx=>by
  have:=EH (fun t:DI=>t.p.size+t.r.size) m.types x hx
  unfold Ap at hs
  unfold R3
  rw [List.length_append]
  have:=Ja (s:=x.p) (by omega)
  have:=Ja (s:=x.r) (by omega)
  omega) k
 unfold Ap at*
 omega
theorem SA (n k:Nat) (h:n≤2147483647):(enc n++(m.hosts.take k).flatMap (fun t=>enc t.toNat)).length≤10+42*Ap m:=by
 rw [List.length_append]
 have h1:=BA n (by omega)
 have h2:=I6 (f:=fun t:Int=>enc t.toNat) (h:=fun _=>0) (c:=10) (l:=m.hosts) (fun x hx=>LW (hn.hosts x hx)) k
 rw [Uj] at h2
 unfold Ap at*
 omega
theorem SB (n k:Nat) (h:n≤2147483647) (hf: ∀j x,j<k→m.globs[j]?=some x→Je x.v x.l.toNat=true):(enc n++(m.globs.take k).flatMap Jj).length≤10+42*Ap m:=by
 rw [List.length_append]
 have h1:=BA n (by omega)
 have h2:=XK (f:=Jj) (h:=fun _=>0) (c:=12) (l:=m.globs.take k) (fun x hx=>by
  obtain⟨j,hj⟩:=List.getElem?_of_mem hx
  rw [List.getElem?_take] at hj
  split at hj
  ·rename_i hlt;exact iA (hn.globs x (List.mem_of_getElem? hj)) (hf j x hlt hj)
  ·cases hj)
 rw [Uj,List.length_take] at h2
 unfold Ap at*
 omega
theorem dU {f:GR} (hf:f∈m.fns) (j:Nat):(enc f.t.toNat++EX f.loc++enc f.code.length++(f.code.take j).flatMap Iw).length≤30+11*J2 f:=by
 have hsz:=EH J2 m.fns f hf
 have h0:=hn.fns f hf
 have h1:=LW h0.1
 unfold Ap at hs
 unfold J2 Ng at hsz⊢
 unfold J2 Ng at hs
 have h2:=Ja (s:=f.loc) (by omega)
 have h3:=BA f.code.length (by omega)
 have h4:=I6 (f:=Iw) (h:=fun x:DL=>10*x.l.length) (c:=11) (l:=f.code) (fun x hx=>by
  have:=EH (fun i:DL=>i.l.length) f.code x hx
  exact lT (h0.2 x hx) (by omega)) j
 have h5:A_ (fun x:DL=>10*x.l.length) f.code=10*A_ (fun x:DL=>x.l.length) f.code:=by
  unfold A_
  induction f.code with
  | nil=>rfl
  | cons a l ih=>simp only [List.map_cons,List.sum_cons,Nat.mul_add,ih]
 rw [h5] at h4
 simp only [List.length_append]
 omega
theorem dV (n k:Nat) (h:n≤2147483647):(enc n++(m.fns.take k).flatMap XF).length≤10+42*Ap m:=by
 rw [List.length_append]
 have h1:=BA n (by omega)
 have h2:=I6 (f:=XF) (h:=fun f=>11*J2 f) (c:=30) (l:=m.fns) (fun f hf=>by
  have:=dU hn hs hf f.code.length
  rw [List.take_length] at this
  exact this) k
 have h5:A_ (fun f:GR=>11*J2 f) m.fns=11*A_ J2 m.fns:=by
  unfold A_
  induction m.fns with
  | nil=>rfl
  | cons a l ih=>simp only [List.map_cons,List.sum_cons,Nat.mul_add,ih]
 unfold Ap at*
 omega
theorem lU {d:EU} (hd:d∈m.dat):(M5 d).length≤20+d.b.length:=by
 have:=EH (fun d:EU=>d.b.length) m.dat d hd
 unfold M5
 simp only [List.length_append]
 have h1:=LW (hn.dat d hd)
 unfold Ap at hs
 have h2:=BA d.b.length (by omega)
 omega
theorem dW (n k:Nat) (h:n≤2147483647):(enc n++(m.dat.take k).flatMap M5).length≤10+42*Ap m:=by
 rw [List.length_append]
 have h1:=BA n (by omega)
 have h2:=I6 (f:=M5) (h:=fun d:EU=>d.b.length) (c:=20) (l:=m.dat) (fun d hd=>lU hn hs hd) k
 unfold Ap at*
 omega
theorem lV {x:Jy} (hx:x∈m.AU):(Pp x).length≤20+x.n.size:=by
 have:=EH (fun x:Jy=>x.n.size) m.AU x hx
 unfold Pp
 simp only [List.length_append]
 have h1:=LW (hn.AU x hx)
 unfold Ap at hs
 have h2:=Ja (s:=x.n) (by omega)
 omega
theorem lX (n k:Nat) (h:n≤2147483647):(enc n++(m.AU.take k).flatMap Pp).length≤10+42*Ap m:=by
 rw [List.length_append]
 have h1:=BA n (by omega)
 have h2:=I6 (f:=Pp) (h:=fun x:Jy=>x.n.size) (c:=20) (l:=m.AU) (fun d hd=>lV hn hs hd) k
 unfold Ap at*
 omega
theorem iB (hf: ∀j x,j<m.globs.length→m.globs[j]?=some x→Je x.v x.l.toNat=true):(Li m).length≤50+126*Ap m:=by
 have h1:=R_ hn hs m.types.length m.types.length (by unfold Ap at hs;omega)
 have h2:=SA hn hs m.hosts.length m.hosts.length (by unfold Ap at hs;omega)
 have h3:=SB hn hs m.globs.length m.globs.length (by unfold Ap at hs;omega) hf
 rw [List.take_length] at h1 h2 h3
 have h4:=LW hn.first
 have h5:=LW hn.most
 unfold Li Ob Oc Od
 simp only [List.length_append] at*
 omega
end
theorem PN {m:AP} {k:Nat} (h:Ad k (KI m)=0): ∀j x,j<k→m.globs[j]?=some x→Qg x.l.toNat=true∧Je x.v x.l.toNat=true:=by
 intro j x hj hx
 have h1:=Ca h j hj
 unfold KI at h1
 rw [hx] at h1
 have h2:=AQ h1
 constructor
 ·have:=h2.1;unfold Ae at this;split at this
  ·assumption
  ·cases this
 ·have:=h2.2;unfold Ae at this;split at this
  ·assumption
  ·cases this
theorem Ws {α:Type} (E:List α→Nat→Int) (l:List α) (x:α) (hE: ∀j,j<l.length→E (l++ [x]) j=E l j) (h:Ad l.length (E l)=0) (hx:E (l++ [x]) l.length=0):Ad (l++ [x]).length (E (l++ [x]))=0:=by
 rw [List.length_append]
 show II (Ad l.length _) _=0
 rw [Qk _ hE,h,AZ rfl]
 exact hx
theorem JJ {α:Type} {l:List α} {x:α} {j:Nat} (h:j<l.length):(l++ [x])[j]?=l[j]?:=List.getElem?_append_left h
theorem L6 {α:Type} {l:List α} {x:α}:(l++ [x])[l.length]?=some x:=by rw [List.getElem?_append_right (Nat.le_refl _),Nat.sub_self];rfl
theorem Pj {α:Type} {l:List α} {x:α} {j:Nat} (h:j≤l.length):(l++ [x]).take j=l.take j:=List.take_append_of_le_length h
theorem DK {α:Type} (f:α→List UInt8) (l:List α) (x:α):(l++ [x]).flatMap f=l.flatMap f++f x:=by rw [List.flatMap_append];simp
theorem bq {l:List DI} {x:DI} (h:Ad l.length (YO l)=0) (h1:Bq x.p 8=0) (h2:Bq x.r 8=0) (h3:Ae (!l.any (fun y=>Lg y x)) 16=0):Ad (l++ [x]).length (YO (l++ [x]))=0:=by
 refine Ws YO l x (fun j hj=> ?_) h ?_
 ·unfold YO
  rw [JJ hj,Pj (Nat.le_of_lt hj)]
 ·unfold YO
  rw [L6,Pj (Nat.le_refl _),List.take_length]
  dsimp only
  rw [h1,AZ rfl,h2,AZ rfl,h3]
theorem Qb {m:AP} {t:Int} (h:Ad m.hosts.length (Ji m)=0) (h1:0≤t∧t<m.types.length):Ad (m.hosts++ [t]).length (Ji {m with hosts:=m.hosts++ [t]})=0:=by
 refine Ws (fun l=>Ji {m with hosts:=l}) m.hosts t (fun j hj=> ?_) h ?_
 ·unfold Ji
  dsimp only
  rw [JJ hj]
 ·unfold Ji
  dsimp only
  rw [L6]
  exact EL (decide_eq_true h1)
theorem Ve {m:AP} {x:EJ} (h:Ad m.globs.length (KI m)=0) (h1:Qg x.l.toNat=true) (h2:Je x.v x.l.toNat=true):Ad (m.globs++ [x]).length (KI {m with globs:=m.globs++ [x]})=0:=by
 refine Ws (fun l=>KI {m with globs:=l}) m.globs x (fun j hj=> ?_) h ?_
 ·unfold KI
  dsimp only
  rw [JJ hj]
 ·unfold KI
  dsimp only
  rw [L6]
  dsimp only
  rw [EL h1,AZ rfl,EL h2]
theorem Vf {α:Type} (f:α→Nat) (l:List α) (x:α):A_ f (l++ [x])=A_ f l+f x:=by unfold A_;simp
theorem b_ {n:Nat} {f:Nat→Int} (h: ∀j,j<n→f j=0):Ad n f=0:=by
 induction n with
 | zero=>rfl
 | succ n ih=>show II _ _=0;rw [ih (fun j hj=>h j (by omega)),AZ rfl];exact h n (Nat.lt_succ_self _)
theorem qD {m:AP} {f:GR} (h:Ad m.fns.length (Ye m)=0) (h1:0≤f.t∧f.t<m.types.length) (h2:Bq f.loc (64-J3 m f.t)=0) (h3:f.code.length≤2048) (h4:A_ (fun f:GR=>f.code.length) m.fns+f.code.length≤16384) (h5: ∀x∈f.code,Ai x=0):Ad (m.fns++ [f]).length (Ye {m with fns:=m.fns++ [f]})=0:=by
 refine Ws (fun l=>Ye {m with fns:=l}) m.fns f (fun j hj=> ?_) h ?_
 ·unfold Ye
  dsimp only
  rw [JJ hj]
  unfold LB
  dsimp only
  rw [Pj (Nat.succ_le_of_lt hj)]
  rfl
 ·unfold Ye
  dsimp only
  rw [L6]
  dsimp only
  have hp:J3 {m with fns:=m.fns++ [f]} f.t=J3 m f.t:=rfl
  have ha:LB {m with fns:=m.fns++ [f]} (m.fns.length+1)=A_ (fun f:GR=>f.code.length) m.fns+f.code.length:=by
   unfold LB
   dsimp only
   rw [List.take_of_length_le (by rw [List.length_append];exact Nat.le_refl _),Vf]
  rw [EL (decide_eq_true h1),AZ rfl,hp,h2,AZ rfl,EL (decide_eq_true h3),AZ rfl,ha,EL (decide_eq_true h4),AZ rfl]
  refine b_ fun j hj=> ?_
  unfold S9
  rw [List.getElem?_eq_getElem hj]
  exact h5 _ (List.getElem_mem hj)
theorem qE {m:AP} {d:EU} (h:Ad m.dat.length (Nh m)=0) (h1:0≤d.at_∧d.at_≤m.first*4096) (h2:(if m.dat.length=0 then 0 else match m.dat[m.dat.length-1]? with | none=>0 | some y=>Ae (decide (y.at_+y.b.length<d.at_)) 18)=(0:Int)) (h3:(d.b.length:Int)≤m.first*4096-d.at_) (h4:0<d.b.length):Ad (m.dat++ [d]).length (Nh {m with dat:=m.dat++ [d]})=0:=by
 refine Ws (fun l=>Nh {m with dat:=l}) m.dat d (fun j hj=> ?_) h ?_
 ·unfold Nh
  dsimp only
  rw [JJ hj]
  by_cases h0:j=0
  ·subst h0;simp only [if_true]
  ·simp only [if_neg h0]
   rw [JJ (show j-1<m.dat.length by omega)]
 ·unfold Nh
  dsimp only
  rw [L6]
  dsimp only
  rw [EL (decide_eq_true h1),AZ rfl,EL (decide_eq_true h3),EL (decide_eq_true h4),AZ rfl]
  by_cases h0:m.dat.length=0
  ·rw [if_pos h0,AZ rfl]
  ·rw [if_neg h0] at h2⊢
   rw [JJ (show m.dat.length-1<m.dat.length by omega)]
   cases hx:m.dat[m.dat.length-1]? with
   | none=>dsimp only;rw [AZ rfl]
   | some y=>
    rw [hx] at h2
    dsimp only at h2⊢
    rw [h2,AZ rfl]
theorem Si {m:AP} {x:Jy} (h:Ad m.AU.length (Po m)=0) (h1:Ql x.n=0) (h2:Ni m.AU m.AU.length x.n=0) (h3:0≤x.f∧x.f<m.fns.length):Ad (m.AU++ [x]).length (Po {m with AU:=m.AU++ [x]})=0:=by
 refine Ws (fun l=>Po {m with AU:=l}) m.AU x (fun j hj=> ?_) h ?_
 ·unfold Po
  dsimp only
  rw [JJ hj]
  cases hx:m.AU[j]? with
  | none=>rfl
  | some y=>
   dsimp only
   unfold Ni
   by_cases h0:j=0
   ·subst h0;simp only [if_true]
   ·simp only [if_neg h0]
    rw [JJ (show j-1<m.AU.length by omega)]
 ·unfold Po
  dsimp only
  rw [L6]
  dsimp only
  have ho:Ni (m.AU++ [x]) m.AU.length x.n=Ni m.AU m.AU.length x.n:=by
   unfold Ni
   by_cases h0:m.AU.length=0
   ·simp only [if_pos h0]
   ·simp only [if_neg h0]
    rw [JJ (show m.AU.length-1<m.AU.length by omega)]
  rw [h1,AZ rfl,ho,h2,AZ rfl,EL (decide_eq_true h3)]
theorem j_ {l:UInt8} {c:UInt8} {v:Int} (h63: -9223372036854775808≤v∧v<9223372036854775808) (hc:c.toNat≤1) (hl:Qg l.toNat=true) (hw:l.toNat=119→ -2147483648≤v∧v<2147483648):
 let x:EJ:=⟨l,c.toNat==1,(if l.toNat=119 then v%4294967296 else v%18446744073709551616).toNat⟩
 Je x.v x.l.toNat=true∧x.v<18446744073709551616∧Jj x= [l]++ [c]++enc (folded v):=by
 dsimp only
 have hcc:(if(c.toNat==1)=true then(1:UInt8) else 0)=c:=by
  have:c.toNat=0∨c.toNat=1:=by omega
  rcases this with h | h
  ·rw [h];exact UInt8.toNat_inj.1 (by rw [h];rfl)
  ·rw [h];exact UInt8.toNat_inj.1 (by rw [h];rfl)
 unfold Jj BK
 dsimp only
 by_cases h:l.toNat=119
 ·have:=hw h
  simp only [if_pos h]
  refine⟨?_,by omega,?_⟩
  ·unfold Je
   rw [h,decide_eq_true (show(v%4294967296).toNat<4294967296 by omega)]
   rfl
  ·rw [hcc]
   have e:(if l.toNat=119∧2147483648≤(v%4294967296).toNat then((v%4294967296).toNat:Int)-4294967296 else if(v%4294967296).toNat<9223372036854775808 then((v%4294967296).toNat:Int) else((v%4294967296).toNat:Int)-18446744073709551616)=v:=by
    by_cases h2:2147483648≤(v%4294967296).toNat
    ·rw [if_pos ⟨h,h2⟩];omega
    ·rw [if_neg (fun e=>h2 e.2),if_pos (by omega)];omega
   rw [e]
   rfl
 ·have hl2:l.toNat=108:=by
   unfold Qg at hl
   simp at hl
   omega
  simp only [if_neg h]
  refine⟨?_,by omega,?_⟩
  ·unfold Je
   rw [hl2]
   rfl
  ·rw [hcc]
   have e:(if l.toNat=119∧2147483648≤(v%18446744073709551616).toNat then((v%18446744073709551616).toNat:Int)-4294967296 else if(v%18446744073709551616).toNat<9223372036854775808 then((v%18446744073709551616).toNat:Int) else((v%18446744073709551616).toNat:Int)-18446744073709551616)=v:=by
    rw [if_neg (fun e=>h e.1)]
    by_cases h2:(v%18446744073709551616).toNat<9223372036854775808
    ·rw [if_pos h2];omega
    ·rw [if_neg h2];omega
   rw [e]
   rfl
theorem kC {m:AP} (h:m.types.length≤64) (h2:Ad m.types.length (YO m.types)=0):KW m=0:=by
 unfold KW;rw [EL (decide_eq_true h),AZ rfl,h2]
theorem kD {m:AP} (h:m.hosts.length≤32) (h2:Ad m.hosts.length (Ji m)=0):KX m=0:=by
 unfold KX;rw [EL (decide_eq_true h),AZ rfl,h2]
theorem kE {m:AP} (h:m.globs.length≤64) (h2:Ad m.globs.length (KI m)=0):Lh m=0:=by
 unfold Lh;rw [EL (decide_eq_true h),AZ rfl,h2]
theorem kF {m:AP} (h:0≤m.first∧m.first≤64∧m.first≤m.most∧m.most≤64):Oa m=0:=EL (decide_eq_true h)
theorem qF {m:AP} (h1:KW m=0) (h2:KX m=0) (h3:Lh m=0) (h4:Oa m=0):JG m=0:=by
 unfold JG;rw [h1,AZ rfl,h2,AZ rfl,h3,AZ rfl,h4]
theorem qG {m:AP} (l1:m.fns.length≤128) (h1:Ad m.fns.length (Ye m)=0) (l2:m.dat.length≤64) (h2:Ad m.dat.length (Nh m)=0) (l3:m.AU.length≤64) (h3:Ad m.AU.length (Po m)=0):I_ m=0:=by
 unfold I_ TS QB Ua
 rw [EL (decide_eq_true l1),AZ rfl,h1,AZ rfl,EL (decide_eq_true l2),AZ rfl,h2,AZ rfl,EL (decide_eq_true l3),AZ rfl,h3]
theorem qH {l:List UInt8} {m:AP} (h5:l.take 5=KY) (he:JG m=0) (hb:I_ m=0) (ha:K_ l 5 (Li m++Oe m) l.length) (hl:l.length≤65536):GU m=0∧LU m=l:=by
 have e:=ha.eq
 rw [List.take_length,h5] at e
 have hm:LU m=l:=e.symm
 refine⟨?_,hm⟩
 unfold GU Rz
 rw [he,AZ rfl,hb,AZ rfl,hm]
 exact EL (decide_eq_true hl)
end Go.Proofs.YtejbcledkhioeaaGreatDoor
