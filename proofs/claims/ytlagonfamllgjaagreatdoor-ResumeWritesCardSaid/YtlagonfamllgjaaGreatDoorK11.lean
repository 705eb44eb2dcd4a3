/- Part 11 of the proof: Fits ModQ -/
import Derived.Test.YtlagonfamllgjaaGreatDoorK07
import Derived.Test.YtlagonfamllgjaaGreatDoorK09
import Derived.Test.YtlagonfamllgjaaGreatDoorK10
namespace Go.Proofs.YtlagonfamllgjaaGreatDoor
set_option linter.unusedVariables false
set_option linter.unusedSimpArgs false
set_option linter.unusedSectionVars false
set_option maxRecDepth 100000
set_option maxHeartbeats 4000000
open Go.RowKit Tryz
theorem C_ {α:Type} (f:α→Nat): ∀(l:List α) (x:α),x∈l→f x≤BG f l
 | y::l,x,h=>by
  have hs:BG f (y::l)=f y+BG f l:=by simp [BG]
  rcases List.mem_cons.1 h with rfl | h
  ·omega
  ·have:=C_ f l x h
   omega
theorem f_ {l:List Ad} (h:LG l≤2147483647):l.length≤2147483647∧ ∀i∈l,O7 i:=
 ⟨by unfold LG at h;omega,fun i hi=>by have:=C_ (fun i:Ad=>i.l.length) l i hi;unfold LG at h;unfold O7;omega⟩
theorem Zp {l:List (List UInt8)} (h:LH l≤2147483647):l.length≤2147483647∧ ∀i∈l,Zh i:=
 ⟨by unfold LH at h;omega,fun i hi=>by have:=C_ (List.length (α:=UInt8)) l i hi;unfold LH at h;unfold Zh;omega⟩
theorem Xv {x:AP} (h:Bg x≤2147483647):SQ x:=by
 unfold Bg at h
 refine⟨by omega,by omega,by omega,⟨by omega,fun i hi=>f_ ?_⟩,⟨by omega,fun i hi=> ?_⟩,by omega⟩
 ·have:=C_ JB x.fns i hi
  unfold JB at this
  unfold JB at h
  omega
 ·have:=C_ (fun d:Gh=>d.b.length) x.dat i hi
  unfold Qn
  omega
theorem bX {x:FH} (h:fA x≤2147483647):fV x:=by
 unfold fA at h
 refine⟨⟨by omega,fun i hi=> ?_⟩,by omega,Zp (by omega),by omega⟩
 have:=C_ (fun f:Jy=>f.loc.length+f.st.length) x.frames i hi
 unfold fU
 omega
theorem V4 {α:Type} {f:α→List UInt8} {h:α→Nat} {c:Nat}: ∀ {l:List α},(∀x∈l,(f x).length≤c+h x)→(l.flatMap f).length≤c*l.length+BG h l
 | [],_=>by simp
 | x::l,hx=>by
  have h1:=hx x (List.mem_cons_self ..)
  have h2:=V4 (fun y hy=>hx y (List.mem_cons_of_mem _ hy)) (l:=l)
  have h3:BG h (x::l)=h x+BG h l:=by simp [BG]
  rw [List.flatMap_cons,List.length_append,List.length_cons,h3,Nat.mul_add,Nat.mul_one]
  omega
theorem Fa {α:Type} {f:α→List UInt8} {h:α→Nat} {c:Nat} {l:List α} (hx: ∀x∈l,(f x).length≤c+h x) (k:Nat):((l.take k).flatMap f).length≤c*l.length+BG h l:=by
 have h1:=V4 (l:=l.take k) (fun x hm=>hx x (List.mem_of_mem_take hm))
 have h2:=LD h l k
 have h3:c*(l.take k).length≤c*l.length:=Nat.mul_le_mul_left _ (by rw [List.length_take];omega)
 omega
theorem SY {α:Type} (l:List α):BG (fun _:α=>0) l=0:=by unfold BG;induction l with | nil=>rfl | cons a l ih=>simpa using ih
theorem Gf {s:ByteArray} (h:s.size≤2147483647):(Fp s).length≤10+s.size:=by
 unfold Fp
 rw [List.length_append]
 have:=AU s.size (by omega)
 have h2:s.data.toList.length=s.size:=by simp
 omega
structure FN (m:AP):Prop where
 hosts: ∀t∈m.hosts,t<9223372036854775808
 globs: ∀x∈m.globs,x.v<18446744073709551616
 first:m.first<9223372036854775808
 most:m.most<9223372036854775808
 fns: ∀f∈m.fns,f.t<9223372036854775808∧ ∀x∈f.code,Rd.G8 x.a∧ ∀n∈x.l,n<9223372036854775808
 dat: ∀d∈m.dat,d.at_<9223372036854775808
 Au: ∀x∈m.Au,x.f<9223372036854775808
theorem JF {t:Int} (h:t<9223372036854775808):(enc t.toNat).length≤10:=AU _ (by omega)
theorem O9 {x:ED} (h:x.v<18446744073709551616) (hf:Dr x.v x.l.toNat=true): -9223372036854775808≤E_ x∧E_ x<9223372036854775808:=by
 unfold E_
 split
 ·rename_i h1
  unfold Dr at hf
  rw [h1.1] at hf
  simp at hf
  omega
 ·split<;>omega
theorem gB {x:ED} (h:x.v<18446744073709551616) (hf:Dr x.v x.l.toNat=true):(F6 x).length≤12:=by
 unfold F6
 rw [List.length_append]
 have:=AU (folded (E_ x)) (IK _ (O9 h hf).1 (O9 h hf).2)
 simp
 omega
theorem lq {x:Ad} (h:Rd.G8 x.a∧ ∀n∈x.l,n<9223372036854775808) (hl:x.l.length≤2147483647):(G_ x).length≤11+10*x.l.length:=by
 unfold G_
 cases hr:Aq x.op.toNat with
 | none=>simp
 | some r=>
  simp only [List.length_cons]
  have h1:=AU (folded x.a) (IK _ h.1.1 h.1.2)
  have h2:=AU x.l.length (by omega)
  have h3:=Oy (f:=fun n:Int=>enc n.toNat) (c:=10) (l:=x.l) (fun n hn=>JF (h.2 n hn))
  have h4:=JF h.1.2
  split
  ·simp;omega
  split
  ·omega
  split
  ·rw [List.length_append];omega
  ·omega
section
variable {m:AP} (hn:FN m) (hs:Bg m≤2147483647)
include hn hs
theorem QD (n k:Nat) (h:n≤2147483647):(enc n++(m.types.take k).flatMap Lx).length≤10+42*Bg m:=by
 rw [List.length_append]
 have h1:=AU n (by omega)
 have h2:=Fa (f:=Lx) (h:=fun t:Cg=>t.p.size+t.r.size) (c:=20) (l:=m.types) (fun x hx=>by
  have:=C_ (fun t:Cg=>t.p.size+t.r.size) m.types x hx
  unfold Bg at hs
  unfold Lx
  rw [List.length_append]
  have:=Gf (s:=x.p) (by omega)
  have:=Gf (s:=x.r) (by omega)
  omega) k
 unfold Bg at*
 omega
theorem QE (n k:Nat) (h:n≤2147483647):(enc n++(m.hosts.take k).flatMap (fun t=>enc t.toNat)).length≤10+42*Bg m:=by
 rw [List.length_append]
 have h1:=AU n (by omega)
 have h2:=Fa (f:=fun t:Int=>enc t.toNat) (h:=fun _=>0) (c:=10) (l:=m.hosts) (fun x hx=>JF (hn.hosts x hx)) k
 rw [SY] at h2
 unfold Bg at*
 omega
theorem QF (n k:Nat) (h:n≤2147483647) (hf: ∀j x,j<k→m.globs[j]?=some x→Dr x.v x.l.toNat=true):(enc n++(m.globs.take k).flatMap F6).length≤10+42*Bg m:=by
 rw [List.length_append]
 have h1:=AU n (by omega)
 have h2:=V4 (f:=F6) (h:=fun _=>0) (c:=12) (l:=m.globs.take k) (fun x hx=>by
  obtain⟨j,hj⟩:=List.getElem?_of_mem hx
  rw [List.getElem?_take] at hj
  split at hj
  ·rename_i hlt;exact gB (hn.globs x (List.mem_of_getElem? hj)) (hf j x hlt hj)
  ·cases hj)
 rw [SY,List.length_take] at h2
 unfold Bg at*
 omega
theorem bY {f:Bv} (hf:f∈m.fns) (j:Nat):(enc f.t.toNat++Fp f.loc++enc f.code.length++(f.code.take j).flatMap G_).length≤30+11*JB f:=by
 have hsz:=C_ JB m.fns f hf
 have h0:=hn.fns f hf
 have h1:=JF h0.1
 unfold Bg at hs
 unfold JB LG at hsz⊢
 unfold JB LG at hs
 have h2:=Gf (s:=f.loc) (by omega)
 have h3:=AU f.code.length (by omega)
 have h4:=Fa (f:=G_) (h:=fun x:Ad=>10*x.l.length) (c:=11) (l:=f.code) (fun x hx=>by
  have:=C_ (fun i:Ad=>i.l.length) f.code x hx
  exact lq (h0.2 x hx) (by omega)) j
 have h5:BG (fun x:Ad=>10*x.l.length) f.code=10*BG (fun x:Ad=>x.l.length) f.code:=by
  unfold BG
  induction f.code with
  | nil=>rfl
  | cons a l ih=>simp only [List.map_cons,List.sum_cons,Nat.mul_add,ih]
 rw [h5] at h4
 simp only [List.length_append]
 omega
theorem V5 (n k:Nat) (h:n≤2147483647):(enc n++(m.fns.take k).flatMap Uv).length≤10+42*Bg m:=by
 rw [List.length_append]
 have h1:=AU n (by omega)
 have h2:=Fa (f:=Uv) (h:=fun f=>11*JB f) (c:=30) (l:=m.fns) (fun f hf=>by
  have:=bY hn hs hf f.code.length
  rw [List.take_length] at this
  exact this) k
 have h5:BG (fun f:Bv=>11*JB f) m.fns=11*BG JB m.fns:=by
  unfold BG
  induction m.fns with
  | nil=>rfl
  | cons a l ih=>simp only [List.map_cons,List.sum_cons,Nat.mul_add,ih]
 unfold Bg at*
 omega
theorem lu {d:Gh} (hd:d∈m.dat):(Jb d).length≤20+d.b.length:=by
 have:=C_ (fun d:Gh=>d.b.length) m.dat d hd
 unfold Jb
 simp only [List.length_append]
 have h1:=JF (hn.dat d hd)
 unfold Bg at hs
 have h2:=AU d.b.length (by omega)
 omega
theorem V6 (n k:Nat) (h:n≤2147483647):(enc n++(m.dat.take k).flatMap Jb).length≤10+42*Bg m:=by
 rw [List.length_append]
 have h1:=AU n (by omega)
 have h2:=Fa (f:=Jb) (h:=fun d:Gh=>d.b.length) (c:=20) (l:=m.dat) (fun d hd=>lu hn hs hd) k
 unfold Bg at*
 omega
theorem l6 {x:KU} (hx:x∈m.Au):(KJ x).length≤20+x.n.size:=by
 have:=C_ (fun x:KU=>x.n.size) m.Au x hx
 unfold KJ
 simp only [List.length_append]
 have h1:=JF (hn.Au x hx)
 unfold Bg at hs
 have h2:=Gf (s:=x.n) (by omega)
 omega
theorem Xw (n k:Nat) (h:n≤2147483647):(enc n++(m.Au.take k).flatMap KJ).length≤10+42*Bg m:=by
 rw [List.length_append]
 have h1:=AU n (by omega)
 have h2:=Fa (f:=KJ) (h:=fun x:KU=>x.n.size) (c:=20) (l:=m.Au) (fun d hd=>l6 hn hs hd) k
 unfold Bg at*
 omega
theorem U4 (hf: ∀j x,j<m.globs.length→m.globs[j]?=some x→Dr x.v x.l.toNat=true):(Nq m).length≤50+126*Bg m:=by
 have h1:=QD hn hs m.types.length m.types.length (by unfold Bg at hs;omega)
 have h2:=QE hn hs m.hosts.length m.hosts.length (by unfold Bg at hs;omega)
 have h3:=QF hn hs m.globs.length m.globs.length (by unfold Bg at hs;omega) hf
 rw [List.take_length] at h1 h2 h3
 have h4:=JF hn.first
 have h5:=JF hn.most
 unfold Nq N8 N9 N_
 simp only [List.length_append] at*
 omega
end
theorem NK {m:AP} {k:Nat} (h:Aa k (IG m)=0): ∀j x,j<k→m.globs[j]?=some x→M9 x.l.toNat=true∧Dr x.v x.l.toNat=true:=by
 intro j x hj hx
 have h1:=BQ h j hj
 unfold IG at h1
 rw [hx] at h1
 have h2:=AV h1
 constructor
 ·have:=h2.1;unfold Ae at this;split at this
  ·assumption
  ·cases this
 ·have:=h2.2;unfold Ae at this;split at this
  ·assumption
  ·cases this
end Go.Proofs.YtlagonfamllgjaaGreatDoor
