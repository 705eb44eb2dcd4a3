/- Part 30 of the proof: RofD Long Fits ModQ InsE InsF R10F -/
import Derived.IntWalk
import Derived.Test.YtlagonfamllgjaaGreatDoorR12
import Derived.Test.YtlagonfamllgjaaGreatDoorR13
import Derived.Test.YtlagonfamllgjaaGreatDoorR16
namespace Go.Proofs.YtlagonfamllgjaaGreatDoor
set_option linter.unusedVariables false
set_option linter.unusedSimpArgs false
set_option linter.unusedSectionVars false
set_option maxRecDepth 100000
set_option maxHeartbeats 4000000
open Go.RowKit Tryz
section
attribute [local irreducible] Au
set_option maxHeartbeats 4000000
theorem qj (w:World): ∀r∈Dk,Calls prog 145 #[.int .u8 (r.op:Nat)] w fun e w'=>Below w.heap.size w w'∧e= .returned (.tuple #[.agg (opC r),.bool true]):=by
 intro r hr
 rw [←List.take_append_drop 30 Dk,←List.take_append_drop 30 (Dk.drop 30),List.drop_drop] at hr
 rcases List.mem_append.1 hr with h | h
 ·exact ACC w r h
 rcases List.mem_append.1 h with h | h
 ·exact ACD w r h
 ·exact ACE w r h
theorem kH: ∀ {n:Nat},Au n=none→ ∀r∈Dk,((n:Int)==(r.op:Int))=false:=by
 intro n h r hr
 have:=List.find?_eq_none.1 (by unfold Au at h;exact h) r hr
 rw [beq_eq_false_iff_ne]
 simp at this
 omega
theorem kI (op:Nat) (w:World) (hn:Au op=none):Calls prog 145 #[.int .u8 op] w fun e w'=>Below w.heap.size w w'∧e= .returned (.tuple #[.agg fK,.bool false]):=by
 have hno:=kH hn
 clear hn
 simp only [Dk,List.forall_mem_cons] at hno
 obtain⟨d0,d1,d2,d3,d4,d5,d6,d7,d8,d9,d10,d11,d12,d13,d14,d15,d16,d17,d18,d19,d20,d21,d22,d23,d24,d25,d26,d27,d28,d29,d30,d31,d32,d33,d34,d35,d36,d37,d38,d39,d40,d41,d42,d43,d44,d45,d46,d47,d48,d49,d50,d51,d52,d53,d54,d55,d56,d57,d58,d59,d60,d61,d62,d63,d64,d65,d66,d67,d68,d69,d70,d71,d72,d73,d74,d75,d76,d77,d78,d79,d80,d81,d82,d83,d84,d85,d86,d87,d88,d89,_⟩:=hno
 go_enter func145,ntmps145
 go_wp2_with fail
 exact bodyPost_ret (Eb rfl rfl rfl (Mf (AQ.new w 217 fK.toList))) rfl ⟨(Below.refl _ _).alloc (Nat.le_refl _) _,rfl⟩
theorem Vw (op:Nat) (w:World) (hop:op<256):Calls prog 145 #[.int .u8 op] w fun e w'=>Below w.heap.size w w'∧e= .returned (EZ op):=by
 cases hr:Au op with
 | none=>
  have ha:EZ op= .tuple #[.agg fK,.bool false]:=by unfold EZ;rw [hr]
  rw [ha]
  exact kI op w hr
 | some r=>
  have ha:EZ op= .tuple #[.agg (opC r),.bool true]:=by unfold EZ;rw [hr]
  obtain⟨hm,rfl⟩:=Iq hr
  rw [ha]
  exact qj w r hm
end

theorem DW {α:Type} (f:α→Nat): ∀(l:List α) (x:α),x∈l→f x≤BM f l
 | y::l,x,h=>by
  have hs:BM f (y::l)=f y+BM f l:=by simp [BM]
  rcases List.mem_cons.1 h with rfl | h
  ·omega
  ·have:=DW f l x h
   omega
theorem eU {l:List Ad} (h:Ki l≤2147483647):l.length≤2147483647∧ ∀i∈l,Uh i:=
 ⟨by unfold Ki at h;omega,fun i hi=>by have:=DW (fun i:Ad=>i.l.length) l i hi;unfold Ki at h;unfold Uh;omega⟩
theorem jw {x:AP} (h:BU x≤2147483647):Ui x:=by
 unfold BU at h
 refine⟨by omega,by omega,by omega,⟨by omega,fun i hi=>eU ?_⟩,⟨by omega,fun i hi=> ?_⟩,by omega⟩
 ·have:=DW Ii x.fns i hi
  unfold Ii at this
  unfold Ii at h
  omega
 ·have:=DW (fun d:Gn=>d.b.length) x.dat i hi
  unfold Xe
  omega
theorem Vm {α:Type} {f:α→List UInt8} {h:α→Nat} {c:Nat}: ∀ {l:List α},(∀x∈l,(f x).length≤c+h x)→(l.flatMap f).length≤c*l.length+BM h l
 | [],_=>by simp
 | x::l,hx=>by
  have h1:=hx x (List.mem_cons_self ..)
  have h2:=Vm (fun y hy=>hx y (List.mem_cons_of_mem _ hy)) (l:=l)
  have h3:BM h (x::l)=h x+BM h l:=by simp [BM]
  rw [List.flatMap_cons,List.length_append,List.length_cons,h3,Nat.mul_add,Nat.mul_one]
  omega
theorem FK {α:Type} {f:α→List UInt8} {h:α→Nat} {c:Nat} {l:List α} (hx: ∀x∈l,(f x).length≤c+h x) (k:Nat):((l.take k).flatMap f).length≤c*l.length+BM h l:=by
 have h1:=Vm (l:=l.take k) (fun x hm=>hx x (List.mem_of_mem_take hm))
 have h2:=NW h l k
 have h3:c*(l.take k).length≤c*l.length:=Nat.mul_le_mul_left _ (by rw [List.length_take];omega)
 omega
theorem Ry {α:Type} (l:List α):BM (fun _:α=>0) l=0:=by unfold BM;induction l with | nil=>rfl | cons a l ih=>simpa using ih
theorem F8 {s:ByteArray} (h:s.size≤2147483647):(FM s).length≤10+s.size:=by
 unfold FM
 rw [List.length_append]
 have:=AY s.size (by omega)
 have h2:s.data.toList.length=s.size:=by simp
 omega
structure Ev (m:AP):Prop where
 hosts: ∀t∈m.hosts,t<9223372036854775808
 globs: ∀x∈m.globs,x.v<18446744073709551616
 first:m.first<9223372036854775808
 most:m.most<9223372036854775808
 fns: ∀f∈m.fns,f.t<9223372036854775808∧ ∀x∈f.code,Rd.Gd x.a∧ ∀n∈x.l,n<9223372036854775808
 dat: ∀d∈m.dat,d.at_<9223372036854775808
 Aw: ∀x∈m.Aw,x.f<9223372036854775808
theorem Im {t:Int} (h:t<9223372036854775808):(enc t.toNat).length≤10:=AY _ (by omega)
theorem OW {x:Ei} (h:x.v<18446744073709551616) (hf:Du x.v x.l.toNat=true): -9223372036854775808≤Ej x∧Ej x<9223372036854775808:=by
 unfold Ej
 split
 ·rename_i h1
  unfold Du at hf
  rw [h1.1] at hf
  simp at hf
  omega
 ·split<;>omega
theorem eX {x:Ei} (h:x.v<18446744073709551616) (hf:Du x.v x.l.toNat=true):(FZ x).length≤12:=by
 unfold FZ
 rw [List.length_append]
 have:=AY (folded (Ej x)) (Gq _ (OW h hf).1 (OW h hf).2)
 simp
 omega
theorem jy {x:Ad} (h:Rd.Gd x.a∧ ∀n∈x.l,n<9223372036854775808) (hl:x.l.length≤2147483647):(Gc x).length≤11+10*x.l.length:=by
 unfold Gc
 cases hr:Au x.op.toNat with
 | none=>simp
 | some r=>
  simp only [List.length_cons]
  have h1:=AY (folded x.a) (Gq _ h.1.1 h.1.2)
  have h2:=AY x.l.length (by omega)
  have h3:=OM (f:=fun n:Int=>enc n.toNat) (c:=10) (l:=x.l) (fun n hn=>Im (h.2 n hn))
  have h4:=Im h.1.2
  split
  ·simp;omega
  split
  ·omega
  split
  ·rw [List.length_append];omega
  ·omega
section
variable {m:AP} (hn:Ev m) (hs:BU m≤2147483647)
include hn hs
theorem Pf (n k:Nat) (h:n≤2147483647):(enc n++(m.types.take k).flatMap LD).length≤10+42*BU m:=by
 rw [List.length_append]
 have h1:=AY n (by omega)
 have h2:=FK (f:=LD) (h:=fun t:CW=>t.p.size+t.r.size) (c:=20) (l:=m.types) (fun x hx=>by
  have:=DW (fun t:CW=>t.p.size+t.r.size) m.types x hx
  unfold BU at hs
  unfold LD
  rw [List.length_append]
  have:=F8 (s:=x.p) (by omega)
  have:=F8 (s:=x.r) (by omega)
  omega) k
 unfold BU at*
 omega
theorem Pg (n k:Nat) (h:n≤2147483647):(enc n++(m.hosts.take k).flatMap (fun t=>enc t.toNat)).length≤10+42*BU m:=by
 rw [List.length_append]
 have h1:=AY n (by omega)
 have h2:=FK (f:=fun t:Int=>enc t.toNat) (h:=fun _=>0) (c:=10) (l:=m.hosts) (fun x hx=>Im (hn.hosts x hx)) k
 rw [Ry] at h2
 unfold BU at*
 omega
theorem Ph (n k:Nat) (h:n≤2147483647) (hf: ∀j x,j<k→m.globs[j]?=some x→Du x.v x.l.toNat=true):(enc n++(m.globs.take k).flatMap FZ).length≤10+42*BU m:=by
 rw [List.length_append]
 have h1:=AY n (by omega)
 have h2:=Vm (f:=FZ) (h:=fun _=>0) (c:=12) (l:=m.globs.take k) (fun x hx=>by
  obtain⟨j,hj⟩:=List.getElem?_of_mem hx
  rw [List.getElem?_take] at hj
  split at hj
  ·rename_i hlt;exact eX (hn.globs x (List.mem_of_getElem? hj)) (hf j x hlt hj)
  ·cases hj)
 rw [Ry,List.length_take] at h2
 unfold BU at*
 omega
theorem au {f:Bt} (hf:f∈m.fns) (j:Nat):(enc f.t.toNat++FM f.loc++enc f.code.length++(f.code.take j).flatMap Gc).length≤30+11*Ii f:=by
 have hsz:=DW Ii m.fns f hf
 have h0:=hn.fns f hf
 have h1:=Im h0.1
 unfold BU at hs
 unfold Ii Ki at hsz⊢
 unfold Ii Ki at hs
 have h2:=F8 (s:=f.loc) (by omega)
 have h3:=AY f.code.length (by omega)
 have h4:=FK (f:=Gc) (h:=fun x:Ad=>10*x.l.length) (c:=11) (l:=f.code) (fun x hx=>by
  have:=DW (fun i:Ad=>i.l.length) f.code x hx
  exact jy (h0.2 x hx) (by omega)) j
 have h5:BM (fun x:Ad=>10*x.l.length) f.code=10*BM (fun x:Ad=>x.l.length) f.code:=by
  unfold BM
  induction f.code with
  | nil=>rfl
  | cons a l ih=>simp only [List.map_cons,List.sum_cons,Nat.mul_add,ih]
 rw [h5] at h4
 simp only [List.length_append]
 omega
theorem Vn (n k:Nat) (h:n≤2147483647):(enc n++(m.fns.take k).flatMap UY).length≤10+42*BU m:=by
 rw [List.length_append]
 have h1:=AY n (by omega)
 have h2:=FK (f:=UY) (h:=fun f=>11*Ii f) (c:=30) (l:=m.fns) (fun f hf=>by
  have:=au hn hs hf f.code.length
  rw [List.take_length] at this
  exact this) k
 have h5:BM (fun f:Bt=>11*Ii f) m.fns=11*BM Ii m.fns:=by
  unfold BM
  induction m.fns with
  | nil=>rfl
  | cons a l ih=>simp only [List.map_cons,List.sum_cons,Nat.mul_add,ih]
 unfold BU at*
 omega
theorem j3 {d:Gn} (hd:d∈m.dat):(I9 d).length≤20+d.b.length:=by
 have:=DW (fun d:Gn=>d.b.length) m.dat d hd
 unfold I9
 simp only [List.length_append]
 have h1:=Im (hn.dat d hd)
 unfold BU at hs
 have h2:=AY d.b.length (by omega)
 omega
theorem Vo (n k:Nat) (h:n≤2147483647):(enc n++(m.dat.take k).flatMap I9).length≤10+42*BU m:=by
 rw [List.length_append]
 have h1:=AY n (by omega)
 have h2:=FK (f:=I9) (h:=fun d:Gn=>d.b.length) (c:=20) (l:=m.dat) (fun d hd=>j3 hn hs hd) k
 unfold BU at*
 omega
theorem j4 {x:LC} (hx:x∈m.Aw):(Jl x).length≤20+x.n.size:=by
 have:=DW (fun x:LC=>x.n.size) m.Aw x hx
 unfold Jl
 simp only [List.length_append]
 have h1:=Im (hn.Aw x hx)
 unfold BU at hs
 have h2:=F8 (s:=x.n) (by omega)
 omega
theorem Xh (n k:Nat) (h:n≤2147483647):(enc n++(m.Aw.take k).flatMap Jl).length≤10+42*BU m:=by
 rw [List.length_append]
 have h1:=AY n (by omega)
 have h2:=FK (f:=Jl) (h:=fun x:LC=>x.n.size) (c:=20) (l:=m.Aw) (fun d hd=>j4 hn hs hd) k
 unfold BU at*
 omega
theorem Uj (hf: ∀j x,j<m.globs.length→m.globs[j]?=some x→Du x.v x.l.toNat=true):(NA m).length≤50+126*BU m:=by
 have h1:=Pf hn hs m.types.length m.types.length (by unfold BU at hs;omega)
 have h2:=Pg hn hs m.hosts.length m.hosts.length (by unfold BU at hs;omega)
 have h3:=Ph hn hs m.globs.length m.globs.length (by unfold BU at hs;omega) hf
 rw [List.take_length] at h1 h2 h3
 have h4:=Im hn.first
 have h5:=Im hn.most
 unfold NA NY NZ Na
 simp only [List.length_append] at*
 omega
end
theorem Mc {m:AP} {k:Nat} (h:Aa k (Gh m)=0): ∀j x,j<k→m.globs[j]?=some x→MQ x.l.toNat=true∧Du x.v x.l.toNat=true:=by
 intro j x hj hx
 have h1:=BP h j hj
 unfold Gh at h1
 rw [hx] at h1
 have h2:=AU h1
 constructor
 ·have:=h2.1;unfold Ab at this;split at this
  ·assumption
  ·cases this
 ·have:=h2.2;unfold Ab at this;split at this
  ·assumption
  ·cases this
section
attribute [local irreducible] Au
def CF (x:Ad):List UInt8:=if Aq x=0 then Gc x else []
theorem QU {x:Ad} {r:Yz} (h:Aq x=0) (hr:Au x.op.toNat=some r):(BO r).1≤x.a∧x.a≤(BO r).2∧(r.takes=3→x.l.length≤16∧ ∀n∈x.l,0≤n∧n≤2147483647):=by
 unfold Aq at h
 rw [hr] at h
 dsimp only at h
 split at h
 ·cases h
 ·rename_i hb
  have hb:=Decidable.not_not.1 hb
  refine⟨hb.1,hb.2,fun h3=> ?_⟩
  rw [if_neg (by simp [h3])] at h
  split at h
  ·cases h
  ·rename_i hl
   split at h
   ·rename_i ha
    exact⟨by omega,fun n hn=>of_decide_eq_true (List.all_eq_true.1 ha n hn)⟩
   ·cases h
theorem QV {x:Ad} (h:Aq x=0): ∃r,Au x.op.toNat=some r:=by
 cases hr:Au x.op.toNat with
 | none=>unfold Aq at h;rw [hr] at h;cases h
 | some r=>exact⟨r,rfl⟩
theorem bA {x:Ad} {r:Yz} (hr:Au x.op.toNat=some r):Gc x=x.op::(if r.takes=0 then [] else if r.takes=8 then enc (folded x.a) else if r.takes=3 then enc x.l.length++x.l.flatMap (fun n=>enc n.toNat) else enc x.a.toNat):=by
 unfold Gc;rw [hr]
theorem Xo {W:World} {base g:Nat} {t:TypeId} {v:Value} (hb:AQ W g t [v]) (hg:base≤g):W.ownsRow base t 1 (.slice (some ⟨g,0,none⟩) 1 1) 1 [v]:=
 ⟨rfl,.inr ⟨g,1,#[v],rfl,hg,hb,Nat.le_refl _,by unfold maxLen;omega,rfl,rfl⟩⟩
theorem Vu (cs:List Value) (hi:Nat) (x:Ad) (w:World) (h:Ga.R w 0 hi cs x) (hhi:hi≤w.heap.size) (htab:Lib.TabIs prog w "strings.asciiSpace" .u8 Lib.asciiSpaceTab):
 Calls prog 161 #[.agg cs.toArray] w fun e w'=>Below w.heap.size w w'∧ ∃A c,e= .returned (.tuple #[.slice A (CF x).length c,.int .i64 (Aq x)])∧w'.ownsRow w.heap.size 5 1 (.slice A (CF x).length c) (CF x).length ((CF x).map bv):=by
 have Ht:=AA (Lib.tabBelow_of_tabIs htab)
 have Hh:=AA h
 obtain⟨Yx,rfl,Ql,La⟩:=Dz.1 h
 obtain⟨Gb,GH,rfl⟩:=AJ La
 have qM:=AA La;have yC:=AA Ql
 clear h La Ql htab
 unfold bv at Hh⊢
 go_enter func161,ntmps161
 go_wp2_with fail
 generalize hw:w.alloc _=w1
 have H1:Hid (Below w.heap.size w w1):=by rw [←hw];exact AA ((Below.refl _ _).alloc (Nat.le_refl _) _)
 have Hb1:Hid (AQ w1 w.heap.size 122 [.int .u8 (x.op.toNat:Int),.int .i64 x.a,.slice Gb x.l.length GH]):=by rw [←hw];exact AA (AQ.new w 122 [.int .u8 (x.op.toNat:Int),.int .i64 x.a,.slice Gb x.l.length GH])
 clear hw
 refine(Xn [.int .u8 (x.op.toNat:Int),.int .i64 x.a,.slice Gb x.l.length GH] hi x w1 (Rd.below Hh.out H1.out hhi) (Nat.le_trans hhi H1.out.size) (Ht.out _ H1.out)).mono ?_
 rintro e w2 ⟨hbe,rfl⟩
 have Hb2:=AA (Hb1.out.below hbe Hb1.out.lt)
 have H2:=AA (H1.out.trans (hbe.mono H1.out.size))
 clear hbe Hb1 H1
 by_cases h0:Aq x=0
 case neg=>
  have HO:Hid (CF x= []):=AA (by unfold CF;rw [if_neg h0])
  have hne:(Aq x !=0)=true:=by simpa using h0
  clear h0
  go_wp2_with fail
  go_ret2
  refine⟨H2.out,none,0,?_,?_⟩
  ·rw [HO.out];rfl
  ·rw [HO.out];exact World.ownsRow_nil _ _ _ _
 obtain⟨r,hr⟩:=QV h0
 have HZ:=AA (QU h0 hr)
 have HO:Hid (CF x=x.op::(if r.takes=0 then [] else if r.takes=8 then enc (folded x.a) else if r.takes=3 then enc x.l.length++x.l.flatMap (fun n=>enc n.toNat) else enc x.a.toNat)):=AA (by unfold CF;rw [if_pos h0,bA hr])
 have Hr:=AA hr
 have H0:=AA h0
 rw [h0]
 have hc0:=Hb2.out.q 0 rfl
 have hsz:w.heap.size<w2.heap.size:=Hb2.out.lt
 clear hr h0
 go_wp2_with fail
 generalize hw:w2.alloc _=w3
 have H3:Hid (Below w.heap.size w w3):=by rw [←hw];exact AA (H2.out.alloc (by omega) _)
 have Hb3:Hid (AQ w3 w.heap.size 122 [.int .u8 (x.op.toNat:Int),.int .i64 x.a,.slice Gb x.l.length GH]):=by rw [←hw];exact AA (Hb2.out.alloc _)
 have NH:Hid (AQ w3 w2.heap.size 5 [bv x.op]):=by rw [←hw];exact AA (AQ.new w2 5 [bv x.op])
 clear hw hc0 H2 Hb2
 refine(ZR x.op.toNat w3 (UInt8.toNat_lt x.op) (Ht.out _ H3.out)).mono ?_
 rintro e w4 ⟨hbe,rfl⟩
 have H4:=AA (H3.out.trans (hbe.mono H3.out.size));have Hb4:=AA (Hb3.out.below hbe Hb3.out.lt);have Qo:=AA (NH.out.below hbe NH.out.lt)
 clear hbe H3 Hb3 NH
 have ha:EZ x.op.toNat= .tuple #[.agg (opC r),.bool true]:=by unfold EZ;rw [Hr.out]
 rw [ha]
 unfold opC
 clear ha
 go_upto_block 0 with fail
 generalize hw:w4.alloc _=w5
 have H5:Hid (Below w.heap.size w w5):=by rw [←hw];exact AA (H4.out.alloc H4.out.size _)
 have Hb5:Hid (AQ w5 w.heap.size 122 [.int .u8 (x.op.toNat:Int),.int .i64 x.a,.slice Gb x.l.length GH]):=by rw [←hw];exact AA (Hb4.out.alloc _)
 have QO:Hid (AQ w5 w2.heap.size 5 [bv x.op]):=by rw [←hw];exact AA (Qo.out.alloc _)
 clear hw H4 Hb4 Qo
 have kG:=AA (Xo (base:=w.heap.size) QO.out (by omega))
 have hsz5:w.heap.size≤w5.heap.size:=H5.out.size
 clear QO
 go_cut [5] (fun b wx=> ∃A c,b= .slice A (CF x).length c∧wx.ownsRow w.heap.size 5 1 (.slice A (CF x).length c) (CF x).length ((CF x).map bv)∧Below w.heap.size w wx)
 case first=>
  have hy1:=Hb5.out.q 1 rfl
  have hy2:=Hb5.out.q 2 rfl
  rcases Q_ r (Iq Hr.out).1 with h | h | h | h | h | h | h | h | h | h
  case inl=>
   have HQ:Hid (CF x= [x.op]):=AA (by rw [HO.out,if_pos h])
   have d1:(r.takes==1)=_:=congrArg (· ==(1:Int)) h;have d2:(r.takes==2)=_:=congrArg (· ==(2:Int)) h;have d3:(r.takes==3)=_:=congrArg (· ==(3:Int)) h;have d4:(r.takes==4)=_:=congrArg (· ==(4:Int)) h;have d5:(r.takes==5)=_:=congrArg (· ==(5:Int)) h;have d6:(r.takes==6)=_:=congrArg (· ==(6:Int)) h;have d7:(r.takes==7)=_:=congrArg (· ==(7:Int)) h;have d8:(r.takes==8)=_:=congrArg (· ==(8:Int)) h;have d9:(r.takes==9)=_:=congrArg (· ==(9:Int)) h;have Hh:=AA h;clear h
   go_wp2_with fail
   go_meet
   rw [HQ.out]
   exact⟨_,_,rfl,kG.out,H5.out⟩
  case inr.inr.inr.inr.inr.inr.inr.inr.inl=>
   have HQ:Hid (CF x= [x.op]++enc (folded x.a)):=AA (by rw [HO.out,if_neg (by omega),if_pos h];rfl)
   have d1:(r.takes==1)=_:=congrArg (· ==(1:Int)) h;have d2:(r.takes==2)=_:=congrArg (· ==(2:Int)) h;have d3:(r.takes==3)=_:=congrArg (· ==(3:Int)) h;have d4:(r.takes==4)=_:=congrArg (· ==(4:Int)) h;have d5:(r.takes==5)=_:=congrArg (· ==(5:Int)) h;have d6:(r.takes==6)=_:=congrArg (· ==(6:Int)) h;have d7:(r.takes==7)=_:=congrArg (· ==(7:Int)) h;have d8:(r.takes==8)=_:=congrArg (· ==(8:Int)) h;have d9:(r.takes==9)=_:=congrArg (· ==(9:Int)) h;have Hh:=AA h;clear h
   have hA:=yC.out
   have NI:=AA (AY (folded x.a) (Gq _ hA.1 hA.2))
   go_wp2_with (first
    | (go_at_call 157;refine(Uf x.a hA.1 hA.2 _).mono ?_;rintro e w6 ⟨A6,c6,rfl,h2,h3⟩;have IV:=AA (Row.own h2);have fP:=AA (CX kG.out h3);have H6:=AA (H5.out.trans (h3.mono hsz5));clear h2 h3)
    | (at_builtin;refine Ea _ rfl (.tmp 59) (.tmp 62) rfl w.heap.size (some ⟨w2.heap.size,0,none⟩) 1 1 [bv x.op] rfl fP.out _ A6 (enc (folded x.a)).length c6 ((enc (folded x.a)).map bv) rfl (by rw [List.length_map]) IV.out (Eh _) (by have:=NI.out;omega) H6.out.size ?_;intro A7 c7 w7 h2 _ h3;have Xp:=AA h2;have H7:=AA (H6.out.trans h3);clear h2 h3))
   go_meet
   rw [HQ.out]
   refine⟨A7,c7,by rw [List.length_append];rfl,?_,H7.out⟩
   rw [List.length_append,List.map_append]
   exact Xp.out
  case inr.inr.inr.inl=>
   have d1:(r.takes==1)=_:=congrArg (· ==(1:Int)) h;have d2:(r.takes==2)=_:=congrArg (· ==(2:Int)) h;have d3:(r.takes==3)=_:=congrArg (· ==(3:Int)) h;have d4:(r.takes==4)=_:=congrArg (· ==(4:Int)) h;have d5:(r.takes==5)=_:=congrArg (· ==(5:Int)) h;have d6:(r.takes==6)=_:=congrArg (· ==(6:Int)) h;have d7:(r.takes==7)=_:=congrArg (· ==(7:Int)) h;have d8:(r.takes==8)=_:=congrArg (· ==(8:Int)) h;have d9:(r.takes==9)=_:=congrArg (· ==(9:Int)) h;have Hh:=AA h;clear h
   have HQ:Hid (CF x= [x.op]++(enc x.l.length++x.l.flatMap (fun n=>enc n.toNat))):=AA (by rw [HO.out,if_neg (by have:=Hh.out;omega),if_neg (by have:=Hh.out;omega),if_pos Hh.out];rfl)
   have hz:=HZ.out.2.2 Hh.out
   have HL:=AA hz
   have hl16:=hz.1
   have NI:=AA (AY x.l.length (by omega))
   have hwr:IntKind.u64.wrap (x.l.length:Int)=(x.l.length:Int):=by rw [IntKind.wrap_u64];omega
   clear hz
   go_wp2_with (first
    | (go_at_call 102;refine(F7 x.l.length (by omega) _).mono ?_;rintro e w6 ⟨A6,c6,rfl,h2,h3⟩;have IV:=AA (Row.own h2);have fP:=AA (CX kG.out h3);have H6:=AA (H5.out.trans (h3.mono hsz5));have hz2:=(Hb5.out.below h3 Hb5.out.lt);have yP:=AA hz2;have hy6:=yP.out.cell 2;clear h2 h3 hz2)
    | (at_builtin;refine Ea _ rfl (.tmp 39) (.tmp 44) rfl w.heap.size (some ⟨w2.heap.size,0,none⟩) 1 1 [bv x.op] rfl fP.out _ A6 (enc x.l.length).length c6 ((enc x.l.length).map bv) rfl (by rw [List.length_map]) IV.out (Eh _) (by have:=NI.out;omega) H6.out.size ?_;intro A7 c7 w7 h2 hg7 h3;have Xp:=AA h2;have H7:=AA (H6.out.trans h3);have Hb7:=AA (Ay hg7 yP.out (fun e=>by have e2:w2.heap.size=w.heap.size:=Option.some.inj e;omega));clear h2 h3 hg7;have hy7:w7.cell? ⟨w.heap.size,2,none⟩=some (.slice Gb x.l.length GH):=Hb7.out.cell 2))
   clear Hb5 yP kG fP hy1 hy2 hy6 H5 H6 IV
   have HS:Hid (w7.ownsRow w.heap.size 5 1 (.slice A7 ([x.op]++(enc x.l.length++(x.l.take 0).flatMap (fun n=>enc n.toNat))).length c7) ([x.op]++(enc x.l.length++(x.l.take 0).flatMap (fun n=>enc n.toNat))).length (([x.op]++(enc x.l.length++(x.l.take 0).flatMap (fun n=>enc n.toNat))).map bv)):=AA (by
    have h:=Xp.out
    rw [List.take_zero,List.flatMap_nil,List.append_nil,List.length_append,List.map_append]
    exact h)
   have Xq:Hid (1+(enc x.l.length).length=([x.op]++(enc x.l.length++(x.l.take 0).flatMap (fun n=>enc n.toNat))).length):=AA (by rw [List.take_zero,List.flatMap_nil,List.append_nil,List.length_append];rfl)
   go_loopw [5,9,49] (fun b _ i wr=> ∃(k:Nat) (A:Option Addr) (c:Nat),k≤x.l.length∧i= .int .i64 k∧b= .slice A ([x.op]++(enc x.l.length++(x.l.take k).flatMap (fun n=>enc n.toNat))).length c∧Below w.heap.size w wr∧
    wr.ownsRow w.heap.size 5 1 (.slice A ([x.op]++(enc x.l.length++(x.l.take k).flatMap (fun n=>enc n.toNat))).length c) ([x.op]++(enc x.l.length++(x.l.take k).flatMap (fun n=>enc n.toNat))).length (([x.op]++(enc x.l.length++(x.l.take k).flatMap (fun n=>enc n.toNat))).map bv))
    (fun _ _ i _=>x.l.length-(intOf i).toNat)
   case atStart=>exact⟨0,A7,c7,Nat.zero_le _,rfl,by rw [←Xq.out],H7.out,HS.out⟩
   case round=>
    obtain⟨k,A,c,hk,rfl,rfl,hb,ho⟩:=hrel
    have HB:=AA hb;have HOk:=AA ho
    clear hb ho
    by_cases hlt:k<x.l.length
    ·obtain⟨y,hy⟩: ∃y,x.l[k]?=some y:=⟨_,List.getElem?_eq_getElem hlt⟩
     have hlk:=Rd.below qM.out HB.out hhi
     obtain⟨b,o,rfl,_,_,cs,hcs,hrd⟩:=Dj hlk hy
     obtain⟨rfl,yO⟩:=hrd
     have hc0:wr.cell? ⟨b,o+k,none⟩=some (.int .i64 y):=by
      have:=hcs 0 _ rfl
      rwa [show Rd.i64.z=1 from rfl,Nat.mul_one,Nat.add_zero] at this
     have hi0:(0:Int)≤k:=by omega
     have hyb:=HL.out.2 y (List.mem_of_getElem? hy)
     obtain⟨n,hn⟩:=Int.eq_ofNat_of_zero_le hyb.1
     have Hn:Hid (y.toNat=n∧n<18446744073709551616):=AA ⟨by omega,by omega⟩
     have hwy:IntKind.u64.wrap y=y:=by rw [IntKind.wrap_u64];omega
     have hcl:=F7 n (by omega)
     rw [←hn] at hcl
     have yQ:=AA hcl
     have HFn:=AA (AY n (by omega))
     have Ey:Hid ([x.op]++(enc x.l.length++(x.l.take k).flatMap (fun n=>enc n.toNat))++enc n= [x.op]++(enc x.l.length++(x.l.take (k+1)).flatMap (fun n=>enc n.toNat))):=AA (by
      rw [EH (f:=fun n:Int=>enc n.toNat) hy,show y.toNat=n from by omega];simp only [List.append_assoc])
     have R5:Hid (([x.op]++(enc x.l.length++(x.l.take k).flatMap (fun n=>enc n.toNat))).length≤1000):=AA (by
      have h1:=OM (f:=fun n:Int=>enc n.toNat) (c:=10) (l:=x.l.take k) (fun n hn=>by
       have:=HL.out.2 n (List.mem_of_mem_take hn)
       exact AY _ (by omega))
      have h2:(x.l.take k).length≤16:=by rw [List.length_take];omega
      have:=NI.out
      rw [List.length_append,List.length_append]
      simp only [List.length_cons,List.length_nil]
      omega)
     clear hn hyb hcl hcs hlk hy
     generalize ([x.op]++(enc x.l.length++(x.l.take k).flatMap (fun n=>enc n.toNat)))=LK at*
     go_wp2_with (first
      | (go_at_call 102;refine(yQ.out _).mono ?_;rintro e w8 ⟨A8,c8,rfl,h2,h3⟩;have HR8:=AA (Row.own h2);have HO8:=AA (CX HOk.out h3);have H8:=AA (HB.out.trans (h3.mono HB.out.size));clear h2 h3)
      | (at_builtin;refine Ea _ rfl (.tmp 53) (.tmp 56) rfl w.heap.size A LK.length c (LK.map bv) rfl HO8.out _ A8 (enc n).length c8 ((enc n).map bv) rfl (by rw [List.length_map]) HR8.out (Eh _) (by have:=HFn.out;have:=R5.out;omega) H8.out.size ?_;intro A9 c9 w9 h2 _ h3;have HO9:=AA h2;have H9:=AA (H8.out.trans h3);clear h2 h3))
     refine⟨⟨k+1,A9,c9,by omega,by go_num,by rw [←Ey.out,List.length_append],H9.out,?_⟩,by simp [intOf];omega⟩
     rw [←Ey.out,List.length_append,List.map_append]
     exact HO9.out
    ·obtain rfl:k=x.l.length:=by omega
     go_wp2_with fail
     go_meet
     have hq:=HQ.out
     rw [←List.take_length (l:=x.l)] at hq
     rw [List.length_take,Nat.min_self] at hq
     rw [hq]
     exact⟨A,c,rfl,HOk.out,HB.out⟩
  all_goals
   have HQ:Hid (CF x= [x.op]++enc x.a.toNat):=AA (by rw [HO.out,if_neg (by omega),if_neg (by omega),if_neg (by omega)];rfl)
   have hb0:0≤x.a∧x.a≤4294967295:=by
    have hz:=HZ.out
    unfold BO at hz
    simp [h] at hz
    omega
   obtain⟨n,hn⟩:=Int.eq_ofNat_of_zero_le hb0.1
   have Hn:Hid (x.a=(n:Int)∧x.a.toNat=n∧n<18446744073709551616):=AA ⟨hn,by omega,by omega⟩
   have NI:=AA (AY n (by omega))
   have hwr:IntKind.u64.wrap x.a=x.a:=by rw [IntKind.wrap_u64];omega
   have hcl:=F7 n (by omega)
   rw [←hn] at hcl
   have yQ:=AA hcl
   clear hn hb0 hcl
   have d1:(r.takes==1)=_:=congrArg (· ==(1:Int)) h;have d2:(r.takes==2)=_:=congrArg (· ==(2:Int)) h;have d3:(r.takes==3)=_:=congrArg (· ==(3:Int)) h;have d4:(r.takes==4)=_:=congrArg (· ==(4:Int)) h;have d5:(r.takes==5)=_:=congrArg (· ==(5:Int)) h;have d6:(r.takes==6)=_:=congrArg (· ==(6:Int)) h;have d7:(r.takes==7)=_:=congrArg (· ==(7:Int)) h;have d8:(r.takes==8)=_:=congrArg (· ==(8:Int)) h;have d9:(r.takes==9)=_:=congrArg (· ==(9:Int)) h;have Hh:=AA h;clear h
   go_wp2_with (first
    | (go_at_call 102;refine(yQ.out _).mono ?_;rintro e w6 ⟨A6,c6,rfl,h2,h3⟩;have IV:=AA (Row.own h2);have fP:=AA (CX kG.out h3);have H6:=AA (H5.out.trans (h3.mono hsz5));clear h2 h3)
    | (at_builtin;refine Ea _ rfl (.tmp 64) (.tmp 68) rfl w.heap.size (some ⟨w2.heap.size,0,none⟩) 1 1 [bv x.op] rfl fP.out _ A6 (enc n).length c6 ((enc n).map bv) rfl (by rw [List.length_map]) IV.out (Eh _) (by have:=NI.out;omega) H6.out.size ?_;intro A7 c7 w7 h2 _ h3;have Xp:=AA h2;have H7:=AA (H6.out.trans h3);clear h2 h3))
   go_meet
   rw [HQ.out,Hn.out.2.1]
   refine⟨A7,c7,by rw [List.length_append];rfl,?_,H7.out⟩
   rw [List.length_append,List.map_append]
   exact Xp.out
 case rest=>
  obtain⟨A,c,rfl,ho,hb⟩:=hcut
  have HOx:=AA ho;have Hbx:=AA hb
  clear ho hb
  go_wp2_with fail
  go_ret2
  exact⟨Hbx.out,A,c,by rw [H0.out];rfl,HOx.out⟩
end
section
attribute [local irreducible] Au
def IG (op:Nat):Int:=match Au op with
 | none=> -1
 | some r=>r.takes
theorem Uo (op:Nat) (hop:op<256) (w:World):Calls prog 179 #[.int .u8 op] w fun e w'=>Below w.heap.size w w'∧e= .returned (.int .i8 (IG op)):=by
 go_enter func179,ntmps179
 go_wp2_with fail
 refine(Vw op _ hop).mono ?_
 rintro e w1 ⟨hb,rfl⟩
 have H1:=AA hb;clear hb
 cases hr:Au op with
 | none=>
  have ha:EZ op= .tuple #[.agg fK,.bool false]:=by unfold EZ;rw [hr]
  have HX:Hid (IG op= -1):=AA (by unfold IG;rw [hr])
  rw [ha]
  unfold fK
  clear ha hr
  go_wp2_with fail
  go_ret
  exact⟨H1.out.alloc H1.out.size _,by rw [HX.out];rfl⟩
 | some r=>
  have ha:EZ op= .tuple #[.agg (opC r),.bool true]:=by unfold EZ;rw [hr]
  have HX:Hid (IG op=r.takes):=AA (by unfold IG;rw [hr])
  rw [ha]
  unfold opC
  clear ha hr
  go_wp2_with fail
  go_ret
  exact⟨H1.out.alloc H1.out.size _,by rw [HX.out];rfl⟩
theorem Xr (cs:List Value) (hi:Nat) (x:Ad) (w:World) (h:Ga.R w 0 hi cs x) (hhi:hi≤w.heap.size):
 Calls prog 144 #[.agg cs.toArray] w fun e w'=>Below w.heap.size w w'∧ ∃A c,e= .returned (.tuple #[.slice A (CF x).length c,.int .i64 (Aq x)])∧w'.ownsRow w.heap.size 5 1 (.slice A (CF x).length c) (CF x).length ((CF x).map bv):=by
 have Hh:=AA h
 obtain⟨Yx,rfl,Ql,La⟩:=Dz.1 h
 obtain⟨Gb,GH,rfl⟩:=AJ La
 have qM:=AA La;have yC:=AA Ql
 clear h La Ql
 unfold bv at Hh⊢
 go_enter func144,ntmps144
 go_wp2_with fail
 generalize hw:w.alloc _=w1
 have H1:Hid (Below w.heap.size w w1):=by rw [←hw];exact AA ((Below.refl _ _).alloc (Nat.le_refl _) _)
 have Hb1:Hid (AQ w1 w.heap.size 122 [.int .u8 (x.op.toNat:Int),.int .i64 x.a,.slice Gb x.l.length GH]):=by rw [←hw];exact AA (AQ.new w 122 [.int .u8 (x.op.toNat:Int),.int .i64 x.a,.slice Gb x.l.length GH])
 clear hw
 refine(R_ [.int .u8 (x.op.toNat:Int),.int .i64 x.a,.slice Gb x.l.length GH] hi x w1 (Rd.below Hh.out H1.out hhi) (Nat.le_trans hhi H1.out.size) (fun op W h=>Vw op W h)).mono ?_
 rintro e w2 ⟨hbe,rfl⟩
 have Hb2:=AA (Hb1.out.below hbe Hb1.out.lt)
 have H2:=AA (H1.out.trans (hbe.mono H1.out.size))
 clear hbe Hb1 H1
 by_cases h0:Aq x=0
 case neg=>
  have HO:Hid (CF x= []):=AA (by unfold CF;rw [if_neg h0])
  have hne:(Aq x !=0)=true:=by simpa using h0
  clear h0
  go_wp2_with fail
  go_ret2
  refine⟨H2.out,none,0,?_,?_⟩
  ·rw [HO.out];rfl
  ·rw [HO.out];exact World.ownsRow_nil _ _ _ _
 obtain⟨r,hr⟩:=QV h0
 have HZ:=AA (QU h0 hr)
 have HO:Hid (CF x=x.op::(if r.takes=0 then [] else if r.takes=8 then enc (folded x.a) else if r.takes=3 then enc x.l.length++x.l.flatMap (fun n=>enc n.toNat) else enc x.a.toNat)):=AA (by unfold CF;rw [if_pos h0,bA hr])
 have Hr:=AA hr
 have H0:=AA h0
 rw [h0]
 have hc0:=Hb2.out.q 0 rfl
 have hsz:w.heap.size<w2.heap.size:=Hb2.out.lt
 clear hr h0
 go_wp2_with fail
 generalize hw:w2.alloc _=w3
 have H3:Hid (Below w.heap.size w w3):=by rw [←hw];exact AA (H2.out.alloc (by omega) _)
 have Hb3:Hid (AQ w3 w.heap.size 122 [.int .u8 (x.op.toNat:Int),.int .i64 x.a,.slice Gb x.l.length GH]):=by rw [←hw];exact AA (Hb2.out.alloc _)
 have NH:Hid (AQ w3 w2.heap.size 5 [bv x.op]):=by rw [←hw];exact AA (AQ.new w2 5 [bv x.op])
 clear hw hc0 H2 Hb2
 have hc0:=Hb3.out.q 0 rfl
 refine(Uo x.op.toNat (UInt8.toNat_lt x.op) w3).mono ?_
 rintro e w5 ⟨hbe,rfl⟩
 have H5:=AA (H3.out.trans (hbe.mono H3.out.size));have Hb5:=AA (Hb3.out.below hbe Hb3.out.lt);have QO:=AA (NH.out.below hbe NH.out.lt)
 clear hbe H3 Hb3 NH hc0
 have ha:IG x.op.toNat=r.takes:=by unfold IG;rw [Hr.out]
 rw [ha]
 clear ha
 go_upto_block 0 with fail
 have kG:=AA (Xo (base:=w.heap.size+1) QO.out (by omega))
 have hsz5:w.heap.size≤w5.heap.size:=H5.out.size
 have kJ:w.heap.size+1≤w5.heap.size:=Hb5.out.lt
 clear QO
 go_cut [5] (fun b wx=> ∃A c,b= .slice A (CF x).length c∧wx.ownsRow w.heap.size 5 1 (.slice A (CF x).length c) (CF x).length ((CF x).map bv)∧Below w.heap.size w wx)
 case first=>
  have hy1:=Hb5.out.q 1 rfl
  have hy2:=Hb5.out.q 2 rfl
  rcases Q_ r (Iq Hr.out).1 with h | h | h | h | h | h | h | h | h | h
  case inl=>
   have HQ:Hid (CF x= [x.op]):=AA (by rw [HO.out,if_pos h])
   have d0:(r.takes==0)=_:=congrArg (· ==(0:Int)) h;have d1:(r.takes==1)=_:=congrArg (· ==(1:Int)) h;have d2:(r.takes==2)=_:=congrArg (· ==(2:Int)) h;have d3:(r.takes==3)=_:=congrArg (· ==(3:Int)) h;have d4:(r.takes==4)=_:=congrArg (· ==(4:Int)) h;have d5:(r.takes==5)=_:=congrArg (· ==(5:Int)) h;have d6:(r.takes==6)=_:=congrArg (· ==(6:Int)) h;have d7:(r.takes==7)=_:=congrArg (· ==(7:Int)) h;have d8:(r.takes==8)=_:=congrArg (· ==(8:Int)) h;have d9:(r.takes==9)=_:=congrArg (· ==(9:Int)) h;have Hh:=AA h;clear h
   go_wp2_with fail
   go_meet
   rw [HQ.out]
   exact⟨_,_,rfl,World.ownsRow.mono kG.out (Nat.le_succ _),H5.out⟩
  case inr.inr.inr.inr.inr.inr.inr.inr.inl=>
   have HQ:Hid (CF x= [x.op]++enc (folded x.a)):=AA (by rw [HO.out,if_neg (by omega),if_pos h];rfl)
   have d0:(r.takes==0)=_:=congrArg (· ==(0:Int)) h;have d1:(r.takes==1)=_:=congrArg (· ==(1:Int)) h;have d2:(r.takes==2)=_:=congrArg (· ==(2:Int)) h;have d3:(r.takes==3)=_:=congrArg (· ==(3:Int)) h;have d4:(r.takes==4)=_:=congrArg (· ==(4:Int)) h;have d5:(r.takes==5)=_:=congrArg (· ==(5:Int)) h;have d6:(r.takes==6)=_:=congrArg (· ==(6:Int)) h;have d7:(r.takes==7)=_:=congrArg (· ==(7:Int)) h;have d8:(r.takes==8)=_:=congrArg (· ==(8:Int)) h;have d9:(r.takes==9)=_:=congrArg (· ==(9:Int)) h;have Hh:=AA h;clear h
   have hA:=yC.out
   have NI:=AA (AY (folded x.a) (Gq _ hA.1 hA.2))
   go_wp2_with (first
    | (go_at_call 142;refine(XY x.a hA.1 hA.2 _).mono ?_;rintro e w6 ⟨A6,c6,rfl,h2,h3⟩;have IV:=AA (Row.own h2);have fP:=AA (CX kG.out h3);have H6:=AA (H5.out.trans (h3.mono hsz5));have ZT:w.heap.size+1≤w6.heap.size:=Nat.le_trans kJ h3.size;clear h2 h3)
    | (at_builtin;refine Ea _ rfl (.tmp 28) (.tmp 31) rfl (w.heap.size+1) (some ⟨w2.heap.size,0,none⟩) 1 1 [bv x.op] rfl fP.out _ A6 (enc (folded x.a)).length c6 ((enc (folded x.a)).map bv) rfl (by rw [List.length_map]) IV.out (Eh _) (by have:=NI.out;omega) ZT ?_;intro A7 c7 w7 h2 _ h3;have Xp:=AA h2;have H7:=AA (H6.out.trans (h3.mono (Nat.le_succ _)));clear h2 h3))
   go_meet
   rw [HQ.out]
   refine⟨A7,c7,by rw [List.length_append];rfl,?_,H7.out⟩
   rw [List.length_append,List.map_append]
   exact World.ownsRow.mono Xp.out (Nat.le_succ _)
  case inr.inr.inr.inl=>
   have d0:(r.takes==0)=_:=congrArg (· ==(0:Int)) h;have d1:(r.takes==1)=_:=congrArg (· ==(1:Int)) h;have d2:(r.takes==2)=_:=congrArg (· ==(2:Int)) h;have d3:(r.takes==3)=_:=congrArg (· ==(3:Int)) h;have d4:(r.takes==4)=_:=congrArg (· ==(4:Int)) h;have d5:(r.takes==5)=_:=congrArg (· ==(5:Int)) h;have d6:(r.takes==6)=_:=congrArg (· ==(6:Int)) h;have d7:(r.takes==7)=_:=congrArg (· ==(7:Int)) h;have d8:(r.takes==8)=_:=congrArg (· ==(8:Int)) h;have d9:(r.takes==9)=_:=congrArg (· ==(9:Int)) h;have Hh:=AA h;clear h
   have HQ:Hid (CF x= [x.op]++(enc x.l.length++x.l.flatMap (fun n=>enc n.toNat))):=AA (by rw [HO.out,if_neg (by have:=Hh.out;omega),if_neg (by have:=Hh.out;omega),if_pos Hh.out];rfl)
   have hz:=HZ.out.2.2 Hh.out
   have HL:=AA hz
   have hl16:=hz.1
   have NI:=AA (AY x.l.length (by omega))
   have hwr:IntKind.u64.wrap (x.l.length:Int)=(x.l.length:Int):=by rw [IntKind.wrap_u64];omega
   clear hz
   go_wp2_with (first
    | (go_at_call 76;refine(KC x.l.length (by omega) _).mono ?_;rintro e w6 ⟨A6,c6,rfl,h2,h3⟩;have IV:=AA (Row.own h2);have fP:=AA (CX kG.out h3);have H6:=AA (H5.out.trans (h3.mono hsz5));have ZT:w.heap.size+1≤w6.heap.size:=Nat.le_trans kJ h3.size;have hz2:=(Hb5.out.below h3 Hb5.out.lt);have yP:=AA hz2;have hy6:=yP.out.cell 2;clear h2 h3 hz2)
    | (at_builtin;refine Ea _ rfl (.tmp 35) (.tmp 40) rfl (w.heap.size+1) (some ⟨w2.heap.size,0,none⟩) 1 1 [bv x.op] rfl fP.out _ A6 (enc x.l.length).length c6 ((enc x.l.length).map bv) rfl (by rw [List.length_map]) IV.out (Eh _) (by have:=NI.out;omega) ZT ?_;intro A7 c7 w7 h2 hg7 h3;have Xp:=AA h2;have H7:=AA (H6.out.trans (h3.mono (Nat.le_succ _)));have Hb7:=AA (AQ.below yP.out h3 (Nat.lt_succ_self _));have hsz7:w.heap.size+1≤w7.heap.size:=Nat.le_trans ZT h3.size;clear h2 h3 hg7;have hy7:w7.cell? ⟨w.heap.size,2,none⟩=some (.slice Gb x.l.length GH):=Hb7.out.cell 2))
   clear Hb5 yP kG fP hy1 hy2 hy6 H5 H6 IV
   have HS:Hid (w7.ownsRow (w.heap.size+1) 5 1 (.slice A7 ([x.op]++(enc x.l.length++(x.l.take 0).flatMap (fun n=>enc n.toNat))).length c7) ([x.op]++(enc x.l.length++(x.l.take 0).flatMap (fun n=>enc n.toNat))).length (([x.op]++(enc x.l.length++(x.l.take 0).flatMap (fun n=>enc n.toNat))).map bv)):=AA (by
    have h:=Xp.out
    rw [List.take_zero,List.flatMap_nil,List.append_nil,List.length_append,List.map_append]
    exact h)
   have Xq:Hid (1+(enc x.l.length).length=([x.op]++(enc x.l.length++(x.l.take 0).flatMap (fun n=>enc n.toNat))).length):=AA (by rw [List.take_zero,List.flatMap_nil,List.append_nil,List.length_append];rfl)
   go_loopw [5,6] (fun b i wr=> ∃(k:Nat) (A:Option Addr) (c:Nat),k≤x.l.length∧i= .int .i64 k∧b= .slice A ([x.op]++(enc x.l.length++(x.l.take k).flatMap (fun n=>enc n.toNat))).length c∧Below w.heap.size w wr∧AQ wr w.heap.size 122 [.int .u8 (x.op.toNat:Int),.int .i64 x.a,.slice Gb x.l.length GH]∧
    wr.ownsRow (w.heap.size+1) 5 1 (.slice A ([x.op]++(enc x.l.length++(x.l.take k).flatMap (fun n=>enc n.toNat))).length c) ([x.op]++(enc x.l.length++(x.l.take k).flatMap (fun n=>enc n.toNat))).length (([x.op]++(enc x.l.length++(x.l.take k).flatMap (fun n=>enc n.toNat))).map bv))
    (fun _ i _=>x.l.length-(intOf i).toNat)
   case atStart=>exact⟨0,A7,c7,Nat.zero_le _,rfl,by rw [←Xq.out],H7.out,Hb7.out,HS.out⟩
   case round=>
    obtain⟨k,A,c,hk,rfl,rfl,hb,hbx,ho⟩:=hrel
    have FQ:=AA hbx;have hx2:=hbx.q 2 rfl;have ACG:w.heap.size+1≤wr.heap.size:=hbx.lt;clear hbx
    have HB:=AA hb;have HOk:=AA ho
    clear hb ho
    by_cases hlt:k<x.l.length
    ·obtain⟨y,hy⟩: ∃y,x.l[k]?=some y:=⟨_,List.getElem?_eq_getElem hlt⟩
     have hlk:=Rd.below qM.out HB.out hhi
     obtain⟨b,o,rfl,_,_,cs,hcs,hrd⟩:=Dj hlk hy
     obtain⟨rfl,yO⟩:=hrd
     have hc0:wr.cell? ⟨b,o+k,none⟩=some (.int .i64 y):=by
      have:=hcs 0 _ rfl
      rwa [show Rd.i64.z=1 from rfl,Nat.mul_one,Nat.add_zero] at this
     have hi0:(0:Int)≤k:=by omega
     have hyb:=HL.out.2 y (List.mem_of_getElem? hy)
     obtain⟨n,hn⟩:=Int.eq_ofNat_of_zero_le hyb.1
     have Hn:Hid (y.toNat=n∧n<18446744073709551616):=AA ⟨by omega,by omega⟩
     have hwy:IntKind.u64.wrap y=y:=by rw [IntKind.wrap_u64];omega
     have hcl:=KC n (by omega)
     rw [←hn] at hcl
     have yQ:=AA hcl
     have HFn:=AA (AY n (by omega))
     have Ey:Hid ([x.op]++(enc x.l.length++(x.l.take k).flatMap (fun n=>enc n.toNat))++enc n= [x.op]++(enc x.l.length++(x.l.take (k+1)).flatMap (fun n=>enc n.toNat))):=AA (by
      rw [EH (f:=fun n:Int=>enc n.toNat) hy,show y.toNat=n from by omega];simp only [List.append_assoc])
     have R5:Hid (([x.op]++(enc x.l.length++(x.l.take k).flatMap (fun n=>enc n.toNat))).length≤1000):=AA (by
      have h1:=OM (f:=fun n:Int=>enc n.toNat) (c:=10) (l:=x.l.take k) (fun n hn=>by
       have:=HL.out.2 n (List.mem_of_mem_take hn)
       exact AY _ (by omega))
      have h2:(x.l.take k).length≤16:=by rw [List.length_take];omega
      have:=NI.out
      rw [List.length_append,List.length_append]
      simp only [List.length_cons,List.length_nil]
      omega)
     clear hn hyb hcl hcs hlk hy
     generalize ([x.op]++(enc x.l.length++(x.l.take k).flatMap (fun n=>enc n.toNat)))=LK at*
     go_wp2_with (first
      | (go_at_call 76;refine(yQ.out _).mono ?_;rintro e w8 ⟨A8,c8,rfl,h2,h3⟩;have HR8:=AA (Row.own h2);have HO8:=AA (CX HOk.out h3);have H8:=AA (HB.out.trans (h3.mono HB.out.size));have HBX8:=AA (FQ.out.below h3 FQ.out.lt);have hsz8:w.heap.size+1≤w8.heap.size:=Nat.le_trans ACG h3.size;clear h2 h3)
      | (at_builtin;refine Ea _ rfl (.tmp 49) (.tmp 56) rfl (w.heap.size+1) A LK.length c (LK.map bv) rfl HO8.out _ A8 (enc n).length c8 ((enc n).map bv) rfl (by rw [List.length_map]) HR8.out (Eh _) (by have:=HFn.out;have:=R5.out;omega) hsz8 ?_;intro A9 c9 w9 h2 _ h3;have HO9:=AA h2;have H9:=AA (H8.out.trans (h3.mono (Nat.le_succ _)));have HBX9:=AA (AQ.below HBX8.out h3 (Nat.lt_succ_self _));clear h2 h3))
     refine⟨⟨k+1,A9,c9,by omega,by go_num,by rw [←Ey.out,List.length_append],H9.out,HBX9.out,?_⟩,by simp [intOf];omega⟩
     rw [←Ey.out,List.length_append,List.map_append]
     exact HO9.out
    ·obtain rfl:k=x.l.length:=by omega
     go_wp2_with fail
     go_meet
     have hq:=HQ.out
     rw [←List.take_length (l:=x.l)] at hq
     rw [List.length_take,Nat.min_self] at hq
     rw [hq]
     exact⟨A,c,rfl,World.ownsRow.mono HOk.out (Nat.le_succ _),HB.out⟩
  all_goals
   have HQ:Hid (CF x= [x.op]++enc x.a.toNat):=AA (by rw [HO.out,if_neg (by omega),if_neg (by omega),if_neg (by omega)];rfl)
   have hb0:0≤x.a∧x.a≤4294967295:=by
    have hz:=HZ.out
    unfold BO at hz
    simp [h] at hz
    omega
   obtain⟨n,hn⟩:=Int.eq_ofNat_of_zero_le hb0.1
   have Hn:Hid (x.a=(n:Int)∧x.a.toNat=n∧n<18446744073709551616):=AA ⟨hn,by omega,by omega⟩
   have NI:=AA (AY n (by omega))
   have hwr:IntKind.u64.wrap x.a=x.a:=by rw [IntKind.wrap_u64];omega
   have hcl:=KC n (by omega)
   rw [←hn] at hcl
   have yQ:=AA hcl
   clear hn hb0 hcl
   have d0:(r.takes==0)=_:=congrArg (· ==(0:Int)) h;have d1:(r.takes==1)=_:=congrArg (· ==(1:Int)) h;have d2:(r.takes==2)=_:=congrArg (· ==(2:Int)) h;have d3:(r.takes==3)=_:=congrArg (· ==(3:Int)) h;have d4:(r.takes==4)=_:=congrArg (· ==(4:Int)) h;have d5:(r.takes==5)=_:=congrArg (· ==(5:Int)) h;have d6:(r.takes==6)=_:=congrArg (· ==(6:Int)) h;have d7:(r.takes==7)=_:=congrArg (· ==(7:Int)) h;have d8:(r.takes==8)=_:=congrArg (· ==(8:Int)) h;have d9:(r.takes==9)=_:=congrArg (· ==(9:Int)) h;have Hh:=AA h;clear h
   go_wp2_with (first
    | (go_at_call 76;refine(yQ.out _).mono ?_;rintro e w6 ⟨A6,c6,rfl,h2,h3⟩;have IV:=AA (Row.own h2);have fP:=AA (CX kG.out h3);have H6:=AA (H5.out.trans (h3.mono hsz5));have ZT:w.heap.size+1≤w6.heap.size:=Nat.le_trans kJ h3.size;clear h2 h3)
    | (at_builtin;refine Ea _ rfl (.tmp 18) (.tmp 22) rfl (w.heap.size+1) (some ⟨w2.heap.size,0,none⟩) 1 1 [bv x.op] rfl fP.out _ A6 (enc n).length c6 ((enc n).map bv) rfl (by rw [List.length_map]) IV.out (Eh _) (by have:=NI.out;omega) ZT ?_;intro A7 c7 w7 h2 _ h3;have Xp:=AA h2;have H7:=AA (H6.out.trans (h3.mono (Nat.le_succ _)));clear h2 h3))
   go_meet
   rw [HQ.out,Hn.out.2.1]
   refine⟨A7,c7,by rw [List.length_append];rfl,?_,H7.out⟩
   rw [List.length_append,List.map_append]
   exact World.ownsRow.mono Xp.out (Nat.le_succ _)
 case rest=>
  obtain⟨A,c,rfl,ho,hb⟩:=hcut
  have HOx:=AA ho;have Hbx:=AA hb
  clear ho hb
  go_wp2_with fail
  go_ret2
  exact⟨Hbx.out,A,c,by rw [H0.out];rfl,HOx.out⟩
end
theorem II {op k:Nat} {t:Int} (ho:op=k) (hk:k<256) (ht:IG k=t) (w:World):Calls prog 179 #[.int .u8 (op:Int)] w fun e w'=>Below w.heap.size w w'∧e= .returned (.int .i8 t):=by
 subst ho ht
 exact Uo op hk w
theorem bI (s:ByteArray) (a b:Nat) (i j:Int) (hi:i=a) (hj:j=b) (h1:a≤b) (h2:b≤s.size) (W:World):(Instr.slice 9 (.string s) (some (.int .i64 i)) (some (.int .i64 j)) none).run prog W= .ok (.string (s.extract a b)) W:=by
 subst hi hj
 have:=run_slice_string (P:=prog) W 9 s .i64 .i64 (a:Int) (b:Int) underlying9 (by omega) (by omega) (by omega)
 simpa using this
section
variable {h1 g:Nat} {y:Fy} {m:AP} {f:Bt} {c:Ai} {vF vS:Value} {fl:List Int} {sh:List ByteArray}
theorem Pv (x:Ad) (v:Value) (w:World) (h:D7 w h1 g y m f c vF vS fl sh) (h18:x.op.toNat=18∨x.op.toNat=19∨x.op.toNat=20) (hn: -9223372036854775808≤x.a∧x.a<9223372036854775808) (hl:(C8 m f).size≤1000000):
 Calls prog 148 #[.pointer (some ⟨g,0,none⟩),.agg #[.int .u8 (x.op.toNat:Int),.int .i64 x.a,v]] w fun e w'=>e= .returned (.tuple #[.string (Bf m f x).1,.int .i64 (Bf m f x).2])∧Below w.heap.size w w':=by
 have H:=AA h
 have HT:Hid (∀w,Calls prog 179 #[.int .u8 (x.op.toNat:Int)] w fun e w'=>Below w.heap.size w w'∧e= .returned (.int .i8 6)):=AA (fun w=>by
  rcases h18 with e | e | e
  ·exact II e (by decide) (by kernel_rfl) w
  ·exact II e (by decide) (by kernel_rfl) w
  ·exact II e (by decide) (by kernel_rfl) w)
 have HL:Hid (Bf m f x=if Eo x.a (C8 m f).size then((C8 m f).extract x.a.toNat (x.a.toNat+1),0) else(Di,30)):=AA (by unfold Bf;rw [if_pos h18])
 have hlc:=h.loc
 have hg0:g<w.heap.size:=Nat.lt_of_lt_of_le h.gh h.hh
 clear h h18
 go_enter func148,ntmps148
 go_upto_region 1 with fail
 generalize hw1:w.alloc (.cells #[.int .u8 (x.op.toNat:Int),.int .i64 x.a,v] 122)=w1
 have HB1:Hid (Below w.heap.size w w1):=AA (by rw [←hw1];exact(Below.refl _ _).alloc (Nat.le_refl _) _)
 have CS:Hid (AQ w1 w.heap.size 122 [.int .u8 (x.op.toNat:Int),.int .i64 x.a,v]):=AA (by rw [←hw1];exact AQ.new w 122 _)
 have c0:=CS.out.q 0 rfl
 clear hw1
 go_wp2_with fail
 refine(HT.out w1).mono ?_
 rintro e w2 ⟨hb2,rfl⟩
 have HB2:Hid (Below w.heap.size w w2):=AA (HB1.out.trans (hb2.mono HB1.out.size))
 have Bq:=AA (CS.out.below hb2 CS.out.lt)
 have HW2:=AA (H.out.below HB2.out)
 clear hb2 c0
 have c1:=Bq.out.q 1 rfl
 have c10:w2.cell? ⟨g,10,none⟩=some (.string (C8 m f)):=by rw [←hlc];exact HW2.out.blk.cell 10
 clear hlc
 by_cases hi:Eo x.a (C8 m f).size=true
 ·have HI: ∀w,Calls prog 180 #[.int .i64 x.a,.int .i64 ((C8 m f).size:Int)] w fun e w'=>w=w'∧e= .returned (.bool true):=fun w=>by
   have:=JI x.a (C8 m f).size w hn hl
   rw [hi] at this;exact this
  have HI:=AA HI
  obtain⟨k,hk,hkl⟩:=Fw hi
  have HL2:Hid (Bf m f x=((C8 m f).extract k (k+1),0)):=AA (by rw [HL.out,if_pos hi,hk];rfl)
  rw [hk] at c1 HI
  have hk0:(0:Int)≤k:=by omega
  have hk1:(k:Int)+1≤(C8 m f).size:=by omega
  have hk2:(0:Int)≤(k:Int)+1:=by omega
  have hk3:((k:Int)+1).toNat=k+1:=by omega
  have hwr:IntKind.i64.wrap ((k:Int)+1)=(k:Int)+1:=IntWalk.i64_in _ (by omega)
  have hsl:=bI (C8 m f) k (k+1) (k:Int) ((k:Int)+1) rfl (by omega) (by omega) (by omega)
  clear hi hk hn
  go_wp2_with fail
  go_quiet ((go_at_call 180;first | exact Bp (HI.out _) | exact Bj (HI.out _)))
  go_wp2_with fail
  go_quiet (fail)
  go_wp2_with fail
  go_ret2
  rw [HL2.out]
  exact⟨rfl,below_drewN (below_drewN HB2.out _) _⟩
 ·have HI: ∀w,Calls prog 180 #[.int .i64 x.a,.int .i64 ((C8 m f).size:Int)] w fun e w'=>w=w'∧e= .returned (.bool false):=fun w=>by
   have:=JI x.a (C8 m f).size w hn hl
   rw [Bool.eq_false_iff.2 hi] at this;exact this
  have HI:=AA HI
  have HL2:Hid (Bf m f x=(Di,30)):=AA (by rw [HL.out,if_neg hi])
  clear hi hn
  go_wp2_with fail
  go_quiet ((go_at_call 180;first | exact Bp (HI.out _) | exact Bj (HI.out _)))
  go_wp2_with fail
  go_ret2
  rw [HL2.out]
  exact⟨rfl,below_drewN HB2.out _⟩
theorem Oa (x:Ad) (v:Value) (w:World) (h:D7 w h1 g y m f c vF vS fl sh) (h21:x.op.toNat=21∨x.op.toNat=22) (hn: -9223372036854775808≤x.a∧x.a<9223372036854775808):
 Calls prog 148 #[.pointer (some ⟨g,0,none⟩),.agg #[.int .u8 (x.op.toNat:Int),.int .i64 x.a,v]] w fun e w'=>e= .returned (.tuple #[.string (Bf m f x).1,.int .i64 (Bf m f x).2])∧Below w.heap.size w w':=by
 have H:=AA h
 have HT:Hid (∀w,Calls prog 179 #[.int .u8 (x.op.toNat:Int)] w fun e w'=>Below w.heap.size w w'∧e= .returned (.int .i8 7)):=AA (fun w=>by
  rcases h21 with e | e
  ·exact II e (by decide) (by kernel_rfl) w
  ·exact II e (by decide) (by kernel_rfl) w)
 have HL:Hid (Bf m f x=match (if 0≤x.a then m.globs[x.a.toNat]? else none)with
  | none=>(Di,30)
  | some g=>if x.op.toNat=22∧g.m=false then(Di,39) else(⟨#[g.l]⟩,0)):=AA (by unfold Bf;rw [if_neg (by omega)];rfl)
 have hg0:g<w.heap.size:=Nat.lt_of_lt_of_le h.gh h.hh
 have hng:m.globs.length≤64:=h.md.ok.ng
 obtain⟨v1,v2,v3,v4,v5,v6,e,_,_,h2,_⟩:=Av.1 h.md.rd
 injection e with e0 e;injection e with e1 e;injection e with e2 e
 obtain⟨A2,c2,rfl⟩:=AJ h2
 have HG:=AA h2
 have hcg:w.cell? ⟨g,2,none⟩=some (.slice A2 m.globs.length c2):=(h.blk.cell 2).trans (by rw [←e2];rfl)
 clear h h2 e0 e1 e2 e
 go_enter func148,ntmps148
 go_upto_region 1 with fail
 generalize hw1:w.alloc (.cells #[.int .u8 (x.op.toNat:Int),.int .i64 x.a,v] 122)=w1
 have HB1:Hid (Below w.heap.size w w1):=AA (by rw [←hw1];exact(Below.refl _ _).alloc (Nat.le_refl _) _)
 have CS:Hid (AQ w1 w.heap.size 122 [.int .u8 (x.op.toNat:Int),.int .i64 x.a,v]):=AA (by rw [←hw1];exact AQ.new w 122 _)
 have c0:=CS.out.q 0 rfl
 clear hw1
 go_wp2_with fail
 refine(HT.out w1).mono ?_
 rintro e w2 ⟨hb2,rfl⟩
 have HB2:Hid (Below w.heap.size w w2):=AA (HB1.out.trans (hb2.mono HB1.out.size))
 have Bq:=AA (CS.out.below hb2 CS.out.lt)
 clear hb2 c0
 have c0:=Bq.out.q 0 rfl
 have c1:=Bq.out.q 1 rfl
 have c2':w2.cell? ⟨g,2,none⟩=some (.slice A2 m.globs.length c2):=(HB2.out.cell hg0 (p:=⟨g,2,none⟩)).trans hcg
 clear hcg
 by_cases hi:Eo x.a m.globs.length=true
 ·have HI: ∀w,Calls prog 180 #[.int .i64 x.a,.int .i64 (m.globs.length:Int)] w fun e w'=>w=w'∧e= .returned (.bool true):=fun w=>by
   have:=JI x.a m.globs.length w hn (by omega)
   rw [hi] at this;exact this
  have HI:=AA HI
  obtain⟨k,hk,hkl⟩:=Fw hi
  obtain⟨gl,hgl⟩: ∃gl,m.globs[k]?=some gl:=⟨_,List.getElem?_eq_getElem hkl⟩
  obtain⟨bg,og,eA,_,hbg,hg0',hg1,hg2,_⟩:=Hw HG.out hgl
  subst eA
  have HL2:Hid (Bf m f x=if x.op.toNat=22∧gl.m=false then(Di,39) else(⟨#[gl.l]⟩,0)):=AA (by rw [HL.out,hk,if_pos (by omega)];simp only [Int.toNat_natCast,hgl])
  have HK:=AA hk
  rw [hk] at c1 HI
  have hk0:(0:Int)≤k:=by omega
  have hk1:(k:Int)<m.globs.length:=by omega
  have g0:w2.cell? ⟨bg,og+k*3,none⟩=some (.int .u8 (gl.l.toNat:Int)):=(HB2.out.cell (by simp;omega) (p:=⟨bg,og+k*3,none⟩)).trans hg0'
  have g1:w2.cell? ⟨bg,og+k*3+1,none⟩=some (.bool gl.m):=(HB2.out.cell (by simp;omega) (p:=⟨bg,og+k*3+1,none⟩)).trans hg1
  have g2:w2.cell? ⟨bg,og+k*3+2,none⟩=some (.int .u64 (gl.v:Int)):=(HB2.out.cell (by simp;omega) (p:=⟨bg,og+k*3+2,none⟩)).trans hg2
  clear hi hk hn hgl hg0' hg1 hg2 hkl
  go_wp2_with fail
  go_quiet ((go_at_call 180;first | exact Bp (HI.out _) | exact Bj (HI.out _)))
  go_wp2_with fail
  generalize hw3:w2.drewN _=w3
  have HB3:Hid (Below w.heap.size w w3):=AA (by rw [←hw3];exact below_drewN HB2.out _)
  have Nq:Hid (AQ w3 w.heap.size 122 [.int .u8 (x.op.toNat:Int),.int .i64 k,v]):=AA (by rw [←hw3,←HK.out];exact Bq.out.drewN _)
  have c0:=Nq.out.q 0 rfl
  have c1:=Nq.out.q 1 rfl
  have c2':w3.cell? ⟨g,2,none⟩=some (.slice (some ⟨bg,og,none⟩) m.globs.length c2):=by rw [←hw3];exact c2'
  have g0:w3.cell? ⟨bg,og+k*3,none⟩=some (.int .u8 (gl.l.toNat:Int)):=by rw [←hw3];exact g0
  have g1:w3.cell? ⟨bg,og+k*3+1,none⟩=some (.bool gl.m):=by rw [←hw3];exact g1
  have g2:w3.cell? ⟨bg,og+k*3+2,none⟩=some (.int .u64 (gl.v:Int)):=by rw [←hw3];exact g2
  have hz:w.heap.size<w3.heap.size:=Nq.out.lt
  have l2:g<w3.heap.size:=by omega
  have l3:bg<w3.heap.size:=by omega
  have n1:w.heap.size≠w3.heap.size:=by omega
  have n2:g≠w3.heap.size:=by omega
  have n3:bg≠w3.heap.size:=by omega
  clear hw3
  go_region_held3 (fun W=>W.cell? ⟨w.heap.size,1,none⟩=some (.int .i64 k)∧W.cell? ⟨g,2,none⟩=some (.slice (some ⟨bg,og,none⟩) m.globs.length c2)∧W.cell? ⟨bg,og+k*3,none⟩=some (.int .u8 (gl.l.toNat:Int))∧W.cell? ⟨bg,og+k*3+1,none⟩=some (.bool gl.m)∧W.cell? ⟨bg,og+k*3+2,none⟩=some (.int .u64 (gl.v:Int))) (go_keep) (fail)
  generalize hw4:World.drew (w3.alloc (.cells #[.int .u8 (gl.l.toNat:Int),.bool gl.m,.int .u64 (gl.v:Int)] 139))=w4
  have Ct:Hid (Below w3.heap.size w3 w4):=AA (by rw [←hw4];exact below_drewN ((Below.refl _ _).alloc (Nat.le_refl _) _) 1)
  have Ob:Hid (AQ w4 w3.heap.size 139 [.int .u8 (gl.l.toNat:Int),.bool gl.m,.int .u64 (gl.v:Int)]):=AA (by rw [←hw4];exact(AQ.new w3 139 _).drewN 1)
  have HI4:=AA (Nq.out.below Ct.out Nq.out.lt)
  clear hw4 c0 c1 c2' g0 g1 g2 l2 l3 n1 n2 n3
  have c0:=HI4.out.q 0 rfl
  have e0:=Ob.out.q 0 rfl
  have e1:=Ob.out.q 1 rfl
  have Dv:Hid (Below w.heap.size w w4):=AA (HB3.out.trans (Ct.out.mono HB3.out.size))
  have hcv:(convert 40 9 (.slice (some ⟨w4.heap.size,0,none⟩) 1 1)).run prog (w4.alloc (.cells #[.int .u8 (gl.l.toNat:Int)] 5))= .ok (.string ⟨#[gl.l]⟩) (w4.alloc (.cells #[.int .u8 (gl.l.toNat:Int)] 5)):=
   NJ _ _ _ underlying40 underlying5 underlying9 _ _ _ 1 1 [gl.l] rfl (row_one w4 _ _)
  by_cases h22:x.op.toNat=22
  ·have q:((x.op.toNat:Int)==22)=true:=by simp;omega
   cases hgm:gl.m with
   | false=>
    have oK:Hid (Bf m f x=(Di,39)):=AA (by rw [HL2.out,if_pos ⟨h22,hgm⟩])
    rw [hgm] at e1
    clear hgm h22
    go_wp2_with fail
    go_ret2
    rw [oK.out]
    exact⟨rfl,Dv.out⟩
   | true=>
    have oK:Hid (Bf m f x=(⟨#[gl.l]⟩,0)):=AA (by rw [HL2.out,if_neg (by rw [hgm];simp)])
    rw [hgm] at e1
    clear hgm h22
    go_wp2_with fail
    go_ret2
    rw [oK.out]
    exact⟨rfl,Dv.out.alloc Dv.out.size _⟩
  ·have q:((x.op.toNat:Int)==22)=false:=by simp;omega
   have oK:Hid (Bf m f x=(⟨#[gl.l]⟩,0)):=AA (by rw [HL2.out,if_neg (by omega)])
   clear h22
   go_wp2_with fail
   go_ret2
   rw [oK.out]
   exact⟨rfl,Dv.out.alloc Dv.out.size _⟩
 ·have HI: ∀w,Calls prog 180 #[.int .i64 x.a,.int .i64 (m.globs.length:Int)] w fun e w'=>w=w'∧e= .returned (.bool false):=fun w=>by
   have:=JI x.a m.globs.length w hn (by omega)
   rw [Bool.eq_false_iff.2 hi] at this;exact this
  have HI:=AA HI
  have HL2:Hid (Bf m f x=(Di,30)):=AA (by
   rw [HL.out]
   by_cases h0:0≤x.a
   ·rw [if_pos h0,List.getElem?_eq_none (by
     by_cases hh:m.globs.length≤x.a.toNat
     ·exact hh
     ·exact absurd (decide_eq_true (p:=0≤x.a∧x.a<m.globs.length) (by omega)) hi)]
   ·rw [if_neg h0])
  clear hi hn
  go_wp2_with fail
  go_quiet ((go_at_call 180;first | exact Bp (HI.out _) | exact Bj (HI.out _)))
  go_wp2_with fail
  go_ret2
  rw [HL2.out]
  exact⟨rfl,below_drewN HB2.out _⟩
end
end Go.Proofs.YtlagonfamllgjaaGreatDoor
