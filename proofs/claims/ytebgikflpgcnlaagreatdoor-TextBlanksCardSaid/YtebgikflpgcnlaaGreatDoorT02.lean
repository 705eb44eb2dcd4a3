/- Part 2 of the proof: Dat App -/
import Derived.Maps.AppendAt
import Derived.Lib.ConvBytes
import Derived.Test.YtebgikflpgcnlaaGreatDoorT01
namespace Go.Proofs.YtebgikflpgcnlaaGreatDoor
set_option linter.unusedVariables false
set_option linter.unusedSimpArgs false
set_option maxRecDepth 100000
set_option maxHeartbeats 4000000
open Go.RowKit
theorem sl_at {α:Type} {r:Rd α} {sp:Bool} {W:World} {lo hi:Nat} {A:Option Addr} {n c:Nat} {xs:List α} (h:(r.sl sp).R W lo hi [.slice A n c] xs) {k:Nat} {x:α} (hk:xs[k]?=some x):
 ∃b o,A=some ⟨b,o,none⟩∧lo≤b∧b<hi∧ ∃cs,(∀(j:Nat) u,cs[j]?=some u→W.cell? ⟨b,o+k*r.z+j,none⟩=some u)∧r.R W lo hi cs x:=by
 obtain⟨A',c',he,_,h⟩:=h
 injection he with he _
 injection he with h1 h2 h3
 subst h1 h2
 have hlt:=(List.getElem?_eq_some_iff.1 hk).1
 obtain⟨b,o,e,hlo,hhi,hx⟩:=h (by omega)
 obtain⟨cs,hc,hr⟩:=hx k x hk
 exact⟨b,o,e,hlo,hhi,cs,hc,hr⟩
theorem sl_len {α:Type} {r:Rd α} {sp:Bool} {W:World} {lo hi:Nat} {A:Option Addr} {n c:Nat} {xs:List α} (h:(r.sl sp).R W lo hi [.slice A n c] xs):n=xs.length:=by
 obtain⟨A',c',he,_⟩:=h
 injection he with he _
 injection he with h1 h2 h3
theorem sl_nil {α:Type} {r:Rd α} {W:World} {lo hi:Nat} {A:Option Addr} {c:Nat}:(r.sl false).R W lo hi [.slice A 0 c] []:=⟨A,c,rfl,⟨fun h=>(by cases h),Nat.zero_le _⟩,fun h=>absurd h (by simp)⟩
theorem sl_form {α:Type} {r:Rd α} {sp:Bool} {W:World} {lo hi:Nat} {v:Value} {xs:List α} (h:(r.sl sp).R W lo hi [v] xs): ∃A c,v= .slice A xs.length c:=by
 obtain⟨A,c,he,_⟩:=h
 injection he with he _
 exact⟨A,c,he⟩
theorem sl_one {α:Type} {r:Rd α} {sp:Bool} {W:World} {lo hi:Nat} {cs:List Value} {xs:List α} (h:(r.sl sp).R W lo hi cs xs): ∃v,cs= [v]∧(r.sl sp).R W lo hi [v] xs:=by
 have h0:=h
 obtain⟨A,c,he,_⟩:=h0
 exact⟨_,he,he▸h⟩
structure SigV where
 p:ByteArray
 r:ByteArray
def rSig:Rd SigV:=(Rd.str.pair (Rd.str.pair Rd.unit)).via (fun x=>(x.p,x.r,()))
theorem rSig_iff {W:World} {lo hi:Nat} {cs:List Value} {x:SigV}:rSig.R W lo hi cs x↔cs= [Value.string x.p,Value.string x.r]∧Rd.SOk x.p∧Rd.SOk x.r:=by
 constructor
 ·rintro⟨c_p,r_p,rfl,h_p,⟨c_r,r_r,rfl,h_r,rfl⟩⟩
  obtain⟨rfl,h_p⟩:=h_p
  obtain⟨rfl,h_r⟩:=h_r
  exact⟨rfl,h_p,h_r⟩
 ·rintro⟨rfl,h_p,h_r⟩
  exact⟨[Value.string x.p],[Value.string x.r],rfl,⟨rfl,h_p⟩,⟨[Value.string x.r],[],rfl,⟨rfl,h_r⟩,rfl⟩⟩
theorem rSig_at {sp:Bool} {W:World} {lo hi:Nat} {A:Option Addr} {n c:Nat} {xs:List SigV} (h:(rSig.sl sp).R W lo hi [.slice A n c] xs) {k:Nat} {x:SigV} (hk:xs[k]?=some x):
 ∃(b o:Nat),A=some ⟨b,o,none⟩∧lo≤b∧b<hi∧W.cell? ⟨b,o+k*2,none⟩=some (.string x.p)∧W.cell? ⟨b,o+k*2+1,none⟩=some (.string x.r)∧Rd.SOk x.p∧Rd.SOk x.r:=by
 obtain⟨b,o,e,h1,h2,cs,hc,hr⟩:=sl_at h hk
 obtain⟨rfl,h_p,h_r⟩:=rSig_iff.1 hr
 exact⟨b,o,e,h1,h2,hc 0 _ rfl,hc 1 _ rfl,h_p,h_r⟩
structure GlobV where
 l:UInt8
 m:Bool
 v:Nat
def rGlob:Rd GlobV:=(Rd.u8.pair (Rd.bool.pair (Rd.u64.pair Rd.unit))).via (fun x=>(x.l,x.m,x.v,()))
theorem rGlob_iff {W:World} {lo hi:Nat} {cs:List Value} {x:GlobV}:rGlob.R W lo hi cs x↔cs= [bv x.l,Value.bool x.m,uv x.v]∧Rd.B64 x.v:=by
 constructor
 ·rintro⟨c_l,r_l,rfl,h_l,⟨c_m,r_m,rfl,h_m,⟨c_v,r_v,rfl,h_v,rfl⟩⟩⟩
  obtain⟨rfl,_⟩:=h_l
  obtain⟨rfl,_⟩:=h_m
  obtain⟨rfl,h_v⟩:=h_v
  exact⟨rfl,h_v⟩
 ·rintro⟨rfl,h_v⟩
  exact⟨[bv x.l],[Value.bool x.m,uv x.v],rfl,⟨rfl,trivial⟩,⟨[Value.bool x.m],[uv x.v],rfl,⟨rfl,trivial⟩,⟨[uv x.v],[],rfl,⟨rfl,h_v⟩,rfl⟩⟩⟩
theorem rGlob_at {sp:Bool} {W:World} {lo hi:Nat} {A:Option Addr} {n c:Nat} {xs:List GlobV} (h:(rGlob.sl sp).R W lo hi [.slice A n c] xs) {k:Nat} {x:GlobV} (hk:xs[k]?=some x):
 ∃(b o:Nat),A=some ⟨b,o,none⟩∧lo≤b∧b<hi∧W.cell? ⟨b,o+k*3,none⟩=some (.int .u8 (x.l.toNat:Int))∧W.cell? ⟨b,o+k*3+1,none⟩=some (.bool x.m)∧W.cell? ⟨b,o+k*3+2,none⟩=some (.int .u64 (x.v:Int))∧Rd.B64 x.v:=by
 obtain⟨b,o,e,h1,h2,cs,hc,hr⟩:=sl_at h hk
 obtain⟨rfl,h_v⟩:=rGlob_iff.1 hr
 exact⟨b,o,e,h1,h2,hc 0 _ rfl,hc 1 _ rfl,hc 2 _ rfl,h_v⟩
structure InsV where
 op:UInt8
 a:Int
 l:List Int
def rIns:Rd InsV:=(Rd.u8.pair (Rd.i64.pair ((Rd.i64.sl false).pair Rd.unit))).via (fun x=>(x.op,x.a,x.l,()))
theorem rIns_iff {W:World} {lo hi:Nat} {cs:List Value} {x:InsV}:rIns.R W lo hi cs x↔ ∃v_l:Value,cs= [bv x.op,Value.int .i64 x.a,v_l]∧Rd.B63 x.a∧(Rd.i64.sl false).R W lo hi [v_l] x.l:=by
 constructor
 ·rintro⟨c_op,r_op,rfl,h_op,⟨c_a,r_a,rfl,h_a,⟨c_l,r_l,rfl,h_l,rfl⟩⟩⟩
  obtain⟨rfl,_⟩:=h_op
  obtain⟨rfl,h_a⟩:=h_a
  obtain⟨v_l,rfl,h_l⟩:=sl_one h_l
  exact⟨v_l,rfl,h_a,h_l⟩
 ·rintro⟨v_l,rfl,h_a,h_l⟩
  exact⟨[bv x.op],[Value.int .i64 x.a,v_l],rfl,⟨rfl,trivial⟩,⟨[Value.int .i64 x.a],[v_l],rfl,⟨rfl,h_a⟩,⟨[v_l],[],rfl,h_l,rfl⟩⟩⟩
theorem rIns_at {sp:Bool} {W:World} {lo hi:Nat} {A:Option Addr} {n c:Nat} {xs:List InsV} (h:(rIns.sl sp).R W lo hi [.slice A n c] xs) {k:Nat} {x:InsV} (hk:xs[k]?=some x):
 ∃(b o:Nat) (A_l:Option Addr) (c_l:Nat),A=some ⟨b,o,none⟩∧lo≤b∧b<hi∧W.cell? ⟨b,o+k*3,none⟩=some (.int .u8 (x.op.toNat:Int))∧W.cell? ⟨b,o+k*3+1,none⟩=some (.int .i64 x.a)∧W.cell? ⟨b,o+k*3+2,none⟩=some (.slice A_l x.l.length c_l)∧Rd.B63 x.a∧(Rd.i64.sl false).R W lo hi [.slice A_l x.l.length c_l] x.l:=by
 obtain⟨b,o,e,h1,h2,cs,hc,hr⟩:=sl_at h hk
 obtain⟨v_l,rfl,h_a,h_l⟩:=rIns_iff.1 hr
 obtain⟨A_l,c_l,rfl⟩:=sl_form h_l
 exact⟨b,o,A_l,c_l,e,h1,h2,hc 0 _ rfl,hc 1 _ rfl,hc 2 _ rfl,h_a,h_l⟩
structure FnV where
 t:Int
 loc:ByteArray
 code:List InsV
def rFn:Rd FnV:=(Rd.i64.pair (Rd.str.pair ((rIns.sl false).pair Rd.unit))).via (fun x=>(x.t,x.loc,x.code,()))
theorem rFn_iff {W:World} {lo hi:Nat} {cs:List Value} {x:FnV}:rFn.R W lo hi cs x↔ ∃v_code:Value,cs= [Value.int .i64 x.t,Value.string x.loc,v_code]∧Rd.B63 x.t∧Rd.SOk x.loc∧(rIns.sl false).R W lo hi [v_code] x.code:=by
 constructor
 ·rintro⟨c_t,r_t,rfl,h_t,⟨c_loc,r_loc,rfl,h_loc,⟨c_code,r_code,rfl,h_code,rfl⟩⟩⟩
  obtain⟨rfl,h_t⟩:=h_t
  obtain⟨rfl,h_loc⟩:=h_loc
  obtain⟨v_code,rfl,h_code⟩:=sl_one h_code
  exact⟨v_code,rfl,h_t,h_loc,h_code⟩
 ·rintro⟨v_code,rfl,h_t,h_loc,h_code⟩
  exact⟨[Value.int .i64 x.t],[Value.string x.loc,v_code],rfl,⟨rfl,h_t⟩,⟨[Value.string x.loc],[v_code],rfl,⟨rfl,h_loc⟩,⟨[v_code],[],rfl,h_code,rfl⟩⟩⟩
theorem rFn_at {sp:Bool} {W:World} {lo hi:Nat} {A:Option Addr} {n c:Nat} {xs:List FnV} (h:(rFn.sl sp).R W lo hi [.slice A n c] xs) {k:Nat} {x:FnV} (hk:xs[k]?=some x):
 ∃(b o:Nat) (A_code:Option Addr) (c_code:Nat),A=some ⟨b,o,none⟩∧lo≤b∧b<hi∧W.cell? ⟨b,o+k*3,none⟩=some (.int .i64 x.t)∧W.cell? ⟨b,o+k*3+1,none⟩=some (.string x.loc)∧W.cell? ⟨b,o+k*3+2,none⟩=some (.slice A_code x.code.length c_code)∧Rd.B63 x.t∧Rd.SOk x.loc∧(rIns.sl false).R W lo hi [.slice A_code x.code.length c_code] x.code:=by
 obtain⟨b,o,e,h1,h2,cs,hc,hr⟩:=sl_at h hk
 obtain⟨v_code,rfl,h_t,h_loc,h_code⟩:=rFn_iff.1 hr
 obtain⟨A_code,c_code,rfl⟩:=sl_form h_code
 exact⟨b,o,A_code,c_code,e,h1,h2,hc 0 _ rfl,hc 1 _ rfl,hc 2 _ rfl,h_t,h_loc,h_code⟩
structure DatV where
 at_:Int
 b:List UInt8
def rDat:Rd DatV:=(Rd.i64.pair ((Rd.u8.sl false).pair Rd.unit)).via (fun x=>(x.at_,x.b,()))
theorem rDat_iff {W:World} {lo hi:Nat} {cs:List Value} {x:DatV}:rDat.R W lo hi cs x↔ ∃v_b:Value,cs= [Value.int .i64 x.at_,v_b]∧Rd.B63 x.at_∧(Rd.u8.sl false).R W lo hi [v_b] x.b:=by
 constructor
 ·rintro⟨c_at_,r_at_,rfl,h_at_,⟨c_b,r_b,rfl,h_b,rfl⟩⟩
  obtain⟨rfl,h_at_⟩:=h_at_
  obtain⟨v_b,rfl,h_b⟩:=sl_one h_b
  exact⟨v_b,rfl,h_at_,h_b⟩
 ·rintro⟨v_b,rfl,h_at_,h_b⟩
  exact⟨[Value.int .i64 x.at_],[v_b],rfl,⟨rfl,h_at_⟩,⟨[v_b],[],rfl,h_b,rfl⟩⟩
theorem rDat_at {sp:Bool} {W:World} {lo hi:Nat} {A:Option Addr} {n c:Nat} {xs:List DatV} (h:(rDat.sl sp).R W lo hi [.slice A n c] xs) {k:Nat} {x:DatV} (hk:xs[k]?=some x):
 ∃(b o:Nat) (A_b:Option Addr) (c_b:Nat),A=some ⟨b,o,none⟩∧lo≤b∧b<hi∧W.cell? ⟨b,o+k*2,none⟩=some (.int .i64 x.at_)∧W.cell? ⟨b,o+k*2+1,none⟩=some (.slice A_b x.b.length c_b)∧Rd.B63 x.at_∧(Rd.u8.sl false).R W lo hi [.slice A_b x.b.length c_b] x.b:=by
 obtain⟨b,o,e,h1,h2,cs,hc,hr⟩:=sl_at h hk
 obtain⟨v_b,rfl,h_at_,h_b⟩:=rDat_iff.1 hr
 obtain⟨A_b,c_b,rfl⟩:=sl_form h_b
 exact⟨b,o,A_b,c_b,e,h1,h2,hc 0 _ rfl,hc 1 _ rfl,h_at_,h_b⟩
structure ExpV where
 n:ByteArray
 f:Int
def rExp:Rd ExpV:=(Rd.str.pair (Rd.i64.pair Rd.unit)).via (fun x=>(x.n,x.f,()))
theorem rExp_iff {W:World} {lo hi:Nat} {cs:List Value} {x:ExpV}:rExp.R W lo hi cs x↔cs= [Value.string x.n,Value.int .i64 x.f]∧Rd.SOk x.n∧Rd.B63 x.f:=by
 constructor
 ·rintro⟨c_n,r_n,rfl,h_n,⟨c_f,r_f,rfl,h_f,rfl⟩⟩
  obtain⟨rfl,h_n⟩:=h_n
  obtain⟨rfl,h_f⟩:=h_f
  exact⟨rfl,h_n,h_f⟩
 ·rintro⟨rfl,h_n,h_f⟩
  exact⟨[Value.string x.n],[Value.int .i64 x.f],rfl,⟨rfl,h_n⟩,⟨[Value.int .i64 x.f],[],rfl,⟨rfl,h_f⟩,rfl⟩⟩
theorem rExp_at {sp:Bool} {W:World} {lo hi:Nat} {A:Option Addr} {n c:Nat} {xs:List ExpV} (h:(rExp.sl sp).R W lo hi [.slice A n c] xs) {k:Nat} {x:ExpV} (hk:xs[k]?=some x):
 ∃(b o:Nat),A=some ⟨b,o,none⟩∧lo≤b∧b<hi∧W.cell? ⟨b,o+k*2,none⟩=some (.string x.n)∧W.cell? ⟨b,o+k*2+1,none⟩=some (.int .i64 x.f)∧Rd.SOk x.n∧Rd.B63 x.f:=by
 obtain⟨b,o,e,h1,h2,cs,hc,hr⟩:=sl_at h hk
 obtain⟨rfl,h_n,h_f⟩:=rExp_iff.1 hr
 exact⟨b,o,e,h1,h2,hc 0 _ rfl,hc 1 _ rfl,h_n,h_f⟩
structure ModV where
 types:List SigV
 hosts:List Int
 globs:List GlobV
 first:Int
 most:Int
 fns:List FnV
 dat:List DatV
 exps:List ExpV
def rMod:Rd ModV:=((rSig.sl false).pair ((Rd.i64.sl false).pair ((rGlob.sl false).pair (Rd.i64.pair (Rd.i64.pair ((rFn.sl false).pair ((rDat.sl false).pair ((rExp.sl false).pair Rd.unit)))))))).via (fun x=>(x.types,x.hosts,x.globs,x.first,x.most,x.fns,x.dat,x.exps,()))
theorem rMod_iff {W:World} {lo hi:Nat} {cs:List Value} {x:ModV}:rMod.R W lo hi cs x↔ ∃v_types v_hosts v_globs v_fns v_dat v_exps:Value,cs= [v_types,v_hosts,v_globs,Value.int .i64 x.first,Value.int .i64 x.most,v_fns,v_dat,v_exps]∧(rSig.sl false).R W lo hi [v_types] x.types∧(Rd.i64.sl false).R W lo hi [v_hosts] x.hosts∧(rGlob.sl false).R W lo hi [v_globs] x.globs∧Rd.B63 x.first∧Rd.B63 x.most∧(rFn.sl false).R W lo hi [v_fns] x.fns∧(rDat.sl false).R W lo hi [v_dat] x.dat∧(rExp.sl false).R W lo hi [v_exps] x.exps:=by
 constructor
 ·rintro⟨c_types,r_types,rfl,h_types,⟨c_hosts,r_hosts,rfl,h_hosts,⟨c_globs,r_globs,rfl,h_globs,⟨c_first,r_first,rfl,h_first,⟨c_most,r_most,rfl,h_most,⟨c_fns,r_fns,rfl,h_fns,⟨c_dat,r_dat,rfl,h_dat,⟨c_exps,r_exps,rfl,h_exps,rfl⟩⟩⟩⟩⟩⟩⟩⟩
  obtain⟨v_types,rfl,h_types⟩:=sl_one h_types
  obtain⟨v_hosts,rfl,h_hosts⟩:=sl_one h_hosts
  obtain⟨v_globs,rfl,h_globs⟩:=sl_one h_globs
  obtain⟨rfl,h_first⟩:=h_first
  obtain⟨rfl,h_most⟩:=h_most
  obtain⟨v_fns,rfl,h_fns⟩:=sl_one h_fns
  obtain⟨v_dat,rfl,h_dat⟩:=sl_one h_dat
  obtain⟨v_exps,rfl,h_exps⟩:=sl_one h_exps
  exact⟨v_types,v_hosts,v_globs,v_fns,v_dat,v_exps,rfl,h_types,h_hosts,h_globs,h_first,h_most,h_fns,h_dat,h_exps⟩
 ·rintro⟨v_types,v_hosts,v_globs,v_fns,v_dat,v_exps,rfl,h_types,h_hosts,h_globs,h_first,h_most,h_fns,h_dat,h_exps⟩
  exact⟨[v_types],[v_hosts,v_globs,Value.int .i64 x.first,Value.int .i64 x.most,v_fns,v_dat,v_exps],rfl,h_types,⟨[v_hosts],[v_globs,Value.int .i64 x.first,Value.int .i64 x.most,v_fns,v_dat,v_exps],rfl,h_hosts,⟨[v_globs],[Value.int .i64 x.first,Value.int .i64 x.most,v_fns,v_dat,v_exps],rfl,h_globs,⟨[Value.int .i64 x.first],[Value.int .i64 x.most,v_fns,v_dat,v_exps],rfl,⟨rfl,h_first⟩,⟨[Value.int .i64 x.most],[v_fns,v_dat,v_exps],rfl,⟨rfl,h_most⟩,⟨[v_fns],[v_dat,v_exps],rfl,h_fns,⟨[v_dat],[v_exps],rfl,h_dat,⟨[v_exps],[],rfl,h_exps,rfl⟩⟩⟩⟩⟩⟩⟩⟩
theorem rMod_at {sp:Bool} {W:World} {lo hi:Nat} {A:Option Addr} {n c:Nat} {xs:List ModV} (h:(rMod.sl sp).R W lo hi [.slice A n c] xs) {k:Nat} {x:ModV} (hk:xs[k]?=some x):
 ∃(b o:Nat) (A_types:Option Addr) (c_types:Nat) (A_hosts:Option Addr) (c_hosts:Nat) (A_globs:Option Addr) (c_globs:Nat) (A_fns:Option Addr) (c_fns:Nat) (A_dat:Option Addr) (c_dat:Nat) (A_exps:Option Addr) (c_exps:Nat),A=some ⟨b,o,none⟩∧lo≤b∧b<hi∧W.cell? ⟨b,o+k*8,none⟩=some (.slice A_types x.types.length c_types)∧W.cell? ⟨b,o+k*8+1,none⟩=some (.slice A_hosts x.hosts.length c_hosts)∧W.cell? ⟨b,o+k*8+2,none⟩=some (.slice A_globs x.globs.length c_globs)∧W.cell? ⟨b,o+k*8+3,none⟩=some (.int .i64 x.first)∧W.cell? ⟨b,o+k*8+4,none⟩=some (.int .i64 x.most)∧W.cell? ⟨b,o+k*8+5,none⟩=some (.slice A_fns x.fns.length c_fns)∧W.cell? ⟨b,o+k*8+6,none⟩=some (.slice A_dat x.dat.length c_dat)∧W.cell? ⟨b,o+k*8+7,none⟩=some (.slice A_exps x.exps.length c_exps)∧(rSig.sl false).R W lo hi [.slice A_types x.types.length c_types] x.types∧(Rd.i64.sl false).R W lo hi [.slice A_hosts x.hosts.length c_hosts] x.hosts∧(rGlob.sl false).R W lo hi [.slice A_globs x.globs.length c_globs] x.globs∧Rd.B63 x.first∧Rd.B63 x.most∧(rFn.sl false).R W lo hi [.slice A_fns x.fns.length c_fns] x.fns∧(rDat.sl false).R W lo hi [.slice A_dat x.dat.length c_dat] x.dat∧(rExp.sl false).R W lo hi [.slice A_exps x.exps.length c_exps] x.exps:=by
 obtain⟨b,o,e,h1,h2,cs,hc,hr⟩:=sl_at h hk
 obtain⟨v_types,v_hosts,v_globs,v_fns,v_dat,v_exps,rfl,h_types,h_hosts,h_globs,h_first,h_most,h_fns,h_dat,h_exps⟩:=rMod_iff.1 hr
 obtain⟨A_types,c_types,rfl⟩:=sl_form h_types
 obtain⟨A_hosts,c_hosts,rfl⟩:=sl_form h_hosts
 obtain⟨A_globs,c_globs,rfl⟩:=sl_form h_globs
 obtain⟨A_fns,c_fns,rfl⟩:=sl_form h_fns
 obtain⟨A_dat,c_dat,rfl⟩:=sl_form h_dat
 obtain⟨A_exps,c_exps,rfl⟩:=sl_form h_exps
 exact⟨b,o,A_types,c_types,A_hosts,c_hosts,A_globs,c_globs,A_fns,c_fns,A_dat,c_dat,A_exps,c_exps,e,h1,h2,hc 0 _ rfl,hc 1 _ rfl,hc 2 _ rfl,hc 3 _ rfl,hc 4 _ rfl,hc 5 _ rfl,hc 6 _ rfl,hc 7 _ rfl,h_types,h_hosts,h_globs,h_first,h_most,h_fns,h_dat,h_exps⟩
structure FrV where
 f:Int
 pc:Int
 loc:List Nat
 st:List Nat
def rFr:Rd FrV:=(Rd.i64.pair (Rd.i64.pair ((Rd.u64.sl false).pair ((Rd.u64.sl false).pair Rd.unit)))).via (fun x=>(x.f,x.pc,x.loc,x.st,()))
theorem rFr_iff {W:World} {lo hi:Nat} {cs:List Value} {x:FrV}:rFr.R W lo hi cs x↔ ∃v_loc v_st:Value,cs= [Value.int .i64 x.f,Value.int .i64 x.pc,v_loc,v_st]∧Rd.B63 x.f∧Rd.B63 x.pc∧(Rd.u64.sl false).R W lo hi [v_loc] x.loc∧(Rd.u64.sl false).R W lo hi [v_st] x.st:=by
 constructor
 ·rintro⟨c_f,r_f,rfl,h_f,⟨c_pc,r_pc,rfl,h_pc,⟨c_loc,r_loc,rfl,h_loc,⟨c_st,r_st,rfl,h_st,rfl⟩⟩⟩⟩
  obtain⟨rfl,h_f⟩:=h_f
  obtain⟨rfl,h_pc⟩:=h_pc
  obtain⟨v_loc,rfl,h_loc⟩:=sl_one h_loc
  obtain⟨v_st,rfl,h_st⟩:=sl_one h_st
  exact⟨v_loc,v_st,rfl,h_f,h_pc,h_loc,h_st⟩
 ·rintro⟨v_loc,v_st,rfl,h_f,h_pc,h_loc,h_st⟩
  exact⟨[Value.int .i64 x.f],[Value.int .i64 x.pc,v_loc,v_st],rfl,⟨rfl,h_f⟩,⟨[Value.int .i64 x.pc],[v_loc,v_st],rfl,⟨rfl,h_pc⟩,⟨[v_loc],[v_st],rfl,h_loc,⟨[v_st],[],rfl,h_st,rfl⟩⟩⟩⟩
theorem rFr_at {sp:Bool} {W:World} {lo hi:Nat} {A:Option Addr} {n c:Nat} {xs:List FrV} (h:(rFr.sl sp).R W lo hi [.slice A n c] xs) {k:Nat} {x:FrV} (hk:xs[k]?=some x):
 ∃(b o:Nat) (A_loc:Option Addr) (c_loc:Nat) (A_st:Option Addr) (c_st:Nat),A=some ⟨b,o,none⟩∧lo≤b∧b<hi∧W.cell? ⟨b,o+k*4,none⟩=some (.int .i64 x.f)∧W.cell? ⟨b,o+k*4+1,none⟩=some (.int .i64 x.pc)∧W.cell? ⟨b,o+k*4+2,none⟩=some (.slice A_loc x.loc.length c_loc)∧W.cell? ⟨b,o+k*4+3,none⟩=some (.slice A_st x.st.length c_st)∧Rd.B63 x.f∧Rd.B63 x.pc∧(Rd.u64.sl false).R W lo hi [.slice A_loc x.loc.length c_loc] x.loc∧(Rd.u64.sl false).R W lo hi [.slice A_st x.st.length c_st] x.st:=by
 obtain⟨b,o,e,h1,h2,cs,hc,hr⟩:=sl_at h hk
 obtain⟨v_loc,v_st,rfl,h_f,h_pc,h_loc,h_st⟩:=rFr_iff.1 hr
 obtain⟨A_loc,c_loc,rfl⟩:=sl_form h_loc
 obtain⟨A_st,c_st,rfl⟩:=sl_form h_st
 exact⟨b,o,A_loc,c_loc,A_st,c_st,e,h1,h2,hc 0 _ rfl,hc 1 _ rfl,hc 2 _ rfl,hc 3 _ rfl,h_f,h_pc,h_loc,h_st⟩
structure StV where
 frames:List FrV
 globs:List Nat
 pages:List (List UInt8)
 reps:Int
 end_:Int
 res:List Nat
 trap:Int
 used:Int
def rSt:Rd StV:=((rFr.sl false).pair ((Rd.u64.sl false).pair (((Rd.u8.sl false).sl false).pair (Rd.i64.pair (Rd.i8.pair ((Rd.u64.sl false).pair (Rd.i8.pair (Rd.i64.pair Rd.unit)))))))).via (fun x=>(x.frames,x.globs,x.pages,x.reps,x.end_,x.res,x.trap,x.used,()))
theorem rSt_iff {W:World} {lo hi:Nat} {cs:List Value} {x:StV}:rSt.R W lo hi cs x↔ ∃v_frames v_globs v_pages v_res:Value,cs= [v_frames,v_globs,v_pages,Value.int .i64 x.reps,Value.int .i8 x.end_,v_res,Value.int .i8 x.trap,Value.int .i64 x.used]∧(rFr.sl false).R W lo hi [v_frames] x.frames∧(Rd.u64.sl false).R W lo hi [v_globs] x.globs∧((Rd.u8.sl false).sl false).R W lo hi [v_pages] x.pages∧Rd.B63 x.reps∧Rd.B8 x.end_∧(Rd.u64.sl false).R W lo hi [v_res] x.res∧Rd.B8 x.trap∧Rd.B63 x.used:=by
 constructor
 ·rintro⟨c_frames,r_frames,rfl,h_frames,⟨c_globs,r_globs,rfl,h_globs,⟨c_pages,r_pages,rfl,h_pages,⟨c_reps,r_reps,rfl,h_reps,⟨c_end_,r_end_,rfl,h_end_,⟨c_res,r_res,rfl,h_res,⟨c_trap,r_trap,rfl,h_trap,⟨c_used,r_used,rfl,h_used,rfl⟩⟩⟩⟩⟩⟩⟩⟩
  obtain⟨v_frames,rfl,h_frames⟩:=sl_one h_frames
  obtain⟨v_globs,rfl,h_globs⟩:=sl_one h_globs
  obtain⟨v_pages,rfl,h_pages⟩:=sl_one h_pages
  obtain⟨rfl,h_reps⟩:=h_reps
  obtain⟨rfl,h_end_⟩:=h_end_
  obtain⟨v_res,rfl,h_res⟩:=sl_one h_res
  obtain⟨rfl,h_trap⟩:=h_trap
  obtain⟨rfl,h_used⟩:=h_used
  exact⟨v_frames,v_globs,v_pages,v_res,rfl,h_frames,h_globs,h_pages,h_reps,h_end_,h_res,h_trap,h_used⟩
 ·rintro⟨v_frames,v_globs,v_pages,v_res,rfl,h_frames,h_globs,h_pages,h_reps,h_end_,h_res,h_trap,h_used⟩
  exact⟨[v_frames],[v_globs,v_pages,Value.int .i64 x.reps,Value.int .i8 x.end_,v_res,Value.int .i8 x.trap,Value.int .i64 x.used],rfl,h_frames,⟨[v_globs],[v_pages,Value.int .i64 x.reps,Value.int .i8 x.end_,v_res,Value.int .i8 x.trap,Value.int .i64 x.used],rfl,h_globs,⟨[v_pages],[Value.int .i64 x.reps,Value.int .i8 x.end_,v_res,Value.int .i8 x.trap,Value.int .i64 x.used],rfl,h_pages,⟨[Value.int .i64 x.reps],[Value.int .i8 x.end_,v_res,Value.int .i8 x.trap,Value.int .i64 x.used],rfl,⟨rfl,h_reps⟩,⟨[Value.int .i8 x.end_],[v_res,Value.int .i8 x.trap,Value.int .i64 x.used],rfl,⟨rfl,h_end_⟩,⟨[v_res],[Value.int .i8 x.trap,Value.int .i64 x.used],rfl,h_res,⟨[Value.int .i8 x.trap],[Value.int .i64 x.used],rfl,⟨rfl,h_trap⟩,⟨[Value.int .i64 x.used],[],rfl,⟨rfl,h_used⟩,rfl⟩⟩⟩⟩⟩⟩⟩⟩
theorem rSt_at {sp:Bool} {W:World} {lo hi:Nat} {A:Option Addr} {n c:Nat} {xs:List StV} (h:(rSt.sl sp).R W lo hi [.slice A n c] xs) {k:Nat} {x:StV} (hk:xs[k]?=some x):
 ∃(b o:Nat) (A_frames:Option Addr) (c_frames:Nat) (A_globs:Option Addr) (c_globs:Nat) (A_pages:Option Addr) (c_pages:Nat) (A_res:Option Addr) (c_res:Nat),A=some ⟨b,o,none⟩∧lo≤b∧b<hi∧W.cell? ⟨b,o+k*8,none⟩=some (.slice A_frames x.frames.length c_frames)∧W.cell? ⟨b,o+k*8+1,none⟩=some (.slice A_globs x.globs.length c_globs)∧W.cell? ⟨b,o+k*8+2,none⟩=some (.slice A_pages x.pages.length c_pages)∧W.cell? ⟨b,o+k*8+3,none⟩=some (.int .i64 x.reps)∧W.cell? ⟨b,o+k*8+4,none⟩=some (.int .i8 x.end_)∧W.cell? ⟨b,o+k*8+5,none⟩=some (.slice A_res x.res.length c_res)∧W.cell? ⟨b,o+k*8+6,none⟩=some (.int .i8 x.trap)∧W.cell? ⟨b,o+k*8+7,none⟩=some (.int .i64 x.used)∧(rFr.sl false).R W lo hi [.slice A_frames x.frames.length c_frames] x.frames∧(Rd.u64.sl false).R W lo hi [.slice A_globs x.globs.length c_globs] x.globs∧((Rd.u8.sl false).sl false).R W lo hi [.slice A_pages x.pages.length c_pages] x.pages∧Rd.B63 x.reps∧Rd.B8 x.end_∧(Rd.u64.sl false).R W lo hi [.slice A_res x.res.length c_res] x.res∧Rd.B8 x.trap∧Rd.B63 x.used:=by
 obtain⟨b,o,e,h1,h2,cs,hc,hr⟩:=sl_at h hk
 obtain⟨v_frames,v_globs,v_pages,v_res,rfl,h_frames,h_globs,h_pages,h_reps,h_end_,h_res,h_trap,h_used⟩:=rSt_iff.1 hr
 obtain⟨A_frames,c_frames,rfl⟩:=sl_form h_frames
 obtain⟨A_globs,c_globs,rfl⟩:=sl_form h_globs
 obtain⟨A_pages,c_pages,rfl⟩:=sl_form h_pages
 obtain⟨A_res,c_res,rfl⟩:=sl_form h_res
 exact⟨b,o,A_frames,c_frames,A_globs,c_globs,A_pages,c_pages,A_res,c_res,e,h1,h2,hc 0 _ rfl,hc 1 _ rfl,hc 2 _ rfl,hc 3 _ rfl,hc 4 _ rfl,hc 5 _ rfl,hc 6 _ rfl,hc 7 _ rfl,h_frames,h_globs,h_pages,h_reps,h_end_,h_res,h_trap,h_used⟩
structure TabV where
 shapes:List ByteArray
 ends:List Int
 elses:List Int
 floors:List Int
 high:Int
def rTab:Rd TabV:=((Rd.str.sl false).pair ((Rd.i64.sl false).pair ((Rd.i64.sl false).pair ((Rd.i64.sl false).pair (Rd.i64.pair Rd.unit))))).via (fun x=>(x.shapes,x.ends,x.elses,x.floors,x.high,()))
theorem rTab_iff {W:World} {lo hi:Nat} {cs:List Value} {x:TabV}:rTab.R W lo hi cs x↔ ∃v_shapes v_ends v_elses v_floors:Value,cs= [v_shapes,v_ends,v_elses,v_floors,Value.int .i64 x.high]∧(Rd.str.sl false).R W lo hi [v_shapes] x.shapes∧(Rd.i64.sl false).R W lo hi [v_ends] x.ends∧(Rd.i64.sl false).R W lo hi [v_elses] x.elses∧(Rd.i64.sl false).R W lo hi [v_floors] x.floors∧Rd.B63 x.high:=by
 constructor
 ·rintro⟨c_shapes,r_shapes,rfl,h_shapes,⟨c_ends,r_ends,rfl,h_ends,⟨c_elses,r_elses,rfl,h_elses,⟨c_floors,r_floors,rfl,h_floors,⟨c_high,r_high,rfl,h_high,rfl⟩⟩⟩⟩⟩
  obtain⟨v_shapes,rfl,h_shapes⟩:=sl_one h_shapes
  obtain⟨v_ends,rfl,h_ends⟩:=sl_one h_ends
  obtain⟨v_elses,rfl,h_elses⟩:=sl_one h_elses
  obtain⟨v_floors,rfl,h_floors⟩:=sl_one h_floors
  obtain⟨rfl,h_high⟩:=h_high
  exact⟨v_shapes,v_ends,v_elses,v_floors,rfl,h_shapes,h_ends,h_elses,h_floors,h_high⟩
 ·rintro⟨v_shapes,v_ends,v_elses,v_floors,rfl,h_shapes,h_ends,h_elses,h_floors,h_high⟩
  exact⟨[v_shapes],[v_ends,v_elses,v_floors,Value.int .i64 x.high],rfl,h_shapes,⟨[v_ends],[v_elses,v_floors,Value.int .i64 x.high],rfl,h_ends,⟨[v_elses],[v_floors,Value.int .i64 x.high],rfl,h_elses,⟨[v_floors],[Value.int .i64 x.high],rfl,h_floors,⟨[Value.int .i64 x.high],[],rfl,⟨rfl,h_high⟩,rfl⟩⟩⟩⟩⟩
theorem rTab_at {sp:Bool} {W:World} {lo hi:Nat} {A:Option Addr} {n c:Nat} {xs:List TabV} (h:(rTab.sl sp).R W lo hi [.slice A n c] xs) {k:Nat} {x:TabV} (hk:xs[k]?=some x):
 ∃(b o:Nat) (A_shapes:Option Addr) (c_shapes:Nat) (A_ends:Option Addr) (c_ends:Nat) (A_elses:Option Addr) (c_elses:Nat) (A_floors:Option Addr) (c_floors:Nat),A=some ⟨b,o,none⟩∧lo≤b∧b<hi∧W.cell? ⟨b,o+k*5,none⟩=some (.slice A_shapes x.shapes.length c_shapes)∧W.cell? ⟨b,o+k*5+1,none⟩=some (.slice A_ends x.ends.length c_ends)∧W.cell? ⟨b,o+k*5+2,none⟩=some (.slice A_elses x.elses.length c_elses)∧W.cell? ⟨b,o+k*5+3,none⟩=some (.slice A_floors x.floors.length c_floors)∧W.cell? ⟨b,o+k*5+4,none⟩=some (.int .i64 x.high)∧(Rd.str.sl false).R W lo hi [.slice A_shapes x.shapes.length c_shapes] x.shapes∧(Rd.i64.sl false).R W lo hi [.slice A_ends x.ends.length c_ends] x.ends∧(Rd.i64.sl false).R W lo hi [.slice A_elses x.elses.length c_elses] x.elses∧(Rd.i64.sl false).R W lo hi [.slice A_floors x.floors.length c_floors] x.floors∧Rd.B63 x.high:=by
 obtain⟨b,o,e,h1,h2,cs,hc,hr⟩:=sl_at h hk
 obtain⟨v_shapes,v_ends,v_elses,v_floors,rfl,h_shapes,h_ends,h_elses,h_floors,h_high⟩:=rTab_iff.1 hr
 obtain⟨A_shapes,c_shapes,rfl⟩:=sl_form h_shapes
 obtain⟨A_ends,c_ends,rfl⟩:=sl_form h_ends
 obtain⟨A_elses,c_elses,rfl⟩:=sl_form h_elses
 obtain⟨A_floors,c_floors,rfl⟩:=sl_form h_floors
 exact⟨b,o,A_shapes,c_shapes,A_ends,c_ends,A_elses,c_elses,A_floors,c_floors,e,h1,h2,hc 0 _ rfl,hc 1 _ rfl,hc 2 _ rfl,hc 3 _ rfl,hc 4 _ rfl,h_shapes,h_ends,h_elses,h_floors,h_high⟩
theorem own_form {w:World} {base:Nat} {e:TypeId} {v:Value} {n:Nat} {xs:List Value} (h:w.ownsRow base e 1 v n xs): ∃A c,v= .slice A n c:=by
 rcases h.2 with⟨rfl,rfl⟩ | ⟨g,cap,cur,rfl,_⟩
 ·exact⟨_,_,rfl⟩
 ·exact⟨_,_,rfl⟩
theorem own_len {w:World} {base:Nat} {e:TypeId} {v:Value} {n:Nat} {xs:List Value} (h:w.ownsRow base e 1 v n xs):n=xs.length:=by
 have:=h.1;omega
theorem own_cap {w:World} {base:Nat} {e:TypeId} {A:Option Addr} {n m c:Nat} {xs:List Value} (h:w.ownsRow base e 1 (.slice A n c) m xs):n=m∧n≤c:=by
 rcases h.2 with⟨hv,rfl⟩ | ⟨g,cap,cur,hv,_,_,hc,_⟩
 ·injection hv with h1 h2 h3;omega
 ·injection hv with h1 h2 h3;omega
theorem own_below {w w':World} {base:Nat} {e:TypeId} {v:Value} {n:Nat} {xs:List Value} (h:w.ownsRow base e 1 v n xs) (hg:w.grownBy w' v.ownBlock) (hB:base≤w.heap.size):Below base w w':=
 (Below.refl base w).grown hg hB fun k hk=>(h.lt k hk).1
theorem app_none {P:Program} (w:World) (base:Nat) (t ty e:TypeId) (i:TypeInfo) (ht:P.underlying t=some (.slice e)) (hi:P.info? e=some i)
 (v:Value) (n:Nat) (xs:List Value) (hown:w.ownsRow base e 1 v n xs) (c:Nat):(Builtin.append_ #[t,t] ty #[v,.slice none 0 c]).run P w= .ok v w:=by
 rcases hown.2 with⟨rfl,rfl⟩ | ⟨g,cap,cur,rfl,_,_,hnc,_⟩
 ·simp [Builtin.append_,run_underlying ht,sizeOf,typeInfo,hi,Builtin.lenOf,Builtin.firstCells]
 ·simp [Builtin.append_,run_underlying ht,sizeOf,typeInfo,hi,Builtin.lenOf,Builtin.firstCells,hnc,storeCells]
theorem app_row {P:Program} (w:World) (base:Nat) (t ty e:TypeId) (i:TypeInfo) (z:Value) (bytes:Nat) (ht:P.underlying t=some (.slice e)) (hi:P.info? e=some i) (hz:i.zero=some z)
 (hsize:i.size=1) (hby:i.bytes=bytes) (hzs:z.cells.size=1)
 (v:Value) (n:Nat) (xs:List Value) (hown:w.ownsRow base e 1 v n xs)
 (B:Nat) (A:Option Addr) (m c:Nat) (news:List Value) (hm:m=news.length) (hr:Row w B A news) (h1: ∀u∈news,u.oneCell'=true)
 (h63:n+m≤maxLen) (hbytes:(n+m)*bytes≤140737488355328) (hbase:base≤w.heap.size):
 ∃v' w',(Builtin.append_ #[t,t] ty #[v,.slice A m c]).run P w= .ok v' w'∧w'.ownsRow base e 1 v' (n+m) (xs++news)∧w.grownBy w' v.ownBlock∧
  (v'.ownBlock=v.ownBlock∨v'.ownBlock=some w.heap.size):=by
 rcases A with _ | ad
 ·have hnil:news= []:=by
   rcases Nat.eq_zero_or_pos news.length with h0 | h0
   ·exact List.eq_nil_of_length_eq_zero h0
   ·obtain⟨_,_,h',_⟩:=hr h0
    cases h'
  subst hnil
  simp only [List.length_nil] at hm
  subst hm
  exact⟨v,w,app_none w base t ty e i ht hi v n xs hown c,by simpa using hown,World.grownBy.refl w _,.inl rfl⟩
 ·obtain⟨v',w',hrun,h2,h3,_,h5⟩:=run_append_own_at (P:=P) w base t ty e i z 1 bytes ht hi hz hsize hby hzs (by omega) v n xs hown ad m c news (by omega) (fun j u hu=>by
   have hj:=(List.getElem?_eq_some_iff.1 hu).1
   obtain⟨b,o,h',_,hc⟩:=hr (by omega)
   injection h' with h'
   subst h'
   rw [Addr.add_lit]
   exact hc j u hu) h1 h63 hbytes hbase
  exact⟨v',w',hrun,h2,h3,h5⟩
theorem wpList_app {P:Program} (w:World) {ops:Array Oper} {rest:List Oper} {o:Oper} {a:Act} {Q:Exit→Act→World→Prop} (hgd:o.guard=none) (s x:Operand) (t:TypeId)
 (ho:o.op= .call {callee:= .builtin .append,args:= #[s,x],argTypes:= #[t,t]})
 (base:Nat) (e:TypeId) (i:TypeInfo) (z:Value) (bytes:Nat) (ht:P.underlying t=some (.slice e)) (hi:P.info? e=some i) (hz:i.zero=some z)
 (hsize:i.size=1) (hby:i.bytes=bytes) (hzs:z.cells.size=1)
 (v:Value) (n:Nat) (xs:List Value) (hs:a.eval s=v) (hown:w.ownsRow base e 1 v n xs)
 (B:Nat) (A:Option Addr) (m c:Nat) (news:List Value) (hx:a.eval x= .slice A m c) (hm:m=news.length) (hr:Row w B A news) (h1: ∀u∈news,u.oneCell'=true)
 (h63:n+m≤maxLen) (hbytes:(n+m)*bytes≤140737488355328) (hbase:base≤w.heap.size)
 (h: ∀A' c' w',w'.ownsRow base e 1 (.slice A' (n+m) c') (n+m) (xs++news)→w.grownBy w' v.ownBlock→((Value.slice A' (n+m) c').ownBlock=v.ownBlock∨(Value.slice A' (n+m) c').ownBlock=some w.heap.size)→wpList P ops Q rest (a.put o.dst (.slice A' (n+m) c')) w'):wpList P ops Q (o::rest) a w:=by
 refine wpList_plain hgd fun _ hK=> ?_
 obtain⟨v',w',hrun,h2,h3,h4⟩:=app_row (P:=P) w base t o.type e i z bytes ht hi hz hsize hby hzs v n xs hown B A m c news hm hr h1 h63 hbytes hbase
 obtain⟨A',c',rfl⟩:=own_form h2
 unfold Oper.wp execOp
 simp only [ho,resolve,invoke,builtin,Sem.run_bind,Sem.run_pure,Result.andThen_ok,List.map_toArray,List.map_cons,List.map_nil,hs,hx,hrun]
 exact hK _ _ (h A' c' w' h2 h3 h4)
theorem row_one (w:World) (x:Value) (t:TypeId):Row (w.alloc (.cells #[x] t)) (w.heap.size+1) (some ⟨w.heap.size,0,none⟩) [x]:=by
 intro _
 refine⟨w.heap.size,0,rfl,Nat.lt_succ_self _,fun j u hu=> ?_⟩
 have:=cell_one_new w x t j u hu
 rwa [Addr.add_lit] at this
theorem bv_one (l:List UInt8): ∀u∈l.map bv,u.oneCell'=true:=by
 intro u hu
 obtain⟨_,_,rfl⟩:=List.mem_map.1 hu
 rfl
def enc (v:Nat):List UInt8:=if v<128 then [UInt8.ofNat v] else UInt8.ofNat (v%128+128)::enc (v/128)
 termination_by v
theorem enc_small (v:Nat) (h:v<128):enc v= [UInt8.ofNat v]:=by rw [enc,if_pos h]
theorem enc_great (v:Nat) (h: ¬v<128):enc v=UInt8.ofNat (v%128+128)::enc (v/128):=by rw [enc,if_neg h]
theorem enc_len: ∀(n v:Nat),v<128^(n+1)→(enc v).length≤n+1
 | 0,v,h=>by rw [enc_small v (by omega)];simp
 | n+1,v,h=>by
  by_cases h1:v<128
  ·rw [enc_small v h1];simp
  ·rw [enc_great v h1]
   have:=enc_len n (v/128) (by rw [Nat.div_lt_iff_lt_mul (by omega)];rw [Nat.pow_succ] at h;exact h)
   simp;omega
theorem enc_len10 (v:Nat) (h:v<18446744073709551616):(enc v).length≤10:=enc_len 9 v (Nat.lt_of_lt_of_le h (by decide))
theorem enc_pos (v:Nat):0<(enc v).length:=by
 by_cases h1:v<128
 ·rw [enc_small v h1];simp
 ·rw [enc_great v h1];simp
theorem or128 (c:Nat) (h:c<256):bits .or .u8 (c:Int) 128=((c%128+128:Nat):Int):=by
 have:=u8_or_nat c 128 h (by omega)
 rw [show((128:Nat):Int)=128 from rfl] at this
 rw [this]
 congr 1
 have: ∀c:Fin 256,c.val||| 128=c.val%128+128:=by decide+kernel
 exact this ⟨c,h⟩
theorem ofNat_small (x:Nat) (h:x<256):bv (UInt8.ofNat x)= .int .u8 (x:Int):=by
 unfold bv
 rw [UInt8.toNat_ofNat_of_lt' (by simpa using h)]
end Go.Proofs.YtebgikflpgcnlaaGreatDoor
