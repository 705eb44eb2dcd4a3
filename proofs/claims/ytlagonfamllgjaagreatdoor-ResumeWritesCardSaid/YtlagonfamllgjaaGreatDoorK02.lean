/- Part 2 of the proof: Dat CtlP OpsT InsS App -/
import Derived.Maps.AppendAt
import Derived.Lib.ConvBytes
import Derived.Test.YtlagonfamllgjaaGreatDoorK01
namespace Go.Proofs.YtlagonfamllgjaaGreatDoor
set_option linter.unusedVariables false
set_option linter.unusedSimpArgs false
set_option maxRecDepth 100000
set_option maxHeartbeats 4000000
open Go.RowKit
theorem DC {α:Type} {r:Rd α} {sp:Bool} {W:World} {lo hi:Nat} {A:Option Addr} {n c:Nat} {xs:List α} (h:(r.sl sp).R W lo hi [.slice A n c] xs) {k:Nat} {x:α} (hk:xs[k]?=some x):
 ∃b o,A=some ⟨b,o,none⟩∧lo≤b∧b<hi∧ ∃cs,(∀(j:Nat) u,cs[j]?=some u→W.cell? ⟨b,o+k*r.z+j,none⟩=some u)∧r.R W lo hi cs x:=by
 obtain⟨A',c',he,_,h⟩:=h
 injection he with he _
 injection he with h1 h2 h3
 subst h1 h2
 have hlt:=(List.getElem?_eq_some_iff.1 hk).1
 obtain⟨b,o,e,hlo,hhi,hx⟩:=h (by omega)
 obtain⟨cs,hc,hr⟩:=hx k x hk
 exact⟨b,o,e,hlo,hhi,cs,hc,hr⟩
theorem Bq {α:Type} {r:Rd α} {sp:Bool} {W:World} {lo hi:Nat} {A:Option Addr} {n c:Nat} {xs:List α} (h:(r.sl sp).R W lo hi [.slice A n c] xs):n=xs.length:=by
 obtain⟨A',c',he,_⟩:=h
 injection he with he _
 injection he with h1 h2 h3
theorem TR {α:Type} {r:Rd α} {W:World} {lo hi:Nat} {A:Option Addr} {c:Nat}:(r.sl false).R W lo hi [.slice A 0 c] []:=⟨A,c,rfl,⟨fun h=>(by cases h),Nat.zero_le _⟩,fun h=>absurd h (by simp)⟩
theorem AB {α:Type} {r:Rd α} {sp:Bool} {W:World} {lo hi:Nat} {v:Value} {xs:List α} (h:(r.sl sp).R W lo hi [v] xs): ∃A c,v= .slice A xs.length c:=by
 obtain⟨A,c,he,_⟩:=h
 injection he with he _
 exact⟨A,c,he⟩
theorem Co {α:Type} {r:Rd α} {sp:Bool} {W:World} {lo hi:Nat} {cs:List Value} {xs:List α} (h:(r.sl sp).R W lo hi cs xs): ∃v,cs= [v]∧(r.sl sp).R W lo hi [v] xs:=by
 have h0:=h
 obtain⟨A,c,he,_⟩:=h0
 exact⟨_,he,he▸h⟩
structure Cg where
 p:ByteArray
 r:ByteArray
def Py:Rd Cg:=(Rd.str.pair (Rd.str.pair Rd.unit)).via (fun x=>(x.p,x.r,()))
theorem Rt {W:World} {lo hi:Nat} {cs:List Value} {x:Cg}:Py.R W lo hi cs x↔cs= [Value.string x.p,Value.string x.r]∧Rd.Pq x.p∧Rd.Pq x.r:=by
 constructor
 ·rintro⟨c_p,r_p,rfl,zT,⟨c_r,r_r,rfl,zU,rfl⟩⟩
  obtain⟨rfl,zT⟩:=zT
  obtain⟨rfl,zU⟩:=zU
  exact⟨rfl,zT,zU⟩
 ·rintro⟨rfl,zT,zU⟩
  exact⟨[Value.string x.p],[Value.string x.r],rfl,⟨rfl,zT⟩,⟨[Value.string x.r],[],rfl,⟨rfl,zU⟩,rfl⟩⟩
theorem CZ {sp:Bool} {W:World} {lo hi:Nat} {A:Option Addr} {n c:Nat} {xs:List Cg} (h:(Py.sl sp).R W lo hi [.slice A n c] xs) {k:Nat} {x:Cg} (hk:xs[k]?=some x):
 ∃(b o:Nat),A=some ⟨b,o,none⟩∧lo≤b∧b<hi∧W.cell? ⟨b,o+k*2,none⟩=some (.string x.p)∧W.cell? ⟨b,o+k*2+1,none⟩=some (.string x.r)∧Rd.Pq x.p∧Rd.Pq x.r:=by
 obtain⟨b,o,e,h1,h2,cs,hc,hr⟩:=DC h hk
 obtain⟨rfl,zT,zU⟩:=Rt.1 hr
 exact⟨b,o,e,h1,h2,hc 0 _ rfl,hc 1 _ rfl,zT,zU⟩
structure ED where
 l:UInt8
 m:Bool
 v:Nat
def Lm:Rd ED:=(Rd.u8.pair (Rd.bool.pair (Rd.u64.pair Rd.unit))).via (fun x=>(x.l,x.m,x.v,()))
theorem Uq {W:World} {lo hi:Nat} {cs:List Value} {x:ED}:Lm.R W lo hi cs x↔cs= [bv x.l,Value.bool x.m,uv x.v]∧Rd.XK x.v:=by
 constructor
 ·rintro⟨GJ,r_l,rfl,KQ,⟨c_m,r_m,rfl,h_m,⟨c_v,r_v,rfl,zV,rfl⟩⟩⟩
  obtain⟨rfl,_⟩:=KQ
  obtain⟨rfl,_⟩:=h_m
  obtain⟨rfl,zV⟩:=zV
  exact⟨rfl,zV⟩
 ·rintro⟨rfl,zV⟩
  exact⟨[bv x.l],[Value.bool x.m,uv x.v],rfl,⟨rfl,trivial⟩,⟨[Value.bool x.m],[uv x.v],rfl,⟨rfl,trivial⟩,⟨[uv x.v],[],rfl,⟨rfl,zV⟩,rfl⟩⟩⟩
theorem Eh {sp:Bool} {W:World} {lo hi:Nat} {A:Option Addr} {n c:Nat} {xs:List ED} (h:(Lm.sl sp).R W lo hi [.slice A n c] xs) {k:Nat} {x:ED} (hk:xs[k]?=some x):
 ∃(b o:Nat),A=some ⟨b,o,none⟩∧lo≤b∧b<hi∧W.cell? ⟨b,o+k*3,none⟩=some (.int .u8 (x.l.toNat:Int))∧W.cell? ⟨b,o+k*3+1,none⟩=some (.bool x.m)∧W.cell? ⟨b,o+k*3+2,none⟩=some (.int .u64 (x.v:Int))∧Rd.XK x.v:=by
 obtain⟨b,o,e,h1,h2,cs,hc,hr⟩:=DC h hk
 obtain⟨rfl,zV⟩:=Uq.1 hr
 exact⟨b,o,e,h1,h2,hc 0 _ rfl,hc 1 _ rfl,hc 2 _ rfl,zV⟩
structure Ad where
 op:UInt8
 a:Int
 l:List Int
def Ei:Rd Ad:=(Rd.u8.pair (Rd.i64.pair ((Rd.i64.sl false).pair Rd.unit))).via (fun x=>(x.op,x.a,x.l,()))
theorem DL {W:World} {lo hi:Nat} {cs:List Value} {x:Ad}:Ei.R W lo hi cs x↔ ∃Y_:Value,cs= [bv x.op,Value.int .i64 x.a,Y_]∧Rd.G8 x.a∧(Rd.i64.sl false).R W lo hi [Y_] x.l:=by
 constructor
 ·rintro⟨c_op,r_op,rfl,h_op,⟨c_a,r_a,rfl,Oc,⟨GJ,r_l,rfl,KQ,rfl⟩⟩⟩
  obtain⟨rfl,_⟩:=h_op
  obtain⟨rfl,Oc⟩:=Oc
  obtain⟨Y_,rfl,KQ⟩:=Co KQ
  exact⟨Y_,rfl,Oc,KQ⟩
 ·rintro⟨Y_,rfl,Oc,KQ⟩
  exact⟨[bv x.op],[Value.int .i64 x.a,Y_],rfl,⟨rfl,trivial⟩,⟨[Value.int .i64 x.a],[Y_],rfl,⟨rfl,Oc⟩,⟨[Y_],[],rfl,KQ,rfl⟩⟩⟩
theorem Dy {sp:Bool} {W:World} {lo hi:Nat} {A:Option Addr} {n c:Nat} {xs:List Ad} (h:(Ei.sl sp).R W lo hi [.slice A n c] xs) {k:Nat} {x:Ad} (hk:xs[k]?=some x):
 ∃(b o:Nat) (Ga:Option Addr) (GJ:Nat),A=some ⟨b,o,none⟩∧lo≤b∧b<hi∧W.cell? ⟨b,o+k*3,none⟩=some (.int .u8 (x.op.toNat:Int))∧W.cell? ⟨b,o+k*3+1,none⟩=some (.int .i64 x.a)∧W.cell? ⟨b,o+k*3+2,none⟩=some (.slice Ga x.l.length GJ)∧Rd.G8 x.a∧(Rd.i64.sl false).R W lo hi [.slice Ga x.l.length GJ] x.l:=by
 obtain⟨b,o,e,h1,h2,cs,hc,hr⟩:=DC h hk
 obtain⟨Y_,rfl,Oc,KQ⟩:=DL.1 hr
 obtain⟨Ga,GJ,rfl⟩:=AB KQ
 exact⟨b,o,Ga,GJ,e,h1,h2,hc 0 _ rfl,hc 1 _ rfl,hc 2 _ rfl,Oc,KQ⟩
structure Bv where
 t:Int
 loc:ByteArray
 code:List Ad
def Qe:Rd Bv:=(Rd.i64.pair (Rd.str.pair ((Ei.sl false).pair Rd.unit))).via (fun x=>(x.t,x.loc,x.code,()))
theorem IX {W:World} {lo hi:Nat} {cs:List Value} {x:Bv}:Qe.R W lo hi cs x↔ ∃JQ:Value,cs= [Value.int .i64 x.t,Value.string x.loc,JQ]∧Rd.G8 x.t∧Rd.Pq x.loc∧(Ei.sl false).R W lo hi [JQ] x.code:=by
 constructor
 ·rintro⟨c_t,r_t,rfl,XE,⟨ET,ACo,rfl,CF,⟨EK,r_code,rfl,Db,rfl⟩⟩⟩
  obtain⟨rfl,XE⟩:=XE
  obtain⟨rfl,CF⟩:=CF
  obtain⟨JQ,rfl,Db⟩:=Co Db
  exact⟨JQ,rfl,XE,CF,Db⟩
 ·rintro⟨JQ,rfl,XE,CF,Db⟩
  exact⟨[Value.int .i64 x.t],[Value.string x.loc,JQ],rfl,⟨rfl,XE⟩,⟨[Value.string x.loc],[JQ],rfl,⟨rfl,CF⟩,⟨[JQ],[],rfl,Db,rfl⟩⟩⟩
theorem Eu {sp:Bool} {W:World} {lo hi:Nat} {A:Option Addr} {n c:Nat} {xs:List Bv} (h:(Qe.sl sp).R W lo hi [.slice A n c] xs) {k:Nat} {x:Bv} (hk:xs[k]?=some x):
 ∃(b o:Nat) (Ea:Option Addr) (EK:Nat),A=some ⟨b,o,none⟩∧lo≤b∧b<hi∧W.cell? ⟨b,o+k*3,none⟩=some (.int .i64 x.t)∧W.cell? ⟨b,o+k*3+1,none⟩=some (.string x.loc)∧W.cell? ⟨b,o+k*3+2,none⟩=some (.slice Ea x.code.length EK)∧Rd.G8 x.t∧Rd.Pq x.loc∧(Ei.sl false).R W lo hi [.slice Ea x.code.length EK] x.code:=by
 obtain⟨b,o,e,h1,h2,cs,hc,hr⟩:=DC h hk
 obtain⟨JQ,rfl,XE,CF,Db⟩:=IX.1 hr
 obtain⟨Ea,EK,rfl⟩:=AB Db
 exact⟨b,o,Ea,EK,e,h1,h2,hc 0 _ rfl,hc 1 _ rfl,hc 2 _ rfl,XE,CF,Db⟩
structure Gh where
 at_:Int
 b:List UInt8
def Ib:Rd Gh:=(Rd.i64.pair ((Rd.u8.sl false).pair Rd.unit)).via (fun x=>(x.at_,x.b,()))
theorem Gq {W:World} {lo hi:Nat} {cs:List Value} {x:Gh}:Ib.R W lo hi cs x↔ ∃qg:Value,cs= [Value.int .i64 x.at_,qg]∧Rd.G8 x.at_∧(Rd.u8.sl false).R W lo hi [qg] x.b:=by
 constructor
 ·rintro⟨c_at_,r_at_,rfl,H_,⟨Ni,r_b,rfl,Tz,rfl⟩⟩
  obtain⟨rfl,H_⟩:=H_
  obtain⟨qg,rfl,Tz⟩:=Co Tz
  exact⟨qg,rfl,H_,Tz⟩
 ·rintro⟨qg,rfl,H_,Tz⟩
  exact⟨[Value.int .i64 x.at_],[qg],rfl,⟨rfl,H_⟩,⟨[qg],[],rfl,Tz,rfl⟩⟩
theorem IY {sp:Bool} {W:World} {lo hi:Nat} {A:Option Addr} {n c:Nat} {xs:List Gh} (h:(Ib.sl sp).R W lo hi [.slice A n c] xs) {k:Nat} {x:Gh} (hk:xs[k]?=some x):
 ∃(b o:Nat) (Nv:Option Addr) (Ni:Nat),A=some ⟨b,o,none⟩∧lo≤b∧b<hi∧W.cell? ⟨b,o+k*2,none⟩=some (.int .i64 x.at_)∧W.cell? ⟨b,o+k*2+1,none⟩=some (.slice Nv x.b.length Ni)∧Rd.G8 x.at_∧(Rd.u8.sl false).R W lo hi [.slice Nv x.b.length Ni] x.b:=by
 obtain⟨b,o,e,h1,h2,cs,hc,hr⟩:=DC h hk
 obtain⟨qg,rfl,H_,Tz⟩:=Gq.1 hr
 obtain⟨Nv,Ni,rfl⟩:=AB Tz
 exact⟨b,o,Nv,Ni,e,h1,h2,hc 0 _ rfl,hc 1 _ rfl,H_,Tz⟩
structure KU where
 n:ByteArray
 f:Int
def Q8:Rd KU:=(Rd.str.pair (Rd.i64.pair Rd.unit)).via (fun x=>(x.n,x.f,()))
theorem XM {W:World} {lo hi:Nat} {cs:List Value} {x:KU}:Q8.R W lo hi cs x↔cs= [Value.string x.n,Value.int .i64 x.f]∧Rd.Pq x.n∧Rd.G8 x.f:=by
 constructor
 ·rintro⟨c_n,r_n,rfl,h_n,⟨c_f,r_f,rfl,Qf,rfl⟩⟩
  obtain⟨rfl,h_n⟩:=h_n
  obtain⟨rfl,Qf⟩:=Qf
  exact⟨rfl,h_n,Qf⟩
 ·rintro⟨rfl,h_n,Qf⟩
  exact⟨[Value.string x.n],[Value.int .i64 x.f],rfl,⟨rfl,h_n⟩,⟨[Value.int .i64 x.f],[],rfl,⟨rfl,Qf⟩,rfl⟩⟩
theorem Jw {sp:Bool} {W:World} {lo hi:Nat} {A:Option Addr} {n c:Nat} {xs:List KU} (h:(Q8.sl sp).R W lo hi [.slice A n c] xs) {k:Nat} {x:KU} (hk:xs[k]?=some x):
 ∃(b o:Nat),A=some ⟨b,o,none⟩∧lo≤b∧b<hi∧W.cell? ⟨b,o+k*2,none⟩=some (.string x.n)∧W.cell? ⟨b,o+k*2+1,none⟩=some (.int .i64 x.f)∧Rd.Pq x.n∧Rd.G8 x.f:=by
 obtain⟨b,o,e,h1,h2,cs,hc,hr⟩:=DC h hk
 obtain⟨rfl,h_n,Qf⟩:=XM.1 hr
 exact⟨b,o,e,h1,h2,hc 0 _ rfl,hc 1 _ rfl,h_n,Qf⟩
structure AP where
 types:List Cg
 hosts:List Int
 globs:List ED
 first:Int
 most:Int
 fns:List Bv
 dat:List Gh
 Au:List KU
def DJ:Rd AP:=((Py.sl false).pair ((Rd.i64.sl false).pair ((Lm.sl false).pair (Rd.i64.pair (Rd.i64.pair ((Qe.sl false).pair ((Ib.sl false).pair ((Q8.sl false).pair Rd.unit)))))))).via (fun x=>(x.types,x.hosts,x.globs,x.first,x.most,x.fns,x.dat,x.Au,()))
theorem Am {W:World} {lo hi:Nat} {cs:List Value} {x:AP}:DJ.R W lo hi cs x↔ ∃Gs GK Cm Iz Ic Ev:Value,cs= [Gs,GK,Cm,Value.int .i64 x.first,Value.int .i64 x.most,Iz,Ic,Ev]∧(Py.sl false).R W lo hi [Gs] x.types∧(Rd.i64.sl false).R W lo hi [GK] x.hosts∧(Lm.sl false).R W lo hi [Cm] x.globs∧Rd.G8 x.first∧Rd.G8 x.most∧(Qe.sl false).R W lo hi [Iz] x.fns∧(Ib.sl false).R W lo hi [Ic] x.dat∧(Q8.sl false).R W lo hi [Ev] x.Au:=by
 constructor
 ·rintro⟨I8,r_types,rfl,Di,⟨I9,r_hosts,rfl,Dj,⟨Dk,rQ,rfl,BN,⟨c_first,r_first,rfl,Ez,⟨c_most,r_most,rfl,Gt,⟨Ol,r_fns,rfl,Gu,⟨Om,r_dat,rfl,Gv,⟨K9,r_exps,rfl,Eb,rfl⟩⟩⟩⟩⟩⟩⟩⟩
  obtain⟨Gs,rfl,Di⟩:=Co Di
  obtain⟨GK,rfl,Dj⟩:=Co Dj
  obtain⟨Cm,rfl,BN⟩:=Co BN
  obtain⟨rfl,Ez⟩:=Ez
  obtain⟨rfl,Gt⟩:=Gt
  obtain⟨Iz,rfl,Gu⟩:=Co Gu
  obtain⟨Ic,rfl,Gv⟩:=Co Gv
  obtain⟨Ev,rfl,Eb⟩:=Co Eb
  exact⟨Gs,GK,Cm,Iz,Ic,Ev,rfl,Di,Dj,BN,Ez,Gt,Gu,Gv,Eb⟩
 ·rintro⟨Gs,GK,Cm,Iz,Ic,Ev,rfl,Di,Dj,BN,Ez,Gt,Gu,Gv,Eb⟩
  exact⟨[Gs],[GK,Cm,Value.int .i64 x.first,Value.int .i64 x.most,Iz,Ic,Ev],rfl,Di,⟨[GK],[Cm,Value.int .i64 x.first,Value.int .i64 x.most,Iz,Ic,Ev],rfl,Dj,⟨[Cm],[Value.int .i64 x.first,Value.int .i64 x.most,Iz,Ic,Ev],rfl,BN,⟨[Value.int .i64 x.first],[Value.int .i64 x.most,Iz,Ic,Ev],rfl,⟨rfl,Ez⟩,⟨[Value.int .i64 x.most],[Iz,Ic,Ev],rfl,⟨rfl,Gt⟩,⟨[Iz],[Ic,Ev],rfl,Gu,⟨[Ic],[Ev],rfl,Gv,⟨[Ev],[],rfl,Eb,rfl⟩⟩⟩⟩⟩⟩⟩⟩
structure Jy where
 f:Int
 pc:Int
 loc:List Nat
 st:List Nat
def Od:Rd Jy:=(Rd.i64.pair (Rd.i64.pair ((Rd.u64.sl false).pair ((Rd.u64.sl false).pair Rd.unit)))).via (fun x=>(x.f,x.pc,x.loc,x.st,()))
theorem FV {W:World} {lo hi:Nat} {cs:List Value} {x:Jy}:Od.R W lo hi cs x↔ ∃MC Q9:Value,cs= [Value.int .i64 x.f,Value.int .i64 x.pc,MC,Q9]∧Rd.G8 x.f∧Rd.G8 x.pc∧(Rd.u64.sl false).R W lo hi [MC] x.loc∧(Rd.u64.sl false).R W lo hi [Q9] x.st:=by
 constructor
 ·rintro⟨c_f,r_f,rfl,Qf,⟨c_pc,r_pc,rfl,Lv,⟨ET,ACo,rfl,CF,⟨Io,r_st,rfl,Gi,rfl⟩⟩⟩⟩
  obtain⟨rfl,Qf⟩:=Qf
  obtain⟨rfl,Lv⟩:=Lv
  obtain⟨MC,rfl,CF⟩:=Co CF
  obtain⟨Q9,rfl,Gi⟩:=Co Gi
  exact⟨MC,Q9,rfl,Qf,Lv,CF,Gi⟩
 ·rintro⟨MC,Q9,rfl,Qf,Lv,CF,Gi⟩
  exact⟨[Value.int .i64 x.f],[Value.int .i64 x.pc,MC,Q9],rfl,⟨rfl,Qf⟩,⟨[Value.int .i64 x.pc],[MC,Q9],rfl,⟨rfl,Lv⟩,⟨[MC],[Q9],rfl,CF,⟨[Q9],[],rfl,Gi,rfl⟩⟩⟩⟩
theorem JR {sp:Bool} {W:World} {lo hi:Nat} {A:Option Addr} {n c:Nat} {xs:List Jy} (h:(Od.sl sp).R W lo hi [.slice A n c] xs) {k:Nat} {x:Jy} (hk:xs[k]?=some x):
 ∃(b o:Nat) (E8:Option Addr) (ET:Nat) (I_:Option Addr) (Io:Nat),A=some ⟨b,o,none⟩∧lo≤b∧b<hi∧W.cell? ⟨b,o+k*4,none⟩=some (.int .i64 x.f)∧W.cell? ⟨b,o+k*4+1,none⟩=some (.int .i64 x.pc)∧W.cell? ⟨b,o+k*4+2,none⟩=some (.slice E8 x.loc.length ET)∧W.cell? ⟨b,o+k*4+3,none⟩=some (.slice I_ x.st.length Io)∧Rd.G8 x.f∧Rd.G8 x.pc∧(Rd.u64.sl false).R W lo hi [.slice E8 x.loc.length ET] x.loc∧(Rd.u64.sl false).R W lo hi [.slice I_ x.st.length Io] x.st:=by
 obtain⟨b,o,e,h1,h2,cs,hc,hr⟩:=DC h hk
 obtain⟨MC,Q9,rfl,Qf,Lv,CF,Gi⟩:=FV.1 hr
 obtain⟨E8,ET,rfl⟩:=AB CF
 obtain⟨I_,Io,rfl⟩:=AB Gi
 exact⟨b,o,E8,ET,I_,Io,e,h1,h2,hc 0 _ rfl,hc 1 _ rfl,hc 2 _ rfl,hc 3 _ rfl,Qf,Lv,CF,Gi⟩
structure FH where
 frames:List Jy
 globs:List Nat
 pages:List (List UInt8)
 Bj:Int
 end_:Int
 res:List Nat
 trap:Int
 used:Int
def K7:Rd FH:=((Od.sl false).pair ((Rd.u64.sl false).pair (((Rd.u8.sl false).sl false).pair (Rd.i64.pair (Rd.i8.pair ((Rd.u64.sl false).pair (Rd.i8.pair (Rd.i64.pair Rd.unit)))))))).via (fun x=>(x.frames,x.globs,x.pages,x.Bj,x.end_,x.res,x.trap,x.used,()))
theorem CU {W:World} {lo hi:Nat} {cs:List Value} {x:FH}:K7.R W lo hi cs x↔ ∃F3 Cm GL Ie:Value,cs= [F3,Cm,GL,Value.int .i64 x.Bj,Value.int .i8 x.end_,Ie,Value.int .i8 x.trap,Value.int .i64 x.used]∧(Od.sl false).R W lo hi [F3] x.frames∧(Rd.u64.sl false).R W lo hi [Cm] x.globs∧((Rd.u8.sl false).sl false).R W lo hi [GL] x.pages∧Rd.G8 x.Bj∧Rd.B8 x.end_∧(Rd.u64.sl false).R W lo hi [Ie] x.res∧Rd.B8 x.trap∧Rd.G8 x.used:=by
 constructor
 ·rintro⟨Ej,ACp,rfl,Cj,⟨Dk,rQ,rfl,BN,⟨FW,r_pages,rfl,DY,⟨c_reps,r_reps,rfl,Gw,⟨c_end_,r_end_,rfl,KG,⟨Oo,r_res,rfl,IB,⟨c_trap,r_trap,rfl,Gx,⟨c_used,r_used,rfl,Gy,rfl⟩⟩⟩⟩⟩⟩⟩⟩
  obtain⟨F3,rfl,Cj⟩:=Co Cj
  obtain⟨Cm,rfl,BN⟩:=Co BN
  obtain⟨GL,rfl,DY⟩:=Co DY
  obtain⟨rfl,Gw⟩:=Gw
  obtain⟨rfl,KG⟩:=KG
  obtain⟨Ie,rfl,IB⟩:=Co IB
  obtain⟨rfl,Gx⟩:=Gx
  obtain⟨rfl,Gy⟩:=Gy
  exact⟨F3,Cm,GL,Ie,rfl,Cj,BN,DY,Gw,KG,IB,Gx,Gy⟩
 ·rintro⟨F3,Cm,GL,Ie,rfl,Cj,BN,DY,Gw,KG,IB,Gx,Gy⟩
  exact⟨[F3],[Cm,GL,Value.int .i64 x.Bj,Value.int .i8 x.end_,Ie,Value.int .i8 x.trap,Value.int .i64 x.used],rfl,Cj,⟨[Cm],[GL,Value.int .i64 x.Bj,Value.int .i8 x.end_,Ie,Value.int .i8 x.trap,Value.int .i64 x.used],rfl,BN,⟨[GL],[Value.int .i64 x.Bj,Value.int .i8 x.end_,Ie,Value.int .i8 x.trap,Value.int .i64 x.used],rfl,DY,⟨[Value.int .i64 x.Bj],[Value.int .i8 x.end_,Ie,Value.int .i8 x.trap,Value.int .i64 x.used],rfl,⟨rfl,Gw⟩,⟨[Value.int .i8 x.end_],[Ie,Value.int .i8 x.trap,Value.int .i64 x.used],rfl,⟨rfl,KG⟩,⟨[Ie],[Value.int .i8 x.trap,Value.int .i64 x.used],rfl,IB,⟨[Value.int .i8 x.trap],[Value.int .i64 x.used],rfl,⟨rfl,Gx⟩,⟨[Value.int .i64 x.used],[],rfl,⟨rfl,Gy⟩,rfl⟩⟩⟩⟩⟩⟩⟩⟩
structure Dz where
 shapes:List ByteArray
 ends:List Int
 AJ:List Int
 floors:List Int
 high:Int
def Nw:Rd Dz:=((Rd.str.sl false).pair ((Rd.i64.sl false).pair ((Rd.i64.sl false).pair ((Rd.i64.sl false).pair (Rd.i64.pair Rd.unit))))).via (fun x=>(x.shapes,x.ends,x.AJ,x.floors,x.high,()))
theorem ME {W:World} {lo hi:Nat} {cs:List Value} {x:Dz}:Nw.R W lo hi cs x↔ ∃JU MF JA F4:Value,cs= [JU,MF,JA,F4,Value.int .i64 x.high]∧(Rd.str.sl false).R W lo hi [JU] x.shapes∧(Rd.i64.sl false).R W lo hi [MF] x.ends∧(Rd.i64.sl false).R W lo hi [JA] x.AJ∧(Rd.i64.sl false).R W lo hi [F4] x.floors∧Rd.G8 x.high:=by
 constructor
 ·rintro⟨MG,ACq,rfl,Ig,⟨Ru,r_ends,rfl,MH,⟨Oq,r_elses,rfl,Jz,⟨MI,ACr,rfl,Ih,⟨c_high,r_high,rfl,Ny,rfl⟩⟩⟩⟩⟩
  obtain⟨JU,rfl,Ig⟩:=Co Ig
  obtain⟨MF,rfl,MH⟩:=Co MH
  obtain⟨JA,rfl,Jz⟩:=Co Jz
  obtain⟨F4,rfl,Ih⟩:=Co Ih
  obtain⟨rfl,Ny⟩:=Ny
  exact⟨JU,MF,JA,F4,rfl,Ig,MH,Jz,Ih,Ny⟩
 ·rintro⟨JU,MF,JA,F4,rfl,Ig,MH,Jz,Ih,Ny⟩
  exact⟨[JU],[MF,JA,F4,Value.int .i64 x.high],rfl,Ig,⟨[MF],[JA,F4,Value.int .i64 x.high],rfl,MH,⟨[JA],[F4,Value.int .i64 x.high],rfl,Jz,⟨[F4],[Value.int .i64 x.high],rfl,Ih,⟨[Value.int .i64 x.high],[],rfl,⟨rfl,Ny⟩,rfl⟩⟩⟩⟩⟩
theorem bJ {sp:Bool} {W:World} {lo hi:Nat} {A:Option Addr} {n c:Nat} {xs:List Dz} (h:(Nw.sl sp).R W lo hi [.slice A n c] xs) {k:Nat} {x:Dz} (hk:xs[k]?=some x):
 ∃(b o:Nat) (Ot:Option Addr) (MG:Nat) (Vf:Option Addr) (Ru:Nat) (RQ:Option Addr) (Oq:Nat) (Ou:Option Addr) (MI:Nat),A=some ⟨b,o,none⟩∧lo≤b∧b<hi∧W.cell? ⟨b,o+k*5,none⟩=some (.slice Ot x.shapes.length MG)∧W.cell? ⟨b,o+k*5+1,none⟩=some (.slice Vf x.ends.length Ru)∧W.cell? ⟨b,o+k*5+2,none⟩=some (.slice RQ x.AJ.length Oq)∧W.cell? ⟨b,o+k*5+3,none⟩=some (.slice Ou x.floors.length MI)∧W.cell? ⟨b,o+k*5+4,none⟩=some (.int .i64 x.high)∧(Rd.str.sl false).R W lo hi [.slice Ot x.shapes.length MG] x.shapes∧(Rd.i64.sl false).R W lo hi [.slice Vf x.ends.length Ru] x.ends∧(Rd.i64.sl false).R W lo hi [.slice RQ x.AJ.length Oq] x.AJ∧(Rd.i64.sl false).R W lo hi [.slice Ou x.floors.length MI] x.floors∧Rd.G8 x.high:=by
 obtain⟨b,o,e,h1,h2,cs,hc,hr⟩:=DC h hk
 obtain⟨JU,MF,JA,F4,rfl,Ig,MH,Jz,Ih,Ny⟩:=ME.1 hr
 obtain⟨Ot,MG,rfl⟩:=AB Ig
 obtain⟨Vf,Ru,rfl⟩:=AB MH
 obtain⟨RQ,Oq,rfl⟩:=AB Jz
 obtain⟨Ou,MI,rfl⟩:=AB Ih
 exact⟨b,o,Ot,MG,Vf,Ru,RQ,Oq,Ou,MI,e,h1,h2,hc 0 _ rfl,hc 1 _ rfl,hc 2 _ rfl,hc 3 _ rfl,hc 4 _ rfl,Ig,MH,Jz,Ih,Ny⟩
structure Ai where
 ends:List Int
 AJ:List Int
 A_:List Int
 op:List Nat
 done:Bool
def EL (l:List Nat):Int:=match l with
 | []=> -1
 | p::_=>(p:Int)
def Aw (o:UInt8):Bool:=decide (o.toNat=2∨o.toNat=3∨o.toNat=4)
def opAt (code:List Ad) (p:Nat):Nat:=match code[p]? with
 | none=>0
 | some x=>x.op.toNat
def BJ (st:Ai) (p:Nat):Int:=st.AJ.getD p (-1)
def Ak (st:Ai) (pc:Nat):Ai:= {st with A_:=st.A_.set pc (EL st.op)}
def Ec (st:Ai) (p:Nat) (r:List Nat) (pc:Nat):Ai:=
 {st with ends:=if BJ st p<0 then st.ends.set p (pc:Int) else(st.ends.set p (pc:Int)).set (BJ st p).toNat (pc:Int),op:=r}
def Ah (code:List Ad) (st:Ai) (pc:Nat):(Int×Int)⊕Ai:=
 if st.done then .inl (19,pc) else
 match code[pc]? with
 | none=> .inl (38,pc)
 | some x=>
  if Aw x.op then(if 32≤st.op.length then .inl (35,pc) else .inr {Ak st pc with op:=pc::st.op})
  else if x.op.toNat=5 then
   match st.op with
   | []=> .inl (37,pc)
   | p::_=>if opAt code p=4∧BJ st p<0 then .inr {Ak st pc with AJ:=st.AJ.set p (pc:Int)} else .inl (37,pc)
  else if x.op.toNat=6 then
   match st.op with
   | []=> .inr {Ak st pc with done:=true}
   | p::r=> .inr (Ec (Ak st pc) p r pc)
  else .inr (Ak st pc)
def IC (code:List Ad):Nat→Ai→(Int×Int)⊕Ai
 | 0,st=>if st.done then .inr st else .inl (38,code.length)
 | n+1,st=>match Ah code st (code.length-(n+1))with
  | .inl e=> .inl e
  | .inr st'=>IC code n st'
def Cw (n:Nat):Ai:=⟨List.replicate n (-1),List.replicate n (-1),List.replicate n (-1),[],false⟩
def ctl (code:List Ad):(Int×Int)⊕Ai:=IC code code.length (Cw code.length)
structure MJ (n:Nat) (pc:Nat) (st:Ai):Prop where
 ends:st.ends.length=n
 AJ:st.AJ.length=n
 A_:st.A_.length=n
 le:pc≤n
 few:st.op.length≤32
 low: ∀p∈st.op,p<pc
 bE: ∀v∈st.ends,-1≤v∧v<pc
 bL: ∀v∈st.AJ,-1≤v∧v<pc
 bO: ∀v∈st.A_,-1≤v∧v<pc
theorem J2 (n:Nat):MJ n 0 (Cw n):=by
 have h: ∀v∈List.replicate n (-1:Int),-1≤v∧v<((0:Nat):Int):=fun v hv=>by
  rw [List.eq_of_mem_replicate hv];decide
 exact⟨by simp [Cw],by simp [Cw],by simp [Cw],Nat.zero_le _,by simp [Cw],fun p hp=>by simp [Cw] at hp,h,h,h⟩
theorem IZ {l:List Int} {k:Nat} {x:Int} {a b b':Int} (h: ∀v∈l,a≤v∧v<b) (hb:b≤b') (h1:a≤x) (h2:x<b'): ∀v∈l.set k x,a≤v∧v<b':=by
 intro v hv
 rcases List.mem_or_eq_of_mem_set hv with h3 | rfl
 ·have:=h v h3;omega
 ·exact⟨h1,h2⟩
theorem XO {l:List Nat} {pc:Nat} (h: ∀p∈l,p<pc): -1≤EL l∧EL l<(pc+1:Nat):=by
 cases l with
 | nil=>simp [EL];omega
 | cons p r=>have:=h p (List.mem_cons_self ..);simp [EL];omega
theorem K_ {code:List Ad} {st st':Ai} {pc:Nat} (h:MJ code.length pc st) (hs:Ah code st pc= .inr st'):MJ code.length (pc+1) st':=by
 unfold Ah at hs
 split at hs
 ·cases hs
 split at hs
 ·cases hs
 ·rename_i x hx
  have hlt:=(List.getElem?_eq_some_iff.1 hx).1
  have ho:=IZ h.bO (k:=pc) (x:=EL st.op) (b':=((pc+1:Nat):Int)) (by omega) (XO h.low).1 (XO h.low).2
  have hE: ∀v∈st.ends,-1≤v∧v<((pc+1:Nat):Int):=fun v hv=>by have:=h.bE v hv;omega
  have hL: ∀v∈st.AJ,-1≤v∧v<((pc+1:Nat):Int):=fun v hv=>by have:=h.bL v hv;omega
  have hp: ∀p∈st.op,p<pc+1:=fun p hp=>by have:=h.low p hp;omega
  have hol:(st.A_.set pc (EL st.op)).length=code.length:=by rw [List.length_set];exact h.A_
  split at hs
  ·split at hs
   ·cases hs
   ·injection hs with hs;subst hs
    exact⟨h.ends,h.AJ,hol,hlt,by simp;omega,fun p hp'=>by
     rcases List.mem_cons.1 hp' with rfl | h1
     ·omega
     ·exact hp p h1,hE,hL,ho⟩
  ·split at hs
   ·split at hs
    ·cases hs
    ·rename_i p r hop
     split at hs
     ·injection hs with hs;subst hs
      exact⟨h.ends,by simp [h.AJ],hol,hlt,h.few,hp,hE,IZ h.bL (by omega) (by omega) (by omega),ho⟩
     ·cases hs
   ·split at hs
    ·split at hs
     ·injection hs with hs;subst hs
      exact⟨h.ends,h.AJ,hol,hlt,h.few,hp,hE,hL,ho⟩
     ·rename_i p r hop
      injection hs with hs;subst hs
      have hE1:=IZ h.bE (k:=p) (x:=(pc:Int)) (b':=((pc+1:Nat):Int)) (by omega) (by omega) (by omega)
      refine⟨?_,h.AJ,hol,hlt,?_,fun q hq=>hp q ?_,?_,hL,ho⟩
      ·simp only [Ec];split<;>simp [Ak,h.ends]
      ·have:=h.few;rw [hop] at this;simp [Ec] at this⊢;omega
      ·rw [hop];exact List.mem_cons_of_mem _ hq
      ·simp only [Ec]
       split
       ·exact hE1
       ·exact IZ hE1 (by omega) (by omega) (by omega)
    ·injection hs with hs;subst hs
     exact⟨h.ends,h.AJ,hol,hlt,h.few,hp,hE,hL,ho⟩
theorem JV {code:List Ad} {st st':Ai} {pc:Nat} (hpc:pc<code.length) (hs:Ah code st pc= .inr st'):IC code (code.length-pc) st=IC code (code.length-(pc+1)) st':=by
 rw [show code.length-pc=(code.length-(pc+1))+1 from by omega]
 show(match Ah code st (code.length-(code.length-(pc+1)+1))with | .inl e=>_ | .inr st'=>_)=_
 rw [show code.length-(code.length-(pc+1)+1)=pc from by omega,hs]
theorem LA {code:List Ad} {st:Ai} {e:Int×Int} {pc:Nat} (hpc:pc<code.length) (hs:Ah code st pc= .inl e):IC code (code.length-pc) st= .inl e:=by
 rw [show code.length-pc=(code.length-(pc+1))+1 from by omega]
 show(match Ah code st (code.length-(code.length-(pc+1)+1))with | .inl e=>_ | .inr st'=>_)=_
 rw [show code.length-(code.length-(pc+1)+1)=pc from by omega,hs]
theorem Pz {code:List Ad} {st:Ai} {pc:Nat} (hpc:pc=code.length):IC code (code.length-pc) st=if st.done then .inr st else .inl (38,(code.length:Int)):=by
 rw [hpc,Nat.sub_self];rfl
structure ZL where
 op:Nat
 word:ByteArray
 takes:Int
 pops:ByteArray
 pushes:ByteArray
 plain:Bool
def Dn:List ZL:= [
 ⟨0,⟨#[116,114,97,112]⟩,0,⟨#[]⟩,⟨#[]⟩,false⟩,
 ⟨1,⟨#[110,111,112]⟩,0,⟨#[]⟩,⟨#[]⟩,true⟩,
 ⟨2,⟨#[98,108,111,99,107]⟩,1,⟨#[]⟩,⟨#[]⟩,false⟩,
 ⟨3,⟨#[108,111,111,112]⟩,1,⟨#[]⟩,⟨#[]⟩,false⟩,
 ⟨4,⟨#[105,102]⟩,1,⟨#[]⟩,⟨#[]⟩,false⟩,
 ⟨5,⟨#[101,108,115,101]⟩,0,⟨#[]⟩,⟨#[]⟩,false⟩,
 ⟨6,⟨#[101,110,100]⟩,0,⟨#[]⟩,⟨#[]⟩,false⟩,
 ⟨7,⟨#[98,114]⟩,2,⟨#[]⟩,⟨#[]⟩,false⟩,
 ⟨8,⟨#[98,114,105,102]⟩,2,⟨#[]⟩,⟨#[]⟩,false⟩,
 ⟨9,⟨#[98,114,116,97,98,108,101]⟩,3,⟨#[]⟩,⟨#[]⟩,false⟩,
 ⟨10,⟨#[114,101,116,117,114,110]⟩,0,⟨#[]⟩,⟨#[]⟩,false⟩,
 ⟨11,⟨#[99,97,108,108]⟩,4,⟨#[]⟩,⟨#[]⟩,false⟩,
 ⟨12,⟨#[104,111,115,116]⟩,5,⟨#[]⟩,⟨#[]⟩,false⟩,
 ⟨16,⟨#[100,114,111,112]⟩,0,⟨#[]⟩,⟨#[]⟩,false⟩,
 ⟨17,⟨#[115,101,108,101,99,116]⟩,0,⟨#[]⟩,⟨#[]⟩,false⟩,
 ⟨18,⟨#[103,101,116]⟩,6,⟨#[]⟩,⟨#[]⟩,false⟩,
 ⟨19,⟨#[115,101,116]⟩,6,⟨#[]⟩,⟨#[]⟩,false⟩,
 ⟨20,⟨#[116,101,101]⟩,6,⟨#[]⟩,⟨#[]⟩,false⟩,
 ⟨21,⟨#[103,103,101,116]⟩,7,⟨#[]⟩,⟨#[]⟩,false⟩,
 ⟨22,⟨#[103,115,101,116]⟩,7,⟨#[]⟩,⟨#[]⟩,false⟩,
 ⟨24,⟨#[119,46,99,111,110,115,116]⟩,8,⟨#[]⟩,⟨#[119]⟩,true⟩,
 ⟨25,⟨#[108,46,99,111,110,115,116]⟩,8,⟨#[]⟩,⟨#[108]⟩,true⟩,
 ⟨32,⟨#[119,46,108,111,97,100,56,117]⟩,9,⟨#[119]⟩,⟨#[119]⟩,true⟩,
 ⟨33,⟨#[119,46,108,111,97,100,56,115]⟩,9,⟨#[119]⟩,⟨#[119]⟩,true⟩,
 ⟨34,⟨#[119,46,108,111,97,100,49,54,117]⟩,9,⟨#[119]⟩,⟨#[119]⟩,true⟩,
 ⟨35,⟨#[119,46,108,111,97,100,49,54,115]⟩,9,⟨#[119]⟩,⟨#[119]⟩,true⟩,
 ⟨36,⟨#[119,46,108,111,97,100]⟩,9,⟨#[119]⟩,⟨#[119]⟩,true⟩,
 ⟨37,⟨#[108,46,108,111,97,100]⟩,9,⟨#[119]⟩,⟨#[108]⟩,true⟩,
 ⟨38,⟨#[119,46,115,116,111,114,101,56]⟩,9,⟨#[119,119]⟩,⟨#[]⟩,true⟩,
 ⟨39,⟨#[119,46,115,116,111,114,101,49,54]⟩,9,⟨#[119,119]⟩,⟨#[]⟩,true⟩,
 ⟨40,⟨#[119,46,115,116,111,114,101]⟩,9,⟨#[119,119]⟩,⟨#[]⟩,true⟩,
 ⟨41,⟨#[108,46,115,116,111,114,101]⟩,9,⟨#[119,108]⟩,⟨#[]⟩,true⟩,
 ⟨42,⟨#[115,105,122,101]⟩,0,⟨#[]⟩,⟨#[119]⟩,true⟩,
 ⟨43,⟨#[103,114,111,119]⟩,0,⟨#[119]⟩,⟨#[119]⟩,true⟩,
 ⟨48,⟨#[119,46,101,113,122]⟩,0,⟨#[119]⟩,⟨#[119]⟩,true⟩,
 ⟨49,⟨#[119,46,101,113]⟩,0,⟨#[119,119]⟩,⟨#[119]⟩,true⟩,
 ⟨50,⟨#[119,46,110,101]⟩,0,⟨#[119,119]⟩,⟨#[119]⟩,true⟩,
 ⟨51,⟨#[119,46,108,116,115]⟩,0,⟨#[119,119]⟩,⟨#[119]⟩,true⟩,
 ⟨52,⟨#[119,46,108,116,117]⟩,0,⟨#[119,119]⟩,⟨#[119]⟩,true⟩,
 ⟨53,⟨#[119,46,108,101,115]⟩,0,⟨#[119,119]⟩,⟨#[119]⟩,true⟩,
 ⟨54,⟨#[119,46,108,101,117]⟩,0,⟨#[119,119]⟩,⟨#[119]⟩,true⟩,
 ⟨55,⟨#[119,46,99,108,122]⟩,0,⟨#[119]⟩,⟨#[119]⟩,true⟩,
 ⟨56,⟨#[119,46,99,116,122]⟩,0,⟨#[119]⟩,⟨#[119]⟩,true⟩,
 ⟨57,⟨#[119,46,112,111,112]⟩,0,⟨#[119]⟩,⟨#[119]⟩,true⟩,
 ⟨58,⟨#[119,46,97,100,100]⟩,0,⟨#[119,119]⟩,⟨#[119]⟩,true⟩,
 ⟨59,⟨#[119,46,115,117,98]⟩,0,⟨#[119,119]⟩,⟨#[119]⟩,true⟩,
 ⟨60,⟨#[119,46,109,117,108]⟩,0,⟨#[119,119]⟩,⟨#[119]⟩,true⟩,
 ⟨61,⟨#[119,46,100,105,118,115]⟩,0,⟨#[119,119]⟩,⟨#[119]⟩,true⟩,
 ⟨62,⟨#[119,46,100,105,118,117]⟩,0,⟨#[119,119]⟩,⟨#[119]⟩,true⟩,
 ⟨63,⟨#[119,46,114,101,109,115]⟩,0,⟨#[119,119]⟩,⟨#[119]⟩,true⟩,
 ⟨64,⟨#[119,46,114,101,109,117]⟩,0,⟨#[119,119]⟩,⟨#[119]⟩,true⟩,
 ⟨65,⟨#[119,46,97,110,100]⟩,0,⟨#[119,119]⟩,⟨#[119]⟩,true⟩,
 ⟨66,⟨#[119,46,111,114]⟩,0,⟨#[119,119]⟩,⟨#[119]⟩,true⟩,
 ⟨67,⟨#[119,46,120,111,114]⟩,0,⟨#[119,119]⟩,⟨#[119]⟩,true⟩,
 ⟨68,⟨#[119,46,115,104,108]⟩,0,⟨#[119,119]⟩,⟨#[119]⟩,true⟩,
 ⟨69,⟨#[119,46,115,104,114,115]⟩,0,⟨#[119,119]⟩,⟨#[119]⟩,true⟩,
 ⟨70,⟨#[119,46,115,104,114,117]⟩,0,⟨#[119,119]⟩,⟨#[119]⟩,true⟩,
 ⟨71,⟨#[119,46,114,111,116,108]⟩,0,⟨#[119,119]⟩,⟨#[119]⟩,true⟩,
 ⟨72,⟨#[119,46,114,111,116,114]⟩,0,⟨#[119,119]⟩,⟨#[119]⟩,true⟩,
 ⟨80,⟨#[108,46,101,113,122]⟩,0,⟨#[108]⟩,⟨#[119]⟩,true⟩,
 ⟨81,⟨#[108,46,101,113]⟩,0,⟨#[108,108]⟩,⟨#[119]⟩,true⟩,
 ⟨82,⟨#[108,46,110,101]⟩,0,⟨#[108,108]⟩,⟨#[119]⟩,true⟩,
 ⟨83,⟨#[108,46,108,116,115]⟩,0,⟨#[108,108]⟩,⟨#[119]⟩,true⟩,
 ⟨84,⟨#[108,46,108,116,117]⟩,0,⟨#[108,108]⟩,⟨#[119]⟩,true⟩,
 ⟨85,⟨#[108,46,108,101,115]⟩,0,⟨#[108,108]⟩,⟨#[119]⟩,true⟩,
 ⟨86,⟨#[108,46,108,101,117]⟩,0,⟨#[108,108]⟩,⟨#[119]⟩,true⟩,
 ⟨87,⟨#[108,46,99,108,122]⟩,0,⟨#[108]⟩,⟨#[108]⟩,true⟩,
 ⟨88,⟨#[108,46,99,116,122]⟩,0,⟨#[108]⟩,⟨#[108]⟩,true⟩,
 ⟨89,⟨#[108,46,112,111,112]⟩,0,⟨#[108]⟩,⟨#[108]⟩,true⟩,
 ⟨90,⟨#[108,46,97,100,100]⟩,0,⟨#[108,108]⟩,⟨#[108]⟩,true⟩,
 ⟨91,⟨#[108,46,115,117,98]⟩,0,⟨#[108,108]⟩,⟨#[108]⟩,true⟩,
 ⟨92,⟨#[108,46,109,117,108]⟩,0,⟨#[108,108]⟩,⟨#[108]⟩,true⟩,
 ⟨93,⟨#[108,46,100,105,118,115]⟩,0,⟨#[108,108]⟩,⟨#[108]⟩,true⟩,
 ⟨94,⟨#[108,46,100,105,118,117]⟩,0,⟨#[108,108]⟩,⟨#[108]⟩,true⟩,
 ⟨95,⟨#[108,46,114,101,109,115]⟩,0,⟨#[108,108]⟩,⟨#[108]⟩,true⟩,
 ⟨96,⟨#[108,46,114,101,109,117]⟩,0,⟨#[108,108]⟩,⟨#[108]⟩,true⟩,
 ⟨97,⟨#[108,46,97,110,100]⟩,0,⟨#[108,108]⟩,⟨#[108]⟩,true⟩,
 ⟨98,⟨#[108,46,111,114]⟩,0,⟨#[108,108]⟩,⟨#[108]⟩,true⟩,
 ⟨99,⟨#[108,46,120,111,114]⟩,0,⟨#[108,108]⟩,⟨#[108]⟩,true⟩,
 ⟨100,⟨#[108,46,115,104,108]⟩,0,⟨#[108,108]⟩,⟨#[108]⟩,true⟩,
 ⟨101,⟨#[108,46,115,104,114,115]⟩,0,⟨#[108,108]⟩,⟨#[108]⟩,true⟩,
 ⟨102,⟨#[108,46,115,104,114,117]⟩,0,⟨#[108,108]⟩,⟨#[108]⟩,true⟩,
 ⟨103,⟨#[108,46,114,111,116,108]⟩,0,⟨#[108,108]⟩,⟨#[108]⟩,true⟩,
 ⟨104,⟨#[108,46,114,111,116,114]⟩,0,⟨#[108,108]⟩,⟨#[108]⟩,true⟩,
 ⟨112,⟨#[119,46,119,114,97,112]⟩,0,⟨#[108]⟩,⟨#[119]⟩,true⟩,
 ⟨113,⟨#[108,46,101,120,116,101,110,100,115]⟩,0,⟨#[119]⟩,⟨#[108]⟩,true⟩,
 ⟨114,⟨#[108,46,101,120,116,101,110,100,117]⟩,0,⟨#[119]⟩,⟨#[108]⟩,true⟩,
 ⟨115,⟨#[119,46,101,120,116,56]⟩,0,⟨#[119]⟩,⟨#[119]⟩,true⟩,
 ⟨116,⟨#[119,46,101,120,116,49,54]⟩,0,⟨#[119]⟩,⟨#[119]⟩,true⟩,
 ⟨117,⟨#[108,46,101,120,116,51,50]⟩,0,⟨#[108]⟩,⟨#[108]⟩,true⟩]
def Aq (n:Nat):Option ZL:=Dn.find? (fun r=>r.op==n)
theorem JI {n:Nat} {r:ZL} (h:Aq n=some r):r∈Dn∧r.op=n:=⟨List.mem_of_find?_eq_some h,by have:=List.find?_some h;simpa using this⟩
def wconst:ByteArray:=⟨#[119,46,99,111,110,115,116]⟩
def BO (r:ZL):Int×Int:=
 if r.takes=1∨r.takes=2∨r.takes=4∨r.takes=5∨r.takes=6∨r.takes=7 then(0,2147483647) else
 if r.takes=9 then(0,4294967295) else
 if r.takes=8 then(if r.word=wconst then(-2147483648,2147483647) else(-9223372036854775808,9223372036854775807)) else(0,0)
def Ar (x:Ad):Int:=match Aq x.op.toNat with
 | none=>21
 | some r=>if ¬((BO r).1≤x.a∧x.a≤(BO r).2) then 17 else
  if r.takes≠3 then(if 0<x.l.length then 17 else 0) else
  if x.l.length<1∨16<x.l.length then 17 else
  if x.l.all (fun n=>decide (0≤n∧n≤2147483647)) then 0 else 17
theorem Ck {w:World} {base:Nat} {e:TypeId} {v:Value} {n:Nat} {xs:List Value} (h:w.ownsRow base e 1 v n xs): ∃A c,v= .slice A n c:=by
 rcases h.2 with⟨rfl,rfl⟩ | ⟨g,cap,cur,rfl,_⟩
 ·exact⟨_,_,rfl⟩
 ·exact⟨_,_,rfl⟩
theorem bK {w:World} {base:Nat} {e:TypeId} {A:Option Addr} {n m c:Nat} {xs:List Value} (h:w.ownsRow base e 1 (.slice A n c) m xs):n=m∧n≤c:=by
 rcases h.2 with⟨hv,rfl⟩ | ⟨g,cap,cur,hv,_,_,hc,_⟩
 ·injection hv with h1 h2 h3;omega
 ·injection hv with h1 h2 h3;omega
theorem own_below {w w':World} {base:Nat} {e:TypeId} {v:Value} {n:Nat} {xs:List Value} (h:w.ownsRow base e 1 v n xs) (hg:w.grownBy w' v.ownBlock) (hB:base≤w.heap.size):Below base w w':=
 (Below.refl base w).grown hg hB fun k hk=>(h.lt k hk).1
theorem kE {P:Program} (w:World) (base:Nat) (t ty e:TypeId) (i:TypeInfo) (ht:P.underlying t=some (.slice e)) (hi:P.info? e=some i)
 (v:Value) (n:Nat) (xs:List Value) (hown:w.ownsRow base e 1 v n xs) (c:Nat):(Builtin.append_ #[t,t] ty #[v,.slice none 0 c]).run P w= .ok v w:=by
 rcases hown.2 with⟨rfl,rfl⟩ | ⟨g,cap,cur,rfl,_,_,hnc,_⟩
 ·simp [Builtin.append_,run_underlying ht,sizeOf,typeInfo,hi,Builtin.lenOf,Builtin.firstCells]
 ·simp [Builtin.append_,run_underlying ht,sizeOf,typeInfo,hi,Builtin.lenOf,Builtin.firstCells,hnc,storeCells]
theorem rR {P:Program} (w:World) (base:Nat) (t ty e:TypeId) (i:TypeInfo) (z:Value) (bytes:Nat) (ht:P.underlying t=some (.slice e)) (hi:P.info? e=some i) (hz:i.zero=some z)
 (hsize:i.size=1) (hby:i.bytes=bytes) (hzs:z.cells.size=1)
 (v:Value) (n:Nat) (xs:List Value) (hown:w.ownsRow base e 1 v n xs)
 (B:Nat) (A:Option Addr) (m c:Nat) (news:List Value) (hm:m=news.length) (hr:Row w B A news) (h1: ∀u∈news,u.oneCell'=true)
 (h63:n+m≤maxLen) (hbytes:(n+m)*bytes≤140737488355328) (hbase:base≤w.heap.size):
 ∃v' w',(Builtin.append_ #[t,t] ty #[v,.slice A m c]).run P w= .ok v' w'∧w'.ownsRow base e 1 v' (n+m) (xs++news)∧w.grownBy w' v.ownBlock∧
  (v'.ownBlock=v.ownBlock∨v'.ownBlock=some w.heap.size):=by
 rcases A with _ | ad
 ·have hnil:news= []:=by
   rcases Nat.eq_zero_or_pos news.length with h0 | h0
   ·exact List.eq_nil_of_length_eq_zero h0
   ·obtain⟨_,_,h',_⟩:=hr h0
    cases h'
  subst hnil
  simp only [List.length_nil] at hm
  subst hm
  exact⟨v,w,kE w base t ty e i ht hi v n xs hown c,by simpa using hown,World.grownBy.refl w _,.inl rfl⟩
 ·obtain⟨v',w',hrun,h2,h3,_,h5⟩:=run_append_own_at (P:=P) w base t ty e i z 1 bytes ht hi hz hsize hby hzs (by omega) v n xs hown ad m c news (by omega) (fun j u hu=>by
   have hj:=(List.getElem?_eq_some_iff.1 hu).1
   obtain⟨b,o,h',_,hc⟩:=hr (by omega)
   injection h' with h'
   subst h'
   rw [Addr.add_lit]
   exact hc j u hu) h1 h63 hbytes hbase
  exact⟨v',w',hrun,h2,h3,h5⟩
theorem D9 {P:Program} (w:World) {ops:Array Oper} {rest:List Oper} {o:Oper} {a:Act} {Q:Exit→Act→World→Prop} (hgd:o.guard=none) (s x:Operand) (t:TypeId)
 (ho:o.op= .call {callee:= .builtin .append,args:= #[s,x],argTypes:= #[t,t]})
 (base:Nat) (e:TypeId) (i:TypeInfo) (z:Value) (bytes:Nat) (ht:P.underlying t=some (.slice e)) (hi:P.info? e=some i) (hz:i.zero=some z)
 (hsize:i.size=1) (hby:i.bytes=bytes) (hzs:z.cells.size=1)
 (v:Value) (n:Nat) (xs:List Value) (hs:a.eval s=v) (hown:w.ownsRow base e 1 v n xs)
 (B:Nat) (A:Option Addr) (m c:Nat) (news:List Value) (hx:a.eval x= .slice A m c) (hm:m=news.length) (hr:Row w B A news) (h1: ∀u∈news,u.oneCell'=true)
 (h63:n+m≤maxLen) (hbytes:(n+m)*bytes≤140737488355328) (hbase:base≤w.heap.size)
 (h: ∀A' c' w',w'.ownsRow base e 1 (.slice A' (n+m) c') (n+m) (xs++news)→w.grownBy w' v.ownBlock→((Value.slice A' (n+m) c').ownBlock=v.ownBlock∨(Value.slice A' (n+m) c').ownBlock=some w.heap.size)→wpList P ops Q rest (a.put o.dst (.slice A' (n+m) c')) w'):wpList P ops Q (o::rest) a w:=by
 refine wpList_plain hgd fun _ hK=> ?_
 obtain⟨v',w',hrun,h2,h3,h4⟩:=rR (P:=P) w base t o.type e i z bytes ht hi hz hsize hby hzs v n xs hown B A m c news hm hr h1 h63 hbytes hbase
 obtain⟨A',c',rfl⟩:=Ck h2
 unfold Oper.wp execOp
 simp only [ho,resolve,invoke,builtin,Sem.run_bind,Sem.run_pure,Result.andThen_ok,List.map_toArray,List.map_cons,List.map_nil,hs,hx,hrun]
 exact hK _ _ (h A' c' w' h2 h3 h4)
theorem row_one (w:World) (x:Value) (t:TypeId):Row (w.alloc (.cells #[x] t)) (w.heap.size+1) (some ⟨w.heap.size,0,none⟩) [x]:=by
 intro _
 refine⟨w.heap.size,0,rfl,Nat.lt_succ_self _,fun j u hu=> ?_⟩
 have:=cell_one_new w x t j u hu
 rwa [Addr.add_lit] at this
theorem Ew (l:List UInt8): ∀u∈l.map bv,u.oneCell'=true:=by
 intro u hu
 obtain⟨_,_,rfl⟩:=List.mem_map.1 hu
 rfl
def enc (v:Nat):List UInt8:=if v<128 then [UInt8.ofNat v] else UInt8.ofNat (v%128+128)::enc (v/128)
 termination_by v
theorem FX (v:Nat) (h:v<128):enc v= [UInt8.ofNat v]:=by rw [enc,if_pos h]
theorem NA (v:Nat) (h: ¬v<128):enc v=UInt8.ofNat (v%128+128)::enc (v/128):=by rw [enc,if_neg h]
theorem bM: ∀(n v:Nat),v<128^(n+1)→(enc v).length≤n+1
 | 0,v,h=>by rw [FX v (by omega)];simp
 | n+1,v,h=>by
  by_cases h1:v<128
  ·rw [FX v h1];simp
  ·rw [NA v h1]
   have:=bM n (v/128) (by rw [Nat.div_lt_iff_lt_mul (by omega)];rw [Nat.pow_succ] at h;exact h)
   simp;omega
theorem AU (v:Nat) (h:v<18446744073709551616):(enc v).length≤10:=bM 9 v (Nat.lt_of_lt_of_le h (by decide))
theorem E9 (v:Nat):0<(enc v).length:=by
 by_cases h1:v<128
 ·rw [FX v h1];simp
 ·rw [NA v h1];simp
theorem ACs (c:Nat) (h:c<256):bits .or .u8 (c:Int) 128=((c%128+128:Nat):Int):=by
 have:=u8_or_nat c 128 h (by omega)
 rw [show((128:Nat):Int)=128 from rfl] at this
 rw [this]
 congr 1
 have: ∀c:Fin 256,c.val||| 128=c.val%128+128:=by decide+kernel
 exact this ⟨c,h⟩
theorem EU (x:Nat) (h:x<256):bv (UInt8.ofNat x)= .int .u8 (x:Int):=by
 unfold bv
 rw [UInt8.toNat_ofNat_of_lt' (by simpa using h)]
end Go.Proofs.YtlagonfamllgjaaGreatDoor
