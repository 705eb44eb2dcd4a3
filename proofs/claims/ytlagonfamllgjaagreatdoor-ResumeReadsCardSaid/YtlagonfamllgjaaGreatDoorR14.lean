/- Part 14 of the proof: ModP ModA ModB ValP ValQ ModC ModD ModE ModF -/
import Derived.Defers
import Derived.Recover
import Derived.WalkSmall
import Derived.Deep.DrawnRows
import Derived.Deep.RegionHeldLaw
import Derived.Deep.RegionHeld3
import Derived.RegionDies
import Derived.Test.YtlagonfamllgjaaGreatDoorR03
import Derived.Test.YtlagonfamllgjaaGreatDoorR04
namespace Go.Proofs.YtlagonfamllgjaaGreatDoor
set_option linter.unusedVariables false
set_option linter.unusedSimpArgs false
set_option maxRecDepth 100000
set_option maxHeartbeats 4000000
open Go.RowKit Tryz
def Cg (a b:Int):Int:=if a=0 then b else a
theorem AU {a b:Int} (h:Cg a b=0):a=0∧b=0:=by
 unfold Cg at h
 by_cases h0:a=0
 ·rw [if_pos h0] at h;exact⟨h0,h⟩
 ·rw [if_neg h0] at h;exact absurd h h0
theorem Bn {a b:Int} (h:a≠0):Cg a b=a:=if_neg h
theorem AX {a b:Int} (h:a=0):Cg a b=b:=if_pos h
theorem EG (a b c:Int):Cg (Cg a b) c=Cg a (Cg b c):=by
 unfold Cg;by_cases h:a=0<;>simp [h]
def Aa:Nat→(Nat→Int)→Int
 | 0,_=>0
 | n+1,f=>Cg (Aa n f) (f n)
theorem CQ {k:Nat} {f:Nat→Int} (h0:Aa k f=0) (h:f k=0):Aa (k+1) f=0:=by
 show Cg _ _=0
 rw [h0,AX rfl,h]
theorem Da {k:Nat} {f:Nat→Int} (h0:Aa k f=0) (h:f k≠0): ∀n,k<n→Aa n f=f k
 | 0,hn=>absurd hn (Nat.not_lt_zero _)
 | n+1,hn=>by
  show Cg _ _=_
  by_cases e:k=n
  ·subst e;rw [h0,AX rfl]
  ·rw [Da h0 h n (by omega),Bn h]
theorem BP: ∀ {n:Nat} {f:Nat→Int},Aa n f=0→ ∀j,j<n→f j=0
 | 0,_,_,_,hj=>absurd hj (Nat.not_lt_zero _)
 | n+1,f,h,j,hj=>by
  have:=AU (a:=Aa n f) (b:=f n) h
  by_cases e:j=n
  ·subst e;exact this.2
  ·exact BP this.1 j (by omega)
def Ab (b:Bool) (e:Int):Int:=if b then 0 else e
theorem BQ {b:Bool} {e:Int} (h:b=true):Ab b e=0:=by rw [h];rfl
theorem Bw {b:Bool} {e:Int} (h:b=false):Ab b e=e:=by rw [h];rfl
def Bz (s:ByteArray) (most:Int):Int:=Cg (Ab (decide ((s.size:Int)≤most)) 13) (Ab (Y4 s) 15)
def J3 (x y:CW):Bool:=decide (x.p=y.p)&&decide (x.r=y.r)
def Yj (l:List CW) (k:Nat):Int:=match l[k]? with
 | none=>0
 | some x=>Cg (Bz x.p 8) (Cg (Bz x.r 8) (Ab (!(l.take k).any (fun y=>J3 y x)) 16))
def Gg (m:AP) (k:Nat):Int:=match m.hosts[k]? with
 | none=>0
 | some t=>Ab (decide (0≤t∧t<m.types.length)) 30
def Gh (m:AP) (k:Nat):Int:=match m.globs[k]? with
 | none=>0
 | some x=>Cg (Ab (MQ x.l.toNat) 15) (Ab (Du x.v x.l.toNat) 17)
def FP (m:AP):Int:=Ab (decide (0≤m.first∧m.first≤64∧m.first≤m.most∧m.most≤64)) 17
def Jj (m:AP) (t:Int):Nat:=match m.types[t.toNat]? with
 | none=>0
 | some x=>x.p.size
def J4 (f:Bt) (j:Nat):Int:=match f.code[j]? with
 | none=>0
 | some x=>Aq x
def Et (m:AP) (k:Nat):Nat:=BM (fun f:Bt=>f.code.length) (m.fns.take k)
def TY (m:AP) (k:Nat):Int:=match m.fns[k]? with
 | none=>0
 | some f=>Cg (Ab (decide (0≤f.t∧f.t<m.types.length)) 30) (Cg (Bz f.loc (64-Jj m f.t)) (Cg (Ab (decide (f.code.length≤2048)) 20) (Cg (Ab (decide (Et m (k+1)≤16384)) 20) (Aa f.code.length (J4 f)))))
def Kl (m:AP) (k:Nat):Int:=match m.dat[k]? with
 | none=>0
 | some d=>Cg (Ab (decide (0≤d.at_∧d.at_≤m.first*4096)) 17) (Cg (if k=0 then 0 else match m.dat[k-1]? with | none=>0 | some y=>Ab (decide (y.at_+y.b.length<d.at_)) 18) (Cg (Ab (decide ((d.b.length:Int)≤m.first*4096-d.at_)) 13) (Ab (decide (0<d.b.length)) 17)))
def OL (a b:ByteArray):Bool:=Op.bytesLess a.toList b.toList||a.toList==b.toList
def PS (c:UInt8):Bool:=decide (32<c.toNat∧c.toNat<127)
def M_ (s:ByteArray):Int:=Cg (Ab (decide (s.size≤32)) 13) (Cg (Ab (decide (0<s.size)) 23) (Ab (s.data.toList.all PS) 23))
def Ri (l:List LC) (k:Nat) (s:ByteArray):Int:=if k=0 then 0 else match l[k-1]? with
 | none=>0
 | some y=>Ab (!(OL s y.n)) 18
def PU (m:AP) (k:Nat):Int:=match m.Aw[k]? with
 | none=>0
 | some x=>Cg (M_ x.n) (Cg (Ri m.Aw k x.n) (Ab (decide (0≤x.f∧x.f<m.fns.length)) 30))
def Dh (m:AP):Int:=Cg (Ab (decide (m.types.length≤64)) 20) (Aa m.types.length (Yj m.types))
def Dx (m:AP):Int:=Cg (Ab (decide (m.hosts.length≤32)) 20) (Aa m.hosts.length (Gg m))
def Eu (m:AP):Int:=Cg (Ab (decide (m.globs.length≤64)) 20) (Aa m.globs.length (Gh m))
def IY (m:AP):Int:=Cg (Dh m) (Cg (Dx m) (Cg (Eu m) (FP m)))
def I8 (m:AP):Int:=Cg (Ab (decide (m.fns.length≤128)) 20) (Aa m.fns.length (TY m))
def FY (m:AP):Int:=Cg (Ab (decide (m.dat.length≤64)) 20) (Aa m.dat.length (Kl m))
def IZ (m:AP):Int:=Cg (Ab (decide (m.Aw.length≤64)) 20) (Aa m.Aw.length (PU m))
def IE (m:AP):Int:=Cg (I8 m) (Cg (FY m) (IZ m))
def Jk (m:AP):Int:=Cg (IY m) (IE m)
def FM (s:ByteArray):List UInt8:=enc s.size++s.data.toList
def LD (x:CW):List UInt8:=FM x.p++FM x.r
def Ej (x:Ei):Int:=if x.l.toNat=119∧2147483648≤x.v then(x.v:Int)-4294967296 else if x.v<9223372036854775808 then(x.v:Int) else(x.v:Int)-18446744073709551616
def FZ (x:Ei):List UInt8:= [x.l,if x.m then 1 else 0]++enc (folded (Ej x))
def Gc (x:Ad):List UInt8:=match Au x.op.toNat with
 | none=> []
 | some r=>x.op::(if r.takes=0 then [] else if r.takes=8 then enc (folded x.a) else if r.takes=3 then enc x.l.length++x.l.flatMap (fun n=>enc n.toNat) else enc x.a.toNat)
def UY (f:Bt):List UInt8:=enc f.t.toNat++FM f.loc++enc f.code.length++f.code.flatMap Gc
def I9 (d:Gn):List UInt8:=enc d.at_.toNat++(enc d.b.length++d.b)
def Jl (x:LC):List UInt8:=FM x.n++enc x.f.toNat
def NY (m:AP):List UInt8:=enc m.types.length++m.types.flatMap LD
def NZ (m:AP):List UInt8:=enc m.hosts.length++m.hosts.flatMap (fun t=>enc t.toNat)
def Na (m:AP):List UInt8:=enc m.globs.length++m.globs.flatMap FZ
def NA (m:AP):List UInt8:=NY m++(NZ m++(Na m++(enc m.first.toNat++enc m.most.toNat)))
def Rj (m:AP):List UInt8:=(enc m.fns.length++m.fns.flatMap UY)++((enc m.dat.length++m.dat.flatMap I9)++(enc m.Aw.length++m.Aw.flatMap Jl))
def Ll:List UInt8:= [70,76,71,78,1]
def J5 (m:AP):List UInt8:=Ll++(NA m++Rj m)
def F9 (m:AP):Int:=Cg (Jk m) (Ab (decide ((J5 m).length≤65536)) 13)
theorem EH {α:Type} {f:α→List UInt8} {l:List α} {k:Nat} {x:α} (h:l[k]?=some x):(l.take (k+1)).flatMap f=(l.take k).flatMap f++f x:=by
 have hk:=(List.getElem?_eq_some_iff.1 h)
 rw [List.take_succ_eq_append_getElem hk.1,hk.2,List.flatMap_append]
 simp
theorem jH {α:Type} {f:α→List UInt8} {l:List α} {k:Nat} (h:k=l.length):(l.take k).flatMap f=l.flatMap f:=by
 rw [List.take_of_length_le (by omega)]
theorem OM {α:Type} {f:α→List UInt8} {c:Nat}: ∀ {l:List α},(∀x∈l,(f x).length≤c)→(l.flatMap f).length≤l.length*c
 | [],_=>by simp
 | x::l,h=>by
  rw [List.flatMap_cons,List.length_append,List.length_cons,Nat.add_mul,Nat.one_mul]
  have h1:=h x (List.mem_cons_self ..)
  have h2:=OM (fun y hy=>h y (List.mem_cons_of_mem _ hy)) (l:=l)
  omega
def fault (e at_:Int):Value:= .iface 226 (.agg #[.int .i64 e,.int .i64 at_])
def thrown (e at_:Int):List PanicEntry:= [{v:=fault e at_,recovered:=false}]
def Ends (err at_:Int) (e:Ending):Prop:=(err=0∧e= .returned (.tuple #[]))∨(err≠0∧e= .panicked (thrown err at_))
theorem Dl (e at_:Int) (w:World):Calls prog 130 #[.bool true,.int .i64 e,.int .i64 at_] w fun en w'=>w=w'∧en= .returned (.tuple #[]):=by
 go_enter func130,ntmps130
 go_wp2
 go_end0
 exact⟨rfl,rfl⟩
theorem DF (e at_:Int) (w:World):Calls prog 130 #[.bool false,.int .i64 e,.int .i64 at_] w fun en w'=>w=w'∧en= .panicked (thrown e at_):=by
 go_enter func130,ntmps130
 go_wp2
 exact⟨rfl,rfl,rfl⟩
theorem En (b:Bool) (e at_:Int) (he:e≠0) (w:World):Calls prog 130 #[.bool b,.int .i64 e,.int .i64 at_] w fun en w'=>w=w'∧Ends (Ab b e) at_ en:=by
 cases b with
 | true=>exact(Dl e at_ w).mono fun en w' h=>⟨h.1,.inl ⟨rfl,h.2⟩⟩
 | false=>exact(DF e at_ w).mono fun en w' h=>⟨h.1,.inr ⟨he,h.2⟩⟩
theorem XT (pe pa:Addr) (w:World):
 CallsD prog 127 #[.pointer (some pe),.pointer (some pa)] .returning w fun e u' w'=>e= .returned (.tuple #[])∧u'= .returning∧w'=w:=by
 refine callsD_of_wpS func127 rfl fun c₀ cs hu=> ?_
 apply wpS_seq
 apply wpS_region
 simp [wpOpsS,go_sem,recoverD,hu,ntmps127,Exit.thenS,Array.replicate]
 have Hu:=AA hu;clear hu
 refine wpS_of_wp ?_
 go_wp2_with fail
 simp [bodyPostS,results,results127,←Hu.out]
theorem VZ (v:Value) (W:World):(Instr.typeAssert (.iface 226 v) 20 226 true).run prog W= .ok (.tuple #[v,.bool true]) W:=by kernel_rfl
theorem Kq (err at_:Int) (ge ga:Nat) (e0 a0:Int) (w:World) (he:AQ w ge 41 [.int .i64 e0]) (ha:AQ w ga 3 [.int .i64 a0]) (hne:ge≠ga):
 CallsD prog 127 #[.pointer (some ⟨ge,0,none⟩),.pointer (some ⟨ga,0,none⟩)] (.panicking (thrown err at_)) w fun e u' w'=>
  e= .returned (.tuple #[])∧u'= .panicking [{v:=fault err at_,recovered:=true}]∧Keep (fun k=>k≠ge∧k≠ga) w w'∧AQ w' ge 41 [.int .i64 err]∧AQ w' ga 3 [.int .i64 at_]:=by
 refine callsD_of_wpS func127 rfl fun c₀ cs hu=> ?_
 apply wpS_seq
 apply wpS_region
 simp [wpOpsS,go_sem,recoverD,hu,ntmps127,Exit.thenS,thrown,Array.replicate]
 have Hu:=AA hu;clear hu
 refine wpS_of_wp ?_
 have He:=AA he;have Ha:=AA ha
 have hge:=he.lt
 have hga:=ha.lt
 have hc1:=he.q 0 rfl
 have hc2:=ha.q 0 rfl
 have hf1:=he.frozen 0
 have hf2:=ha.frozen 0
 clear he ha
 unfold fault
 have has:=VZ (.agg #[.int .i64 err,.int .i64 at_])
 go_wp2_with fail
 go_region
 all_goals go_wp2_with fail
 have hk:Keep (fun k=>k≠ge∧k≠ga) w ((((w.setCell ⟨ge,0,none⟩ (.int .i64 err)).setCell ⟨ga,0,none⟩ (.int .i64 at_)).alloc (.cells #[.int .i64 err,.int .i64 at_] 226)).drew):=
  ((((Keep.refl _ w).setCell (p:=⟨ge,0,none⟩) (by simp) _).setCell (p:=⟨ga,0,none⟩) (by simp) _).alloc _).drew
 have hb1:AQ ((((w.setCell ⟨ge,0,none⟩ (.int .i64 err)).setCell ⟨ga,0,none⟩ (.int .i64 at_)).alloc (.cells #[.int .i64 err,.int .i64 at_] 226)).drew) ge 41 [.int .i64 err]:=
  (((He.out.set 0 (.int .i64 err)).far (p:=⟨ga,0,none⟩) hne _).alloc _).drewN 1
 have hb2:AQ ((((w.setCell ⟨ge,0,none⟩ (.int .i64 err)).setCell ⟨ga,0,none⟩ (.int .i64 at_)).alloc (.cells #[.int .i64 err,.int .i64 at_] 226)).drew) ga 3 [.int .i64 at_]:=
  (((Ha.out.far (p:=⟨ge,0,none⟩) (Ne.symm hne) _).set 0 (.int .i64 at_)).alloc _).drewN 1
 refine⟨rfl,_,rfl,.tuple #[],?_,rfl,rfl,hk,hb1,hb2⟩
 simp [results,results127]
theorem Ja (u:FrameMode) (ge gb:Nat) (e0:Int) (v:Value) (w:World) (he:AQ w ge 41 [.int .i64 e0]) (hb:AQ w gb 40 [v]):
 CallsD prog 126 #[.pointer (some ⟨ge,0,none⟩),.pointer (some ⟨gb,0,none⟩)] u w fun e u' w'=>
  u'=u∧(e= .returned (.tuple #[])∧Keep (fun k=>k≠gb) w w'∧AQ w' gb 40 [if e0=0 then v else .slice none 0 0]):=by
 have He:=AA he;have Hb:=AA hb
 have hge:=he.lt
 have hgb:=hb.lt
 have hc1:=he.q 0 rfl
 have hc2:=hb.q 0 rfl
 have hf2:=hb.frozen 0
 clear he hb
 by_cases h0:e0=0
 ·subst h0
  go_enter_d func126,ntmps126
  go_wp2_with fail
  go_end0
  exact⟨rfl,Keep.refl _ _,Hb.out⟩
 ·have hne:(e0 !=0)=true:=by simpa using h0
  rw [if_neg h0]
  go_enter_d func126,ntmps126
  go_wp2_with fail
  go_end0
  exact⟨rfl,(Keep.refl _ _).setCell (by simp) _,Hb.out.set 0 _⟩
structure qB (W:World) (base g:Nat) (K:Nat→Prop) (mp:Value) (all:Int) (l:List UInt8) (A:Option Addr) (c:Nat):Prop where
 blk:AQ W g 194 [mp,.int .i64 all,.slice A l.length c]
 own:FJ W base 5 (.slice A l.length c) l.length (l.map bv)
 low:base≤g
 kg: ¬K g
 apart: ∀k,(Value.slice A l.length c).ownBlock=some k→ ¬K k∧k≠g
 lt: ∀k,K k→k<W.heap.size
def Wr (W:World) (base g:Nat) (K:Nat→Prop) (mp:Value) (all:Int) (l:List UInt8):Prop:= ∃A c,qB W base g K mp all l A c
section
variable {W W':World} {base g:Nat} {K:Nat→Prop} {mp:Value} {all:Int} {l:List UInt8} {A:Option Addr} {c:Nat}
theorem qB.ES (h:qB W base g K mp all l A c) (hb:Below W.heap.size W W'):qB W' base g K mp all l A c:=
 ⟨h.blk.below hb h.blk.lt,h.own.XU hb,h.low,h.kg,h.apart,fun k hk=>Nat.lt_of_lt_of_le (h.lt k hk) hb.size⟩
theorem Wr.ES (h:Wr W base g K mp all l) (hb:Below W.heap.size W W'):Wr W' base g K mp all l:=let ⟨A,c,h⟩:=h;⟨A,c,h.ES hb⟩
theorem qB.put (h:qB W base g K mp all l A c) {news:List UInt8} {A':Option Addr} {c' m:Nat} (hm:m=news.length) (hg:W.grownBy W' (Value.slice A l.length c).ownBlock)
 (ho:W'.ownsRow base 5 1 (.slice A' (l.length+m) c') (l.length+m) (l.map bv++news.map bv))
 (hb:(Value.slice A' (l.length+m) c').ownBlock=(Value.slice A l.length c).ownBlock∨(Value.slice A' (l.length+m) c').ownBlock=some W.heap.size):
 Keep K W (W'.setCell ⟨g,2,none⟩ (.slice A' (l.length+m) c'))∧Wr (W'.setCell ⟨g,2,none⟩ (.slice A' (l.length+m) c')) base g K mp all (l++news):=by
 subst hm
 have hgl:=h.blk.lt
 have hap: ∀k,(Value.slice A' (l.length+news.length) c').ownBlock=some k→ ¬K k∧k≠g:=fun k hk=>by
  rcases hb with e | e
  ·exact h.apart k (e▸hk)
  ·rw [e] at hk;injection hk with hk;subst hk
   exact⟨fun hK=>by have:=h.lt _ hK;omega,by omega⟩
 have hblk:AQ W' g 194 [mp,.int .i64 all,.slice A l.length c]:=(hg.block g hgl (fun e=>(h.apart g e.symm).2 rfl)).trans h.blk
 refine⟨((Keep.refl K W).grown hg (fun k hk=>(h.apart k hk).1)).setCell h.kg _,A',c',⟨?_,?_,h.low,h.kg,?_,fun k hk=> ?_⟩⟩
 ·rw [List.length_append];exact hblk.set 2 _
 ·rw [List.length_append,List.map_append]
  exact .inl (BH ho (fun e=>(hap g e).2 rfl) _)
 ·rw [List.length_append];exact hap
 ·have h1:=h.lt k hk
  have h2:=hg.size
  simp [World.setCell];omega
end
def Lr (err:Int) (e:Ending) (P:Prop):Prop:=(err=0∧e= .returned (.tuple #[])∧P)∨(err≠0∧e= .panicked (thrown err 0))
theorem Pb (n:Nat) (hn:n<9223372036854775808) (base g:Nat) (K:Nat→Prop) (mp:Value) (all:Int) (l:List UInt8) (w:World) (h:Wr w base g K mp all l) (hl:l.length≤1099511627776) (hbase:base≤w.heap.size):
 Calls prog 158 #[.pointer (some ⟨g,0,none⟩),.int .i64 n] w fun e w'=>e= .returned (.tuple #[])∧Keep K w w'∧Wr w' base g K mp all (l++enc n):=by
 obtain⟨A,c,h⟩:=h
 have H:=AA h
 have hc0:=h.blk.q 2 rfl
 have hlt:=h.blk.lt
 have hf:=h.blk.frozen 2
 have henc:=AY n (by omega)
 have hwr:IntKind.u64.wrap (n:Int)=(n:Int):=by rw [IntKind.wrap_u64];omega
 clear h
 obtain⟨i0,hi0,hz,hs',hby⟩:=info_parts Dt
 go_enter func158,ntmps158
 go_wp2_with fail
 go_region_law
  (first
   | (go_simp;go_at_call 102;refine(F7 n (by omega) _).mono ?_;rintro e w1 ⟨A1,c1,rfl,h2,h3⟩;have hb1:Below w.heap.size w w1:=⟨h3.os,h3.tape,h3.output,h3.size,h3.block⟩;have HR:=AA (Row.own h2);have H1:=AA (H.out.ES hb1);have HB1:=AA hb1;have Ls:Hid (Keep K w w1):=AA (Keep.DC hb1);have hc1:=H1.out.blk.q 2 rfl;have hf1:=H1.out.blk.frozen 2;clear h2 h3 hb1)
   | (refine F6 rfl (.tmp 8) (.tmp 11) 40 rfl base 5 i0 _ 1 underlying40 hi0 hz hs' hby rfl _ l.length (l.map bv) rfl (by exact H1.out.own) _ A1 (enc n).length c1 ((enc n).map bv) (FC n) rfl (by rw [List.length_map,Nat.mul_one]) (by exact HR.out) (Eh _) (by unfold maxLen;omega) (by omega) (Nat.le_trans hbase HB1.out.size) ?_;intro A4 c4 w4 h2 h3 h4;have HP:=AA (H1.out.put rfl h3 h2 h4);have XZ:=(Ay h3 H1.out.blk (fun e=>(H1.out.apart g e).2 rfl)).frozen 2;have hc4:=(Ay h3 H1.out.blk (fun e=>(H1.out.apart g e).2 rfl)).cell 2;clear h2 h3 h4))
 all_goals
  go_end0
  exact⟨rfl,Ls.out.trans HP.out.1,HP.out.2⟩
theorem qC (s:ByteArray) (h47:s.size≤70368744177664) (base g:Nat) (K:Nat→Prop) (mp:Value) (all:Int) (l:List UInt8) (w:World) (h:Wr w base g K mp all l) (hl:l.length≤1099511627776) (hbase:base≤w.heap.size):
 Calls prog 153 #[.pointer (some ⟨g,0,none⟩),.string s] w fun e w'=>e= .returned (.tuple #[])∧Keep K w w'∧Wr w' base g K mp all (l++FM s):=by
 obtain⟨A,c,h⟩:=h
 have H:=AA h
 have hc0:=h.blk.q 2 rfl
 have hlt:=h.blk.lt
 have hf:=h.blk.frozen 2
 have henc:(FM s).length=(enc s.size).length+s.size:=by unfold FM;rw [List.length_append];simp
 have henc2:=AY s.size (by omega)
 clear h
 obtain⟨i0,hi0,hz,hs',hby⟩:=info_parts Dt
 go_enter func153,ntmps153
 go_wp2_with fail
 go_region_law
  (first
   | (go_simp;go_at_call 184;refine(dx s h47 _).mono ?_;rintro e w1 ⟨A1,c1,rfl,h2,h3⟩;have hb1:Below w.heap.size w w1:=⟨h3.os,h3.tape,h3.output,h3.size,h3.block⟩;have HR:=AA (Row.own h2);have H1:=AA (H.out.ES hb1);have HB1:=AA hb1;have Ls:Hid (Keep K w w1):=AA (Keep.DC hb1);have hc1:=H1.out.blk.q 2 rfl;have hf1:=H1.out.blk.frozen 2;clear h2 h3 hb1)
   | (refine F6 rfl (.tmp 8) (.tmp 10) 40 rfl base 5 i0 _ 1 underlying40 hi0 hz hs' hby rfl _ l.length (l.map bv) rfl (by exact H1.out.own) _ A1 ((enc s.size).length+s.size) c1 ((enc s.size++s.data.toList).map bv) (by have:=FC s.size;omega) rfl (by rw [List.length_map,Nat.mul_one,List.length_append];simp) (by exact HR.out) (Eh _) (by unfold maxLen;omega) (by omega) (Nat.le_trans hbase HB1.out.size) ?_;intro A4 c4 w4 h2 h3 h4;have HP:=AA (H1.out.put henc.symm h3 h2 h4);have XZ:=(Ay h3 H1.out.blk (fun e=>(H1.out.apart g e).2 rfl)).frozen 2;have hc4:=(Ay h3 H1.out.blk (fun e=>(H1.out.apart g e).2 rfl)).cell 2;clear h2 h3 h4))
 all_goals
  go_end0
  exact⟨rfl,Ls.out.trans HP.out.1,HP.out.2⟩
structure Bo where
 s:CW
 pc:Int
 o:UInt8
 base:ByteArray
structure Cm where
 shape:ByteArray
 dead:Bool
 op:List Bo
 shapes:List ByteArray
 floors:List Int
 high:Nat
def Di:ByteArray:=ByteArray.empty
def wS:ByteArray:=⟨#[119]⟩
def aV:CW:=⟨Di,Di⟩
def BZ (o:Bo):ByteArray:=if o.o.toNat=3 then o.s.p else o.s.r
def I_ (s:CW):Bo:=⟨⟨Di,s.r⟩,-1,0,Di⟩
def Bg (st:Cm):Bo:=st.op.headD (I_ aV)
def AV (st:Cm):ByteArray:=st.shape.extract (Bg st).base.size st.shape.size
def Eo (n:Int) (c:Nat):Bool:=decide (0≤n∧n<c)
def CG (m:AP) (t:Int):CW:=m.types[t.toNat]?.getD aV
def Qy (m:AP) (n:Int):Bt:=m.fns[n.toNat]?.getD ⟨0,Di,[]⟩
def BK (l:List Bo) (n:Int):Option Bo:=if 0≤n then l[n.toNat]? else none
def GA (l:List Bo) (n:Int):ByteArray:=match BK l n with
 | none=>Di
 | some o=>BZ o
def BI (l:List Bo) (x:Ad):ByteArray×Int:=
 if x.op.toNat≠9 then(if(BK l x.a).isSome then(GA l x.a,0) else(Di,31)) else
 if x.l.all (fun n=>(BK l n).isSome) then
  (if x.l.all (fun n=>decide (GA l n=GA l (x.l.headD 0))) then(GA l (x.l.headD 0),0) else(Di,32))
 else(Di,31)
def C8 (m:AP) (f:Bt):ByteArray:=(CG m f.t).p++f.loc
def Bf (m:AP) (f:Bt) (x:Ad):ByteArray×Int:=
 if x.op.toNat=18∨x.op.toNat=19∨x.op.toNat=20 then
  (if Eo x.a (C8 m f).size then((C8 m f).extract x.a.toNat (x.a.toNat+1),0) else(Di,30))
 else match (if 0≤x.a then m.globs[x.a.toNat]? else none)with
  | none=>(Di,30)
  | some g=>if x.op.toNat=22∧g.m=false then(Di,39) else(⟨#[g.l]⟩,0)
def Cn (m:AP) (x:Ad):Option CW:=
 if x.op.toNat=11 then(if Eo x.a m.fns.length then some (CG m (Qy m x.a).t) else none) else
 if x.op.toNat=12 then(if Eo x.a m.hosts.length then some (CG m (m.hosts[x.a.toNat]?.getD 0)) else none) else
 if Eo x.a m.types.length then some (CG m x.a) else none
def BN (m:AP) (f:Bt) (st:Cm) (x:Ad):ByteArray×ByteArray×Int:=match Au x.op.toNat with
 | none=>(Di,Di,0)
 | some r=>
  if r.plain then(r.pops,r.pushes,0) else
  if x.op.toNat=0 then(Di,Di,0) else
  if x.op.toNat=2∨x.op.toNat=3∨x.op.toNat=4∨x.op.toNat=11∨x.op.toNat=12 then
   match Cn m x with
   | none=>(Di,Di,30)
   | some t=>if x.op.toNat=4 then(t.p++wS,t.p,0) else if x.op.toNat<4 then(t.p,t.p,0) else(t.p,t.r,0)
  else
  if x.op.toNat=7 then((BI st.op x).1,(BI st.op x).1,(BI st.op x).2) else
  if x.op.toNat=8∨x.op.toNat=9 then((BI st.op x).1++wS,(BI st.op x).1,(BI st.op x).2) else
  if x.op.toNat=10 then((CG m f.t).r,(CG m f.t).r,0) else
  if x.op.toNat=16 then(if(AV st).size=0 then(wS,Di,0) else((AV st).extract ((AV st).size-1) (AV st).size,Di,0)) else
  if x.op.toNat=17 then(if(AV st).size<3 then(⟨#[119,119,119]⟩,wS,0) else
   (let y:=(AV st).extract ((AV st).size-2) ((AV st).size-1);(y++y++wS,y,0))) else
  if x.op.toNat=18∨x.op.toNat=21 then(Di,(Bf m f x).1,(Bf m f x).2) else
  if x.op.toNat=20 then((Bf m f x).1,(Bf m f x).1,(Bf m f x).2) else
  ((Bf m f x).1,Di,(Bf m f x).2)
def DV (o:UInt8):Bool:=decide (o.toNat=0∨o.toNat=7∨o.toNat=9∨o.toNat=10)
def Ah (o:UInt8):Bool:=decide (o.toNat=5∨o.toNat=6)
def EA (m:AP) (f:Bt) (AB:List Int) (pc:Nat) (st:Cm) (x:Ad):Int⊕Cm:=
 if Ah x.op then
  (if st.shape≠(Bg st).base++(Bg st).s.r then .inl 33 else
   if x.op.toNat=5 then .inr {st with shape:=(Bg st).base++(Bg st).s.p,dead:=false} else
   if(Bg st).o.toNat=4∧AB.getD (Bg st).pc.toNat (-1)<0∧(Bg st).s.p≠(Bg st).s.r then .inl 37 else
   .inr {st with op:=st.op.tail,dead:=false})
 else
  if(BN m f st x).2.2≠0 then .inl (BN m f st x).2.2 else
  if ends (AV st) (BN m f st x).1=false then .inl 33 else
  if 256<(st.shape.size-(BN m f st x).1.size)+(BN m f st x).2.1.size then .inl 34 else
  .inr {st with
   shape:=st.shape.extract 0 (st.shape.size-(BN m f st x).1.size)++(BN m f st x).2.1
   dead:=DV x.op
   op:=if BD x.op then⟨CG m x.a,pc,x.op,st.shape.extract 0 (st.shape.size-(BN m f st x).1.size)⟩::st.op else st.op
   floors:=if BD x.op then st.floors.set pc ((st.shape.size-(BN m f st x).1.size:Nat):Int) else st.floors}
def Ch (st:Cm) (x:Ad):Int⊕Cm:=
 if st.dead then
  (if Ah x.op=false then .inl 36 else
   if 256<(Bg st).base.size+(Bg st).s.r.size then .inl 34 else .inr {st with shape:=(Bg st).base++(Bg st).s.r})
 else .inr st
def Co (st:Cm):Cm:= {st with shapes:=st.shapes++ [st.shape],floors:=st.floors++ [-1],high:=max st.high st.shape.size}
def ED (m:AP) (f:Bt) (AB:List Int) (pc:Nat) (st:Cm) (x:Ad):Int⊕Cm:=
 match Ch st x with
 | .inl e=> .inl e
 | .inr st1=>EA m f AB pc (Co st1) x
def PV (m:AP) (f:Bt) (AB:List Int):Nat→Cm→(Int×Int)⊕Cm
 | 0,st=> .inr st
 | n+1,st=>match f.code[f.code.length-(n+1)]? with
  | none=> .inr st
  | some x=>match ED m f AB (f.code.length-(n+1)) st x with
   | .inl e=> .inl (e,((f.code.length-(n+1):Nat):Int))
   | .inr st'=>PV m f AB n st'
def CO (m:AP) (f:Bt):Cm:=⟨Di,false,[I_ (CG m f.t)],[],[],0⟩
def Fv (m:AP) (f:Bt):(Int×Int)⊕D5:=match ctl f.code with
 | .inl e=> .inl e
 | .inr c=>match PV m f c.AB f.code.length (CO m f)with
  | .inl e=> .inl e
  | .inr st=> .inr ⟨st.shapes,c.ends,c.AB,st.floors,st.high⟩
def JA (m:AP):Nat→List D5→(Int×Int×Int)⊕List D5
 | 0,l=> .inr l
 | n+1,l=>match m.fns[m.fns.length-(n+1)]? with
  | none=> .inr l
  | some f=>match Fv m f with
   | .inl e=> .inl (e.1,((m.fns.length-(n+1):Nat):Int),e.2)
   | .inr t=>JA m n (l++ [t])
def FE (m:AP):(Int×Int×Int)⊕List D5:=
 if F9 m≠0 then .inl (F9 m,-1,0) else JA m m.fns.length []
def ownB (o:Nat):Bool:=decide (o=0∨(2≤o∧o≤12)∨(16≤o∧o≤22))
theorem Qz: ∀r∈Dk,r.plain= !(ownB r.op):=by
 have h:Dk.all (fun r=>decide (r.plain= !(ownB r.op)))=true:=by kernel_rfl
 exact fun r hr=>of_decide_eq_true (List.all_eq_true.1 h r hr)
theorem JC {n:Nat} {r:Yz} (h:Au n=some r):r∈Dk∧r.op=n:=by
 unfold Au at h
 have h1:=List.mem_of_find?_eq_some h
 have h2:=List.find?_some h
 exact⟨h1,by simpa using h2⟩
def Nc (m:AP) (f:Bt) (shapes:List ByteArray) (floors:List Int) (o:Bo):Prop:=
 o=I_ (CG m f.t)∨ ∃(p n:Nat) (y:Ad) (s:ByteArray),o.pc=p∧p<shapes.length∧f.code[p]?=some y∧BD y.op=true∧o.o=y.op∧Eo y.a m.types.length=true∧o.s=CG m y.a∧
  shapes[p]?=some s∧floors[p]?=some (n:Int)∧n≤s.size∧o.base=s.extract 0 n∧n+o.s.p.size≤256
structure QK (m:AP) (f:Bt) (sc:Ai) (pc:Nat) (st:Cm):Prop where
 shapes:st.shapes.length=pc
 floors:st.floors.length=pc
 size:st.shape.size≤256
 vM:st.op.map (·.pc)=sc.op.map Int.ofNat++(if sc.done then [] else [-1])
 each: ∀o∈st.op,Nc m f st.shapes st.floors o
 mono:st.op.Pairwise (fun a b=>b.base.size≤a.base.size)
 top:st.dead=false→(Bg st).base.size≤st.shape.size
 bnd: ∀s∈st.shapes,s.size≤256
 high:st.high≤256
 fl: ∀v∈st.floors,-1≤v∧v≤256
theorem Nc.keep {m:AP} {f:Bt} {l l':List ByteArray} {k k':List Int} {o:Bo} (h:Nc m f l k o) (hl:l.length≤l'.length) (h1: ∀p,p<l.length→l'[p]?=l[p]?) (h2: ∀p,p<l.length→k'[p]?=k[p]?):Nc m f l' k' o:=by
 rcases h with h | ⟨p,n,y,s,a1,a2,a3,a4,a5,a6,a7,a8,a9,Wt,UZ,a12⟩
 ·exact .inl h
 ·exact .inr ⟨p,n,y,s,a1,by omega,a3,a4,a5,a6,a7,by rw [h1 p a2];exact a8,by rw [h2 p a2];exact a9,Wt,UZ,a12⟩
theorem Nc.size {m:AP} {f:Bt} {l:List ByteArray} {k:List Int} {o:Bo} (h:Nc m f l k o) (hb: ∀s∈l,s.size≤256):o.base.size≤256:=by
 rcases h with rfl | ⟨p,n,y,s,a1,a2,a3,a4,a5,a6,a7,a8,a9,Wt,UZ,a12⟩
 ·simp [I_,Di]
 ·rw [UZ,ByteArray.size_extract]
  have:=hb s (List.mem_of_getElem? a8)
  omega
theorem Nc.room {m:AP} {f:Bt} {l:List ByteArray} {k:List Int} {o:Bo} (h:Nc m f l k o):o.base.size+o.s.p.size≤256:=by
 rcases h with rfl | ⟨p,n,y,s,a1,a2,a3,a4,a5,a6,a7,a8,a9,Wt,UZ,a12⟩
 ·simp [I_,Di]
 ·rw [UZ,ByteArray.size_extract];omega
theorem XH (m:AP) (f:Bt) (n:Nat):QK m f (Ck n) 0 (CO m f):=
 ⟨rfl,rfl,by simp [CO,Di],by simp [CO,Ck,I_],fun o ho=> .inl (by simpa [CO] using ho),by simp [CO],fun _=>by simp [Bg,CO,I_,Di],fun s hs=>by simp [CO] at hs,by simp [CO],fun v hv=>by simp [CO] at hv⟩
theorem C_ (st:Cm):(AV st).size=st.shape.size-(Bg st).base.size:=by
 unfold AV
 rw [ByteArray.size_extract]
 omega
theorem QK.ne {m:AP} {f:Bt} {sc:Ai} {pc:Nat} {st:Cm} (h:QK m f sc pc st) (hd:sc.done=false): ∃o r,st.op=o::r:=by
 cases hop:st.op with
 | nil=>have:=h.vM;rw [hop,hd] at this;simp at this
 | cons o r=>exact⟨o,r,rfl⟩
theorem PW {m:AP} {f:Bt} {sc:Ai} {pc:Nat} {st st1:Cm} {x:Ad} (h:QK m f sc pc st) (hb:Ch st x= .inr st1):
 st1.op=st.op∧st1.shapes=st.shapes∧st1.floors=st.floors∧st1.high=st.high∧st1.shape.size≤256∧(Bg st).base.size≤st1.shape.size:=by
 unfold Ch at hb
 split at hb
 ·split at hb
  ·cases hb
  split at hb
  ·cases hb
  ·injection hb with hb;subst hb
   refine⟨rfl,rfl,rfl,rfl,?_,?_⟩<;>simp only [ByteArray.size_append]<;>omega
 ·rename_i hd
  injection hb with hb;subst hb
  exact⟨rfl,rfl,rfl,rfl,h.size,h.top (by simpa using hd)⟩
theorem Rk {m:AP} {f:Bt} {sc:Ai} {pc:Nat} {st st1:Cm} {x:Ad} (h:QK m f sc pc st) (hb:Ch st x= .inr st1):
 let s2:=Co st1
 s2.op=st.op∧s2.shapes.length=pc+1∧s2.floors.length=pc+1∧s2.shapes[pc]?=some s2.shape∧s2.shape.size≤256∧(Bg s2).base.size≤s2.shape.size∧(∀o∈st.op,Nc m f s2.shapes s2.floors o)∧
  (∀s∈s2.shapes,s.size≤256)∧s2.high≤256∧(∀v∈s2.floors,-1≤v∧v≤256):=by
 obtain⟨h1,h2,h3,h4,h5,h6⟩:=PW h hb
 dsimp only
 refine⟨h1,?_,?_,?_,h5,?_,?_,?_,?_,?_⟩
 ·simp [Co,h2,h.shapes]
 ·simp [Co,h3,h.floors]
 ·simp only [Co];rw [h2,List.getElem?_append_right (by rw [h.shapes];exact Nat.le_refl _),h.shapes,Nat.sub_self];rfl
 ·have:Bg (Co st1)=Bg st:=by unfold Bg Co;rw [h1]
  rw [this];exact h6
 ·intro o ho
  refine(h.each o ho).keep (by simp [Co,h2]) (fun p hp=> ?_) (fun p hp=> ?_)
  ·simp only [Co];rw [h2,List.getElem?_append_left hp]
  ·simp only [Co];rw [h3,List.getElem?_append_left (by rw [h.floors,←h.shapes];exact hp)]
 ·intro s hs
  simp only [Co,List.mem_append,List.mem_singleton] at hs
  rcases hs with hs | rfl
  ·exact h.bnd s (h2▸hs)
  ·exact h5
 ·simp only [Co];rw [h4];have:=h.high;omega
 ·intro v hv
  simp only [Co,List.mem_append,List.mem_singleton] at hv
  rcases hv with hv | rfl
  ·exact h.fl v (h3▸hv)
  ·omega
theorem jI {m:AP} {f:Bt} {st:Cm} {x:Ad} (hr:(Au x.op.toNat).isSome=true) (ho:BD x.op=true) (he:(BN m f st x).2.2=0):Eo x.a m.types.length=true:=by
 obtain⟨r,hr⟩:=Option.isSome_iff_exists.1 hr
 have hm:=JC hr
 have hp:=Qz r hm.1
 unfold BD at ho
 have ho:=of_decide_eq_true ho
 have h1:ownB r.op=true:=by rw [hm.2];unfold ownB;exact decide_eq_true (by omega)
 rw [h1] at hp
 unfold BN at he
 rw [hr] at he
 simp only [hp,Bool.not_true,Bool.false_eq_true,if_false] at he
 rw [if_neg (by omega),if_pos (by omega)] at he
 unfold Cn at he
 rw [if_neg (by omega),if_neg (by omega)] at he
 by_cases hi:Eo x.a m.types.length=true
 ·exact hi
 ·rw [if_neg hi] at he
  simp at he
theorem Rl {m:AP} {f:Bt} {st:Cm} {x:Ad} (hr:(Au x.op.toNat).isSome=true) (ho:BD x.op=true) (hi:Eo x.a m.types.length=true):
 BN m f st x=(if x.op.toNat=4 then(CG m x.a).p++wS else(CG m x.a).p,(CG m x.a).p,0):=by
 obtain⟨r,hr⟩:=Option.isSome_iff_exists.1 hr
 have hm:=JC hr
 have hp:=Qz r hm.1
 unfold BD at ho
 have ho:=of_decide_eq_true ho
 have h1:ownB r.op=true:=by rw [hm.2];unfold ownB;exact decide_eq_true (by omega)
 rw [h1] at hp
 unfold BN
 rw [hr]
 simp only [hp,Bool.not_true,Bool.false_eq_true,if_false]
 rw [if_neg (by omega),if_pos (by omega)]
 unfold Cn
 rw [if_neg (by omega),if_neg (by omega),if_pos hi]
 by_cases h4:x.op.toNat=4
 ·simp [h4]
 ·simp only [h4,if_false];rw [if_pos (by omega)]
theorem Ua {s t:ByteArray} (h: ¬ends s t=false):t.size≤s.size:=Kk s t (by simpa using h)
theorem Y6 {m:AP} {f:Bt} {sc sc':Ai} {pc:Nat} {st st':Cm} {x:Ad} {AB:List Int} (h:QK m f sc pc st) (hx:f.code[pc]?=some x) (hc:Ae f.code sc pc= .inr sc') (hr:(Au x.op.toNat).isSome=true)
 (hty: ∀t:CW,t∈m.types→t.p.size≤8∧t.r.size≤8) (hs:ED m f AB pc st x= .inr st'):QK m f sc' (pc+1) st':=by
 unfold ED at hs
 cases hb:Ch st x with
 | inl e=>rw [hb] at hs;cases hs
 | inr st1=>
  rw [hb] at hs
  dsimp only at hs
  obtain⟨hd,pO⟩:=Nb hx hc
  obtain⟨o,rr,hop⟩:=h.ne hd
  obtain⟨n1,n2,n3,n4,n5,n6,n7,n8,n9,n10⟩:=Rk h hb
  generalize Co st1=s2 at*
  have hto:Bg s2=o:=by unfold Bg;rw [n1,hop];rfl
  have ABr: ∀a,(CG m a).p.size≤8∧(CG m a).r.size≤8:=fun a=>by
   unfold CG
   cases hg:m.types[a.toNat]? with
   | none=>simp [aV,Di]
   | some t=>exact hty t (List.mem_of_getElem? hg)
  have hosz:o.s.p.size≤8∧o.s.r.size≤8:=by
   rcases h.each o (by rw [hop];exact List.mem_cons_self ..)with e | ⟨p,n,y,s,a1,a2,a3,a4,a5,a6,a7,a8,a9,Wt,UZ,a12⟩
   ·rw [e];exact⟨by simp [I_,Di],(ABr f.t).2⟩
   ·rw [a7];exact ABr _
  have hpw:=h.mono
  rw [hop] at hpw
  unfold EA at hs
  by_cases hcl:Ah x.op=true
  ·rw [if_pos hcl] at hs
   have hcl':=of_decide_eq_true hcl
   have hno:BD x.op=false:=by unfold BD;exact decide_eq_false (by omega)
   split at hs
   ·cases hs
   rename_i hsh
   have hsh:s2.shape=(Bg s2).base++(Bg s2).s.r:=by simpa using hsh
   rw [hto] at hsh
   split at hs
   ·rename_i h5
    injection hs with hs;subst hs
    have hop':sc'.op=sc.op∧sc'.done=false:=by
     rcases pO with⟨a,_⟩ | ⟨_,a,_⟩ | ⟨_,a,_⟩ | ⟨_,_,a,b,_⟩ | ⟨_,a,_⟩
     ·rw [a] at hno;cases hno
     ·omega
     ·omega
     ·exact⟨a,b⟩
     ·omega
    refine⟨n2,n3,?_,?_,?_,?_,?_,n8,n9,n10⟩
    ·simp only [ByteArray.size_append,hto]
     exact(h.each o (by rw [hop];exact List.mem_cons_self ..)).room
    ·simp only [n1,hop'.1,hop'.2];have:=h.vM;rw [hd] at this;exact this
    ·rw [show({s2 with shape:=(Bg s2).base++(Bg s2).s.p,dead:=false}:Cm).op=st.op from n1];exact n7
    ·rw [show({s2 with shape:=(Bg s2).base++(Bg s2).s.p,dead:=false}:Cm).op=st.op from n1];exact h.mono
    ·intro _
     show(Bg s2).base.size≤_
     simp
   ·split at hs
    ·cases hs
    rename_i h5 _
    injection hs with hs;subst hs
    have hop':sc'.op.map Int.ofNat++(if sc'.done then [] else [-1])=rr.map (·.pc):=by
     have hp:=h.vM
     rw [hop,hd] at hp
     rcases pO with⟨a,_⟩ | ⟨_,_,a,b,c⟩ | ⟨_,_,⟨p,a⟩,b⟩ | ⟨_,a,_⟩ | ⟨_,a,b,_⟩
     ·rw [a] at hno;cases hno
     ·rw [a] at hp;simp at hp;simp [b,c,hp.2]
     ·rw [a] at hp;simp at hp;simp [b,hp.2]
     ·omega
     ·omega
    have htl:({s2 with op:=s2.op.tail,dead:=false}:Cm).op=rr:=by show s2.op.tail=rr;rw [n1,hop];rfl
    refine⟨n2,n3,n5,?_,?_,?_,?_,n8,n9,n10⟩
    ·rw [htl];exact hop'.symm
    ·rw [htl];exact fun q hq=>n7 q (by rw [hop];exact List.mem_cons_of_mem _ hq)
    ·rw [htl];exact(List.pairwise_cons.1 hpw).2
    ·intro _
     unfold Bg
     rw [htl]
     show _≤s2.shape.size
     rw [hto] at n6
     cases rr with
     | nil=>simp [I_,Di]
     | cons q rr'=>
      have:=(List.pairwise_cons.1 hpw).1 q (List.mem_cons_self ..)
      simp;omega
  ·rw [if_neg hcl] at hs
   have hcl': ¬(x.op.toNat=5∨x.op.toNat=6):=fun e=>hcl (decide_eq_true e)
   split at hs
   ·cases hs
   rename_i he
   have he:(BN m f s2 x).2.2=0:=by simpa using he
   split at hs
   ·cases hs
   rename_i hen
   split at hs
   ·cases hs
   rename_i hroom
   have hsz:=Ua hen
   rw [C_,hto] at hsz
   rw [hto] at n6
   injection hs with hs;subst hs
   by_cases ho:BD x.op=true
   ·have hin:=jI hr ho he
    have hop':sc'.op=pc::sc.op∧sc'.done=false:=by
     rcases pO with⟨_,a⟩ | ⟨a,_⟩ | ⟨a,_⟩ | ⟨a,_⟩ | ⟨a,_⟩
     ·exact a
     all_goals rw [a] at ho;cases ho
    have hroom':=hroom
    have hpush:(BN m f s2 x).2.1=(CG m x.a).p:=by rw [Rl hr ho hin]
    simp only [ho,if_true]
    refine⟨n2,by simp [n3],?_,?_,?_,?_,?_,n8,n9,?_⟩
    ·simp only [ByteArray.size_append,ByteArray.size_extract];omega
    ·simp only [List.map_cons,n1,hop'.1,hop'.2]
     have hp:=h.vM;rw [hd] at hp
     rw [hp];rfl
    ·intro q hq
     simp only [List.mem_cons] at hq
     rcases hq with rfl | hq
     ·refine .inr ⟨pc,s2.shape.size-(BN m f s2 x).1.size,x,s2.shape,rfl,by rw [n2];omega,hx,ho,rfl,hin,rfl,n4,?_,by omega,rfl,?_⟩
      ·simp only [];rw [List.getElem?_set_self (by omega)]
      ·rw [hpush] at hroom;simp only [];omega
     ·rw [n1] at hq
      rcases n7 q hq with e | ⟨p,n,y,s,a1,a2,a3,a4,a5,a6,a7,a8,a9,Wt,UZ,a12⟩
      ·exact .inl e
      ·refine .inr ⟨p,n,y,s,a1,a2,a3,a4,a5,a6,a7,a8,?_,Wt,UZ,a12⟩
       have hlt:p<pc:=by
        rcases h.each q hq with e | ⟨p',n',y',s',b1,b2,_⟩
        ·rw [e] at a1;simp [I_] at a1
        ·rw [h.shapes] at b2;omega
       simp only [];rw [List.getElem?_set_ne (by omega)];exact a9
    ·simp only [n1]
     refine List.pairwise_cons.2 ⟨fun q hq=> ?_,h.mono⟩
     rw [hop] at hq
     have hq':q.base.size≤o.base.size:=by
      rcases List.mem_cons.1 hq with rfl | hq
      ·exact Nat.le_refl _
      ·exact(List.pairwise_cons.1 hpw).1 q hq
     simp only [ByteArray.size_extract];omega
    ·intro _
     simp only [Bg,List.headD_cons,ByteArray.size_append,ByteArray.size_extract];omega
    ·intro v hv
     rcases List.mem_or_eq_of_mem_set hv with hv | rfl
     ·exact n10 v hv
     ·omega
   ·have ho:BD x.op=false:=by simpa using ho
    have hop':sc'.op=sc.op∧sc'.done=false:=by
     rcases pO with⟨a,_⟩ | ⟨_,a,_⟩ | ⟨_,a,_⟩ | ⟨_,a,_⟩ | ⟨_,_,_,a,b⟩
     ·rw [a] at ho;cases ho
     ·omega
     ·omega
     ·omega
     ·exact⟨a,b⟩
    simp only [ho,Bool.false_eq_true,if_false]
    refine⟨n2,n3,?_,?_,?_,?_,?_,n8,n9,n10⟩
    ·simp only [ByteArray.size_append,ByteArray.size_extract];omega
    ·simp only [n1,hop'.1,hop'.2];have hp:=h.vM;rw [hd] at hp;exact hp
    ·simp only [n1];exact n7
    ·simp only [n1];exact h.mono
    ·intro _
     unfold Bg at hto⊢
     simp only [hto,ByteArray.size_append,ByteArray.size_extract];omega
theorem jW (n most:Nat) (hn:n<9223372036854775808) (base g:Nat) (K:Nat→Prop) (mp:Value) (all:Int) (l:List UInt8) (w:World) (h:Wr w base g K mp all l) (hl:l.length≤1099511627776) (hbase:base≤w.heap.size):
 Calls prog 151 #[.pointer (some ⟨g,0,none⟩),.int .i64 n,.int .i64 most] w fun e w'=>Keep K w w'∧Lr (Ab (decide (n≤most)) 20) e (Wr w' base g K mp all (l++enc n)):=by
 have H:=AA h;clear h
 go_enter func151,ntmps151
 go_wp2_with fail
 refine(En _ 20 0 (by decide) _).mono ?_
 rintro e w1 ⟨rfl,⟨h0,rfl⟩ | ⟨h0,rfl⟩⟩
 ·have H0:=AA h0;clear h0
  go_wp2_with fail
  refine(Pb n hn base g K mp all l _ H.out hl hbase).mono ?_
  rintro e w1 ⟨rfl,hk,hw⟩
  have HK:=AA hk;have HW:=AA hw;clear hk hw
  go_wp2_with fail
  go_end0
  exact⟨HK.out,.inl ⟨H0.out,rfl,HW.out⟩⟩
 ·have H0:=AA h0;clear h0
  go_wp2_with fail
  exact⟨rfl,Keep.refl _ _,.inr ⟨H0.out,rfl⟩⟩
theorem jX (n:Int) (below:Nat) (hn:n<9223372036854775808) (base g:Nat) (K:Nat→Prop) (mp:Value) (all:Int) (l:List UInt8) (w:World) (h:Wr w base g K mp all l) (hl:l.length≤1099511627776) (hbase:base≤w.heap.size):
 Calls prog 155 #[.pointer (some ⟨g,0,none⟩),.int .i64 n,.int .i64 below] w fun e w'=>Keep K w w'∧Lr (Ab (decide (0≤n∧n<below)) 30) e (Wr w' base g K mp all (l++enc n.toNat)):=by
 have H:=AA h;clear h
 by_cases h0:n<0
 ·have hE:Hid (Ab (decide (0≤n∧n<below)) 30=30):=AA (Bw (decide_eq_false (by omega)))
  have d:decide (0≤n)=false:=decide_eq_false (by omega)
  clear h0
  go_enter func155,ntmps155
  go_wp2_with fail
  refine(DF 30 0 _).mono ?_
  rintro e w1 ⟨rfl,rfl⟩
  go_wp2_with fail
  exact⟨rfl,Keep.refl _ _,.inr ⟨by rw [hE.out];decide,by rw [hE.out]⟩⟩
 obtain⟨k,rfl⟩:=Int.eq_ofNat_of_zero_le (show 0≤n by omega)
 have hE:Hid (Ab (decide (0≤(k:Int)∧(k:Int)<below)) 30=Ab (decide (k<below)) 30):=AA (by congr 1;exact decide_eq_decide.2 (by omega))
 have hk0:(0:Int)≤k:=by omega
 clear h0
 go_enter func155,ntmps155
 go_wp2_with fail
 refine(En _ 30 0 (by decide) _).mono ?_
 rintro e w1 ⟨rfl,⟨h0,rfl⟩ | ⟨h0,rfl⟩⟩
 ·have H0:=AA h0;clear h0
  go_wp2_with fail
  refine(Pb k (by omega) base g K mp all l _ H.out hl hbase).mono ?_
  rintro e w1 ⟨rfl,hk,hw⟩
  have HK:=AA hk;have HW:=AA hw;clear hk hw
  go_wp2_with fail
  go_end0
  exact⟨HK.out,.inl ⟨by rw [hE.out];exact H0.out,rfl,HW.out⟩⟩
 ·have H0:=AA h0;clear h0
  go_wp2_with fail
  exact⟨rfl,Keep.refl _ _,.inr ⟨by rw [hE.out];exact H0.out,by rw [hE.out]⟩⟩
theorem Ni (v:Value) (s:ByteArray) (most:Int) (h47:s.size≤140737488351232) (w:World):
 Calls prog 152 #[v,.string s,.int .i64 most,.int .i64 0] w fun e w'=>Below w.heap.size w w'∧Ends (Bz s most) 0 e:=by
 go_enter func152,ntmps152
 go_wp2_with fail
 refine(En _ 13 0 (by decide) _).mono ?_
 rintro e w1 ⟨rfl,⟨h0,rfl⟩ | ⟨h0,rfl⟩⟩
 ·have H0:=AA h0;clear h0
  go_wp2_with fail
  refine(XP s h47 _).mono ?_
  rintro e w1 ⟨h1,rfl⟩
  have H1:=AA h1;clear h1
  rw [show Mx 256 s.data.toList=Y4 s from rfl]
  go_wp2_with fail
  refine(En _ 15 0 (by decide) _).mono ?_
  rintro e w2 ⟨rfl,⟨h0,rfl⟩ | ⟨h0,rfl⟩⟩
  ·have H2:=AA h0;clear h0
   go_wp2_with fail
   go_end0
   exact⟨H1.out,.inl ⟨by unfold Bz;rw [AX H0.out];exact H2.out,rfl⟩⟩
  ·have H2:=AA h0;clear h0
   go_wp2_with fail
   have he:Bz s most=Ab (Y4 s) 15:=by unfold Bz;rw [AX H0.out]
   exact⟨rfl,H1.out,.inr ⟨by rw [he];exact H2.out,by rw [he]⟩⟩
 ·have H0:=AA h0;clear h0
  go_wp2_with fail
  have he:Bz s most=Ab (decide ((s.size:Int)≤most)) 13:=by unfold Bz;rw [Bn H0.out]
  exact⟨rfl,Below.refl _ _,.inr ⟨by rw [he];exact H0.out,by rw [he]⟩⟩
theorem jY (x:Ei) (w:World):
 Calls prog 156 #[.agg #[bv x.l,.bool x.m,uv x.v],.int .i64 0] w fun e w'=>Below w.heap.size w w'∧Ends (Ab (Du x.v x.l.toNat) 17) 0 e:=by
 unfold bv uv
 go_enter func156,ntmps156
 go_wp2_with fail
 generalize hw:w.alloc _=w1
 have H1:Hid (Below w.heap.size w w1):=by rw [←hw];exact AA ((Below.refl _ _).alloc (Nat.le_refl _) _)
 clear hw
 refine(Nh x.v x.l.toNat (UInt8.toNat_lt x.l) w1).mono ?_
 rintro e w2 ⟨rfl,rfl⟩
 go_wp2_with fail
 refine(En _ 17 0 (by decide) _).mono ?_
 rintro e w2 ⟨rfl,⟨h0,rfl⟩ | ⟨h0,rfl⟩⟩
 ·have H2:=AA h0;clear h0
  go_wp2_with fail
  go_end0
  exact⟨H1.out,.inl ⟨H2.out,rfl⟩⟩
 ·have H2:=AA h0;clear h0
  go_wp2_with fail
  exact⟨rfl,H1.out,.inr ⟨H2.out,rfl⟩⟩
structure qD (W:World) (base gs:Nat) (first:Int) (ts:List CW) (T:Option Addr) (d:Nat):Prop where
 blk:AQ W gs 29 [.slice T ts.length d,.slice none 0 0,.slice none 0 0,.int .i64 first,.int .i64 0,.slice none 0 0,.slice none 0 0,.slice none 0 0]
 own:W.ownsRow base 93 2 (.slice T ts.length d) ts.length (ts.flatMap OJ)
 ok: ∀x∈ts,Rd.PD x.p∧Rd.PD x.r
theorem Ug {x y:CW}:J3 x y=true↔x=y:=by
 unfold J3
 rw [Bool.and_eq_true,decide_eq_true_iff,decide_eq_true_iff]
 constructor
 ·rintro⟨h1,h2⟩;cases x;cases y;simp_all
 ·rintro rfl;exact⟨rfl,rfl⟩
theorem aX {ts:List CW} {x:CW} {n:Nat} (h: ∀j y,j<n→ts[j]?=some y→y≠x):(ts.take n).any (fun y=>J3 y x)=false:=by
 rw [List.any_eq_false]
 intro y hy he
 obtain⟨j,hj⟩:=List.getElem?_of_mem hy
 rw [List.getElem?_take] at hj
 split at hj
 ·rename_i hlt;exact h j y hlt hj (Ug.1 he)
 ·cases hj
theorem aY {ts:List CW} {x:CW} {n k:Nat} (h:ts[k]?=some x) (hk:k<n):(ts.take n).any (fun y=>J3 y x)=true:=by
 rw [List.any_eq_true]
 exact⟨x,List.mem_of_getElem? (i:=k) (by rw [List.getElem?_take,if_pos hk];exact h),Ug.2 rfl⟩
theorem ZE {W:World} {base:Nat} {e:TypeId} {size:Nat} {A:Option Addr} {n c:Nat} {xs:List Value} (h:W.ownsRow base e size (.slice A n c) n xs):n≤c:=by
 rcases h.2 with⟨hv,h0⟩ | ⟨g,cap,cur,hv,_,_,hc,_⟩
 ·injection hv with h1 h2 h3;subst h2;omega
 ·injection hv with h1 h2 h3;omega
theorem jZ (base g gs:Nat) (first:Int) (ts:List CW) (T:Option Addr) (d n:Nat) (x:CW) (w:World) (hg:w.cell? ⟨g,0,none⟩=some (.pointer (some ⟨gs,0,none⟩))) (hs:qD w base gs first ts T d)
 (hn:ts.length=n+1) (hx:ts[n]?=some x) (h47:n≤1000000):
 Calls prog 154 #[.pointer (some ⟨g,0,none⟩),.int .i64 0] w fun e w'=>Below w.heap.size w w'∧Ends (Ab (!(ts.take n).any (fun y=>J3 y x)) 16) 0 e:=by
 have hr:=I7.reads hs.own rfl hs.ok
 rw [hn] at hr
 have Hr:=AA hr
 obtain⟨b,o,rfl,_,N7,hx0,hx1,xZ,xg⟩:=DN hr hx
 have hc0:w.cell? ⟨gs,0,none⟩=some (.slice (some ⟨b,o,none⟩) (n+1) d):=by have:=hs.blk.cell 0;rw [hn] at this;exact this
 have Hx:=AA hx
 have hcap:n+1≤d:=by have:=ZE hs.own;omega
 have hcap':n≤d:=by omega
 clear hs hr hn hx xZ xg
 go_enter func154,ntmps154
 go_wp2_with fail
 go_loopw [20] (fun i wr=> ∃k:Nat,k≤n∧i= .int .i64 k∧Below w.heap.size w wr∧ ∀j y,j<k→ts[j]?=some y→y≠x) (fun i _=>n-(intOf i).toNat)
 case atStart=>exact⟨0,Nat.zero_le _,rfl,Below.refl _ _,fun j y hj=>absurd hj (by omega)⟩
 case round=>
  obtain⟨k,hk,rfl,hbel,hall⟩:=hrel
  have Va:=AA hall;have Hb:=AA hbel;clear hall hbel
  by_cases hlt:k<n
  ·have hlen:=Dp Hr.out
   obtain⟨y,hy⟩: ∃y,ts[k]?=some y:=⟨_,List.getElem?_eq_getElem (by omega)⟩
   obtain⟨b',o',he,_,_,hy0,hy1,_,_⟩:=DN Hr.out hy
   injection he with he
   injection he with he1 he2
   subst he1 he2
   have Hy:=AA hy
   have ha0:=(Hb.out.cell (p:=⟨b,o+k*2,none⟩) N7).trans hy0
   have ha1:=(Hb.out.cell (p:=⟨b,o+k*2+1,none⟩) N7).trans hy1
   have hb0:=(Hb.out.cell (p:=⟨b,o+n*2,none⟩) N7).trans hx0
   have hb1:=(Hb.out.cell (p:=⟨b,o+n*2+1,none⟩) N7).trans hx1
   have hk0:(0:Int)≤k:=by omega
   clear hy hy0 hy1 hlen
   go_wp2_with fail
   generalize hw:wr.alloc _=w1
   have H1:Hid (Below w.heap.size w w1):=by rw [←hw];exact AA (Hb.out.alloc Hb.out.size _)
   have xk:Hid (AQ w1 wr.heap.size 93 [.string y.p,.string y.r]):=by rw [←hw];exact AA (AQ.new wr 93 [.string y.p,.string y.r])
   have hd0:=(H1.out.cell (p:=⟨b,o+n*2,none⟩) N7).trans hx0
   have hd1:=(H1.out.cell (p:=⟨b,o+n*2+1,none⟩) N7).trans hx1
   have hn0:=xk.out.q 0 rfl
   have hn1:=xk.out.q 1 rfl
   clear hw ha0 ha1 hb0 hb1
   have hi0:(0:Int)≤n:=by omega
   have hi1:(n:Int)<(n:Int)+1:=by omega
   have hi2:(n:Int)<((n+1:Nat):Int):=by omega
   have hw1:IntKind.i64.wrap (n:Int)=(n:Int):=by rw [IntKind.wrap_i64];omega
   have hw2:IntKind.i64.wrap ((n:Int)+1-1)=(n:Int):=by rw [IntKind.wrap_i64];omega
   by_cases h0:y.p=x.p
   case neg=>
    have HN:Hid (∀j z,j<k+1→ts[j]?=some z→z≠x):=AA (fun j z hj hz=>by
     by_cases hjk:j<k
     ·exact Va.out j z hjk hz
     ·obtain rfl:j=k:=by omega
      rw [Hy.out] at hz
      injection hz with hz
      subst hz
      exact fun e=>h0 (by rw [e]))
    have hne:=VY h0
    clear h0
    go_region_held3 (fun w'=>w'.cell? ⟨wr.heap.size,0,none⟩=some (.string y.p)∧w'.cell? ⟨wr.heap.size,1,none⟩=some (.string y.r)∧w'.cell? ⟨b,o+n*2,none⟩=some (.string x.p)∧w'.cell? ⟨b,o+n*2+1,none⟩=some (.string x.r)) (first | exact⟨hn0,hn1,hd0,hd1⟩)
     (first | (go_at_call 130;refine(Dl 16 0 _).mono ?_;rintro e w' ⟨rfl,rfl⟩))
    go_wp2_with fail
    exact⟨⟨k+1,by omega,by go_num,below_drewN H1.out 1,HN.out⟩,by simp [intOf];omega⟩
   rw [h0] at hn0
   by_cases h1:y.r=x.r
   case neg=>
    have h0:=h1
    have HN:Hid (∀j z,j<k+1→ts[j]?=some z→z≠x):=AA (fun j z hj hz=>by
     by_cases hjk:j<k
     ·exact Va.out j z hjk hz
     ·obtain rfl:j=k:=by omega
      rw [Hy.out] at hz
      injection hz with hz
      subst hz
      exact fun e=>h0 (by rw [e]))
    have hne:=VY h0
    clear h0
    go_region_held3 (fun w'=>w'.cell? ⟨wr.heap.size,0,none⟩=some (.string x.p)∧w'.cell? ⟨wr.heap.size,1,none⟩=some (.string y.r)∧w'.cell? ⟨b,o+n*2,none⟩=some (.string x.p)∧w'.cell? ⟨b,o+n*2+1,none⟩=some (.string x.r)) (first | exact⟨hn0,hn1,hd0,hd1⟩)
     (first | (go_at_call 130;refine(Dl 16 0 _).mono ?_;rintro e w' ⟨rfl,rfl⟩))
    go_wp2_with fail
    exact⟨⟨k+1,by omega,by go_num,below_drewN H1.out 1,HN.out⟩,by simp [intOf];omega⟩
   rw [h1] at hn1
   have HX:Hid (y=x):=AA (by cases y;cases x;simp_all)
   have hE:Hid (Ab (!(ts.take n).any (fun z=>J3 z x)) 16=16):=AA (Bw (by rw [aY (by rw [Hy.out,HX.out]) hlt];rfl))
   clear h0 h1
   go_region_dies
   all_goals
    refine(DF 16 0 _).mono ?_
    rintro e w' ⟨rfl,rfl⟩
    exact⟨rfl,below_drewN H1.out 1,.inr ⟨by rw [hE.out];decide,by rw [hE.out]⟩⟩
  ·obtain rfl:k=n:=by omega
   have hE:Hid (Ab (!(ts.take k).any (fun z=>J3 z x)) 16=0):=AA (BQ (by rw [aX Va.out];rfl))
   go_wp2_with fail
   go_end0
   exact⟨Hb.out,.inl ⟨hE.out,rfl⟩⟩
theorem qE (base g gs:Nat) (first:Int) (ts:List CW) (T:Option Addr) (d t:Nat) (x:CW) (w:World) (hg:w.cell? ⟨g,0,none⟩=some (.pointer (some ⟨gs,0,none⟩))) (hs:qD w base gs first ts T d)
 (hx:ts[t]?=some x) (hp:x.p.size≤1000000):
 Calls prog 159 #[.pointer (some ⟨g,0,none⟩),.int .i64 t] w fun e w'=>w'=w∧e= .returned (.int .i64 (64-x.p.size)):=by
 have hr:=I7.reads hs.own rfl hs.ok
 obtain⟨b,o,rfl,_,N7,hx0,hx1,xZ,xg⟩:=DN hr hx
 have hlt:=(List.getElem?_eq_some_iff.1 hx).1
 have hc0:=hs.blk.q 0 rfl
 have ht0:(0:Int)≤t:=by omega
 have ht1:(t:Int)<ts.length:=by omega
 clear hs hr hx xZ xg
 go_enter func159,ntmps159
 go_wp2_with fail
 go_ret
 exact⟨rfl,rfl⟩
theorem qB.all' {W:World} {base g:Nat} {K:Nat→Prop} {mp:Value} {all:Int} {l:List UInt8} {A:Option Addr} {c:Nat} (h:qB W base g K mp all l A c) (all':Int):
 Keep K W (W.setCell ⟨g,1,none⟩ (.int .i64 all'))∧qB (W.setCell ⟨g,1,none⟩ (.int .i64 all')) base g K mp all' l A c:=
 ⟨(Keep.refl _ _).setCell h.kg _,h.blk.set 1 _,h.own.jU (fun e=>(h.apart g e).2 rfl) _,h.low,h.kg,h.apart,fun k hk=>by have:=h.lt k hk;simp [World.setCell];omega⟩
theorem Kr {p q:Prop} [Decidable p] [Decidable q] (e:Int) (h:p↔q):Ab (decide p) e=Ab (decide q) e:=by
 congr 1
 exact decide_eq_decide.2 h
theorem qF (n:Nat) (hn:n≤2147483647) (base g:Nat) (K:Nat→Prop) (mp:Value) (all:Nat) (ha:all≤2147483647) (l:List UInt8) (w:World) (h:Wr w base g K mp all l):
 Calls prog 160 #[.pointer (some ⟨g,0,none⟩),.int .i64 n,.int .i64 0] w fun e w'=>Keep K w w'∧Lr (Cg (Ab (decide (n≤2048)) 20) (Ab (decide (all+n≤16384)) 20)) e (Wr w' base g K mp ((all+n:Nat):Int) l):=by
 obtain⟨A,c,h⟩:=h
 have H:=AA h
 have hc1:=h.blk.q 1 rfl
 have hf:=h.blk.frozen 1
 have hnn:IntKind.i64.wrap ((all:Int)+n)=(all:Int)+n:=by rw [IntKind.wrap_i64];omega
 have E1:Hid (Ab (decide ((n:Int)≤2048)) 20=Ab (decide (n≤2048)) 20):=AA (Kr 20 (by omega))
 have E2:Hid (Ab (decide ((all:Int)+n≤16384)) 20=Ab (decide (all+n≤16384)) 20):=AA (Kr 20 (by omega))
 clear h
 go_enter func160,ntmps160
 go_wp2_with fail
 refine(En _ 20 0 (by decide) _).mono ?_
 rintro e w1 ⟨rfl,⟨h0,rfl⟩ | ⟨h0,rfl⟩⟩
 ·rw [E1.out] at h0
  have H0:=AA h0;clear h0
  go_wp2_with fail
  have HP:=AA (H.out.all' ((all:Int)+n))
  generalize w.setCell _ _=w2 at*
  refine(En _ 20 0 (by decide) _).mono ?_
  rintro e w1 ⟨rfl,⟨h0,rfl⟩ | ⟨h0,rfl⟩⟩
  ·rw [E2.out] at h0
   have H1:=AA h0;clear h0
   go_wp2_with fail
   go_end0
   refine⟨HP.out.1,.inl ⟨by rw [AX H0.out];exact H1.out,rfl,A,c,?_⟩⟩
   rw [Int.natCast_add]
   exact HP.out.2
  ·rw [E2.out] at h0⊢
   have H1:=AA h0;clear h0
   go_wp2_with fail
   exact⟨rfl,HP.out.1,.inr ⟨by rw [AX H0.out];exact H1.out,by rw [AX H0.out]⟩⟩
 ·rw [E1.out] at h0⊢
  have H0:=AA h0;clear h0
  go_wp2_with fail
  exact⟨rfl,Keep.refl _ _,.inr ⟨by rw [Bn H0.out];exact H0.out,by rw [Bn H0.out]⟩⟩
theorem dz (base g gs:Nat) (first x:Int) (ts:List CW) (T:Option Addr) (d:Nat) (A:Option Addr) (k c lo hi:Nat) (l:List Gn) (w:World) (hg:w.cell? ⟨g,0,none⟩=some (.pointer (some ⟨gs,0,none⟩))) (hs:qD w base gs first ts T d)
 (hr:(M0.sl false).R w lo hi [.slice A k c] l) (hf0:0≤first) (hf1:first≤64) (hx: -9223372036854775808≤x∧x<9223372036854775808) (hok: ∀y∈l,0≤y.at_∧y.at_≤262144∧y.b.length≤262144) (hk:k≤1000000):
 Calls prog 162 #[.pointer (some ⟨g,0,none⟩),.int .i64 x,.slice A k c,.int .i64 0] w fun e w'=>Below w.heap.size w w'∧
  Ends (Cg (Ab (decide (0≤x∧x≤first*4096)) 17) (if k=0 then 0 else match l[k-1]? with | none=>0 | some y=>Ab (decide (y.at_+y.b.length<x)) 18)) 0 e:=by
 generalize Td:Cg _ _=EE
 have HE:=AA Td
 clear Td
 have Hr:=AA hr
 have hc3:=hs.blk.q 3 rfl
 have hlen:=Dp hr
 clear hs hr
 have hw:IntKind.i64.wrap (first*4096)=first*4096:=by rw [IntKind.wrap_i64];omega
 by_cases hx0:x<0
 ·have hE:Hid (Ab (decide (0≤x∧x≤first*4096)) 17=17):=AA (Bw (decide_eq_false (by omega)))
  have d0:decide (0≤x)=false:=decide_eq_false (by omega)
  clear hx0 hlen
  go_enter func162,ntmps162
  go_wp2_with fail
  refine(DF 17 0 _).mono ?_
  rintro e w1 ⟨rfl,rfl⟩
  go_wp2_with fail
  have hX:EE=17:=by rw [←HE.out,hE.out,Bn (by decide)]
  exact⟨rfl,Below.refl _ _,.inr ⟨by rw [hX];decide,by rw [hX]⟩⟩
 have hx00:0≤x:=by omega
 have hE:Hid (Ab (decide (0≤x∧x≤first*4096)) 17=Ab (decide (x≤first*4096)) 17):=AA (Kr 17 (by omega))
 clear hx0
 go_enter func162,ntmps162
 go_wp2_with fail
 refine(En _ 17 0 (by decide) _).mono ?_
 rintro e w1 ⟨rfl,⟨h0,rfl⟩ | ⟨h0,rfl⟩⟩
 ·rw [←hE.out] at h0
  have H0:=AA h0;clear h0
  by_cases hk0:k=0
  ·subst hk0
   go_wp2_with fail
   go_end0
   exact⟨Below.refl _ _,.inl ⟨by have:=HE.out;rw [AX H0.out] at this;simpa using this.symm,rfl⟩⟩
  ·obtain⟨y,hy⟩: ∃y,l[k-1]?=some y:=⟨_,List.getElem?_eq_getElem (by omega)⟩
   obtain⟨b,o,Qw,QH,rfl,_,_,vQ,ABw,ABx,hb⟩:=JO Hr.out hy
   have hyb:=hok y (List.mem_of_getElem? hy)
   have hS:Hid ((if k=0 then(0:Int) else match l[k-1]? with | none=>0 | some y=>Ab (decide (y.at_+y.b.length<x)) 18)=Ab (decide (y.at_+y.b.length<x)) 18):=AA (by rw [if_neg hk0,hy])
   obtain⟨j,rfl⟩: ∃j,k=j+1:=⟨k-1,by omega⟩
   have hj:j+1-1=j:=rfl
   rw [hj] at vQ ABw
   have hj0:(0:Int)≤j:=by omega
   have hj1:(j:Int)<(j:Int)+1:=by omega
   have hj2:(j:Int)<((j+1:Nat):Int):=by omega
   have hjw:IntKind.i64.wrap (j:Int)=(j:Int):=by rw [IntKind.wrap_i64];omega
   have hjw2:IntKind.i64.wrap ((j:Int)+1-1)=(j:Int):=by rw [IntKind.wrap_i64];omega
   have hsw:IntKind.i64.wrap (y.at_+(y.b.length:Int))=y.at_+y.b.length:=by rw [IntKind.wrap_i64];omega
   have hk1:decide (0<(j:Int)+1)=true:=decide_eq_true (by omega)
   clear hy hyb hk0 hlen hok
   go_wp2_with fail
   have HT:Hid (EE=Ab (decide (y.at_+y.b.length<x)) 18):=AA (by rw [←HE.out,AX H0.out,hS.out])
   by_cases hlt:y.at_+(y.b.length:Int)<x
   ·have dl:decide (y.at_+(y.b.length:Int)<x)=true:=decide_eq_true hlt
    have HZ:Hid (EE=0):=AA (by rw [HT.out,dl];rfl)
    clear hlt
    go_region_held3 (fun w'=>w'.cell? ⟨b,o+j*2,none⟩=some (.int .i64 y.at_)∧w'.cell? ⟨b,o+j*2+1,none⟩=some (.slice Qw y.b.length QH)) (first | exact⟨vQ,ABw⟩)
     (first | (go_at_call 130;refine(Dl 18 0 _).mono ?_;rintro e w' ⟨rfl,rfl⟩))
    go_wp2_with fail
    go_end0
    exact⟨below_drewN (Below.refl _ _) 1,.inl ⟨HZ.out,rfl⟩⟩
   ·have dl:decide (y.at_+(y.b.length:Int)<x)=false:=decide_eq_false hlt
    have HZ:Hid (EE=18):=AA (by rw [HT.out,dl];rfl)
    clear hlt
    go_region_dies
    all_goals
     refine(DF 18 0 _).mono ?_
     rintro e w' ⟨rfl,rfl⟩
     exact⟨rfl,below_drewN (Below.refl _ _) 1,.inr ⟨by rw [HZ.out];decide,by rw [HZ.out]⟩⟩
 ·rw [←hE.out] at h0⊢
  have H0:=AA h0;clear h0
  go_wp2_with fail
  have hX:=HE.out
  rw [Bn H0.out] at hX
  exact⟨rfl,Below.refl _ _,.inr ⟨by rw [←hX];exact H0.out,by rw [←hE.out,hX]⟩⟩
theorem qG (t:TypeId) (a b:ByteArray):binOp .gtr t (.string a) (.string b)=pure (.bool (!(OL a b))):=by simp [binOp,Op.stringOp,OL]
theorem qH (t:TypeId) (a b:ByteArray):binOp .leq t (.string a) (.string b)=pure (.bool (OL a b)):=by simp [binOp,Op.stringOp,OL]
theorem eD (s:ByteArray) (h47:s.size≤140737488351232) (A:Option Addr) (n c lo hi:Nat) (l:List LC) (w:World) (hr:(TU.sl false).R w lo hi [.slice A n c] l) (hn:n≤1000000):
 Calls prog 163 #[.string s,.slice A n c,.int .i64 0] w fun e w'=>Below w.heap.size w w'∧Ends (Cg (M_ s) (Ri l n s)) 0 e:=by
 generalize Td:Cg _ _=EE
 have HE:=AA Td
 clear Td
 unfold M_ at HE
 have Hr:=AA hr
 have hlen:=Dp hr
 clear hr
 subst hlen
 have E1:Hid (Ab (decide ((s.size:Int)≤32)) 13=Ab (decide (s.size≤32)) 13):=AA (Kr 13 (by omega))
 have hsz:s.data.toList.length=s.size:=by simp
 have VX:=AA hsz;clear hsz
 go_enter func163,ntmps163
 go_wp2_with fail
 refine(En _ 13 0 (by decide) _).mono ?_
 rintro e w1 ⟨rfl,⟨h0,rfl⟩ | ⟨h0,rfl⟩⟩
 case inr=>
  rw [E1.out] at h0⊢
  have H0:=AA h0;clear h0
  go_wp2_with fail
  have hX:=HE.out
  rw [EG,Bn H0.out] at hX
  exact⟨rfl,Below.refl _ _,.inr ⟨by rw [←hX];exact H0.out,by rw [←hX]⟩⟩
 rw [E1.out] at h0
 have H0:=AA h0;clear h0
 by_cases hz:s.size=0
 ·have hs:s=ByteArray.empty:=by apply ByteArray.ext;apply Array.eq_empty_of_size_eq_zero;exact hz
  have hX:Hid (EE=23):=AA (by
   have hX:=HE.out
   rw [EG,AX H0.out,EG,hz] at hX
   exact hX.symm)
  subst hs
  go_wp2_with fail
  refine(DF 23 0 _).mono ?_
  rintro e w1 ⟨rfl,rfl⟩
  go_wp2_with fail
  exact⟨rfl,Below.refl _ _,.inr ⟨by rw [hX.out];decide,by rw [hX.out]⟩⟩
 have hne:s.toList.isEmpty=false:=by rw [ByteArray.toList_eq];cases h:s.data.toList with | nil=>exact absurd (by rw [←VX.out,h];rfl) hz | cons a b=>rfl
 have HZ:Hid (EE=Cg (Ab (s.data.toList.all PS) 23) (Ri l l.length s)):=AA (by
  have hX:=HE.out
  rw [EG,AX H0.out,EG,AX (BQ (decide_eq_true (by omega)))] at hX
  exact hX.symm)
 clear hz HE
 go_wp2_with fail
 refine(Dl 23 0 _).mono ?_
 rintro e w1 ⟨rfl,rfl⟩
 clear hne
 go_upto_block 0 with fail
 go_cut [] (fun wx=>wx=w∧Ab (s.data.toList.all PS) 23=0)
 case first=>
  go_wp2_with fail
  go_loopw [18] (fun i wr=> ∃k:Nat,k≤s.size∧i= .int .i64 k∧wr=w∧(s.data.toList.drop k).all PS=s.data.toList.all PS) (fun i _=>s.size-(intOf i).toNat)
  case atStart=>exact⟨0,Nat.zero_le _,rfl,rfl,rfl⟩
  case round=>
   obtain⟨k,hk,rfl,rfl,hR⟩:=hrel
   have HR2:=AA hR;clear hR
   by_cases hlt:k<s.size
   ·have Hd:=AA (drop_at s.data.toList k (by rw [VX.out];exact hlt))
    have hb:=byte_at s k hlt
    have Hb:=AA hb;clear hb
    have hk0:(0:Int)≤k:=by omega
    have vN:(s.data.toList[k]?.getD 0).toNat<256:=UInt8.toNat_lt _
    have HR3:Hid ((PS (s.data.toList[k]?.getD 0)&&(s.data.toList.drop (k+1)).all PS)=s.data.toList.all PS):=AA (by rw [←HR2.out,Hd.out];rfl)
    have hbn:(s[k]'hlt).toNat=(s.data.toList[k]?.getD 0).toNat:=congrArg UInt8.toNat Hb.out
    clear Hd HR2
    have hbad: ¬((32:Int)<((s[k]'hlt).toNat:Int)∧((s[k]'hlt).toNat:Int)<127)→EE=23:=fun h=>by
     have:PS (s.data.toList[k]?.getD 0)=false:=by unfold PS;exact decide_eq_false (by omega)
     have h2:=HR3.out
     rw [this] at h2
     rw [HZ.out,←h2];rfl
    have hgood:(32:Int)<((s[k]'hlt).toNat:Int)→((s[k]'hlt).toNat:Int)<127→(s.data.toList.drop (k+1)).all PS=s.data.toList.all PS:=fun h1 h2=>by
     have:PS (s.data.toList[k]?.getD 0)=true:=by unfold PS;exact decide_eq_true (by omega)
     rw [←HR3.out,this,Bool.true_and]
    have ABy:=AA hbad;have ABz:=AA hgood
    clear hbad hgood hbn HR3 Hb vN
    by_cases hlo:(32:Int)<((s[k]'hlt).toNat:Int)
    case neg=>
     have hX:=ABy.out (fun h=>hlo h.1)
     have HX:=AA hX;clear hX
     go_wp2_with fail
     refine(DF 23 0 _).mono ?_
     rintro e w1 ⟨rfl,rfl⟩
     exact⟨rfl,Below.refl _ _,.inr ⟨by rw [HX.out];decide,by rw [HX.out]⟩⟩
    by_cases hhi2:((s[k]'hlt).toNat:Int)<127
    case neg=>
     have hX:=ABy.out (fun h=>hhi2 h.2)
     have HX:=AA hX;clear hX
     go_wp2_with fail
     refine(DF 23 0 _).mono ?_
     rintro e w1 ⟨rfl,rfl⟩
     exact⟨rfl,Below.refl _ _,.inr ⟨by rw [HX.out];decide,by rw [HX.out]⟩⟩
    have HG:=AA (ABz.out hlo hhi2)
    go_wp2_with fail
    refine(Dl 23 0 _).mono ?_
    rintro e w1 ⟨rfl,rfl⟩
    go_wp2_with fail
    refine⟨⟨k+1,by omega,by go_num,?_,HG.out⟩,by simp [intOf];omega⟩
    first | exact trivial | rfl
   ·have hge: ¬(k:Int)<s.size:=by omega
    have HT:Hid (s.data.toList.all PS=true):=AA (by rw [←HR2.out,List.drop_of_length_le (by rw [VX.out];omega)];rfl)
    go_wp2_with fail
    go_meet
    exact⟨rfl,by rw [HT.out];rfl⟩
 case rest=>
  obtain⟨rfl,h23⟩:=hcut
  have HY:Hid (EE=Ri l l.length s):=AA (by rw [HZ.out,AX h23])
  clear h23 HZ
  by_cases h0:l.length=0
  ·have hX:Hid (EE=0):=AA (by rw [HY.out];unfold Ri;rw [if_pos h0])
   rw [h0]
   go_wp2_with fail
   refine(Dl 18 0 _).mono ?_
   rintro e w1 ⟨rfl,rfl⟩
   go_wp2_with fail
   go_end0
   exact⟨Below.refl _ _,.inl ⟨hX.out,rfl⟩⟩
  ·obtain⟨y,hy⟩: ∃y,l[l.length-1]?=some y:=⟨_,List.getElem?_eq_getElem (by omega)⟩
   obtain⟨b,o,rfl,_,_,hc0,_,_,_⟩:=MS Hr.out hy
   have hX:Hid (EE=Ab (!(OL s y.n)) 18):=AA (by rw [HY.out];unfold Ri;rw [if_neg h0,hy])
   obtain⟨j,hj⟩: ∃j,l.length=j+1:=⟨l.length-1,by omega⟩
   clear hy HY Hr h0
   generalize l.length=n at*
   subst hj
   have hjj:j+1-1=j:=rfl
   rw [hjj] at hc0
   have hj0:(0:Int)≤j:=by omega
   have hj1:(j:Int)<(j:Int)+1:=by omega
   have hj3: ¬((j:Int)+1=0):=by omega
   have hgt:=qG 9 s y.n
   have hj4:((j:Int)+1==0)=false:=by rw [beq_eq_false_iff_ne];omega
   generalize OL s y.n=bb at*
   go_wp2_with fail
   refine(En _ 18 0 (by decide) _).mono ?_
   rintro e w1 ⟨rfl,⟨h0,rfl⟩ | ⟨h0,rfl⟩⟩
   ·have H0:=AA h0;clear h0
    go_wp2_with fail
    go_end0
    exact⟨Below.refl _ _,.inl ⟨by rw [hX.out];exact H0.out,rfl⟩⟩
   ·have H0:=AA h0;clear h0
    go_wp2_with fail
    exact⟨rfl,Below.refl _ _,.inr ⟨by rw [hX.out];exact H0.out,by rw [hX.out]⟩⟩
end Go.Proofs.YtlagonfamllgjaaGreatDoor
