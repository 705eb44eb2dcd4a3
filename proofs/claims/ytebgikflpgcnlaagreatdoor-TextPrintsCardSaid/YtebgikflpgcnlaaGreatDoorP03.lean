/- Part 3 of the proof: Gath CopyA Size Fold OpsT InsS ModP DecP TxtP -/
import Derived.Test.YtebgikflpgcnlaaGreatDoorProg
import Derived.KernelRfl
import Derived.Handy
import Derived.BigQuiet
import Derived.Deep.CutBlock
import Derived.Deep.DeepCutAuto
import Derived.Lib.ItoaNum
import Derived.Lib.Join
import Derived.Test.YtebgikflpgcnlaaGreatDoorP02
namespace Go.Proofs.YtebgikflpgcnlaaGreatDoor
set_option linter.unusedVariables false
set_option linter.unusedSimpArgs false
set_option maxRecDepth 100000
set_option maxHeartbeats 4000000
open Go.RowKit Tryz
structure YN {α:Type} (r:Rd α) (e:TypeId) (base:Nat) (W:World) (A:Option Addr) (n c:Nat) (cells:List Value) (xs:List α):Prop where
 own:W.ownsRow base e r.z (.slice A n c) n cells
 len:n=xs.length
 els: ∀(k:Nat) x,xs[k]?=some x→ ∃lo hi,base≤lo∧hi≤W.heap.size∧(∀g,(Value.slice A n c).ownBlock=some g→g<lo∨hi≤g)∧r.R W lo hi ((cells.drop (k*r.z)).take r.z) x
section
variable {α:Type} {r:Rd α} {e:TypeId} {base:Nat} {W W':World} {A:Option Addr} {n c:Nat} {cells:List Value} {xs:List α}
theorem YN.nil (r:Rd α) (e:TypeId) (base:Nat) (W:World):YN r e base W none 0 0 [] []:=
 ⟨⟨by simp,.inl ⟨rfl,rfl⟩⟩,rfl,fun k x h=>by simp at h⟩
theorem YN.below (h:YN r e base W A n c cells xs) (hb:Below W.heap.size W W'):YN r e base W' A n c cells xs:=by
 refine⟨CJ h.own hb,h.len,fun k x hk=> ?_⟩
 obtain⟨lo,hi,h1,h2,h3,h4⟩:=h.els k x hk
 exact⟨lo,hi,h1,Nat.le_trans h2 hb.size,h3,r.below h4 hb h2⟩
theorem YN.reads (h:YN r e base W A n c cells xs):(r.sl false).R W base W.heap.size [.slice A n c] xs:=by
 refine Rd.own false h.own h.len fun k x hk=> ?_
 obtain⟨lo,hi,h1,h2,_,h4⟩:=h.els k x hk
 exact r.more h1 h2 h4
theorem YN.snoc (h:YN r e base W A n c cells xs) (hbase:base≤W.heap.size) {A':Option Addr} {c' lo hi:Nat} {cs:List Value} {x:α} (hr:r.R W lo hi cs x) (hlo:base≤lo) (hhi:hi≤W.heap.size) (hap: ∀g,(Value.slice A n c).ownBlock=some g→g<lo∨hi≤g)
 (ho:W'.ownsRow base e r.z (.slice A' (n+1) c') (n+1) (cells++cs)) (hg:W.grownBy W' (Value.slice A n c).ownBlock) (hat:(Value.slice A' (n+1) c').ownBlock=(Value.slice A n c).ownBlock∨(Value.slice A' (n+1) c').ownBlock=some W.heap.size):
 YN r e base W' A' (n+1) c' (cells++cs) (xs++ [x]):=by
 have hl:cells.length=n*r.z:=h.own.1
 have hcs:cs.length=r.z:=r.len hr
 have hnew: ∀ {lo hi:Nat},hi≤W.heap.size→(∀g,(Value.slice A n c).ownBlock=some g→g<lo∨hi≤g)→ ∀g,(Value.slice A' (n+1) c').ownBlock=some g→g<lo∨hi≤g:=fun hh ha g hg'=>by
  rcases hat with h1 | h1
  ·exact ha g (h1▸hg')
  ·rw [h1] at hg';injection hg' with hg';right;omega
 refine⟨ho,by rw [List.length_append,←h.len];rfl,fun k y hk=> ?_⟩
 rw [List.getElem?_append] at hk
 split at hk
 ·rename_i hlt
  obtain⟨l1,h1,g1,g2,g3,g4⟩:=h.els k y hk
  refine⟨l1,h1,g1,Nat.le_trans g2 hg.size,hnew g2 g3,?_⟩
  have hkn:k*r.z+r.z≤cells.length:=by
   rw [hl,←Nat.succ_mul]
   exact Nat.mul_le_mul_right _ (by rw [h.len];exact hlt)
  rw [List.drop_append_of_le_length (by omega),List.take_append_of_le_length (by rw [List.length_drop];omega)]
  exact r.grown g4 hg g2 g3
 ·rename_i hge
  have hk0:k=xs.length:=by
   have:=(List.getElem?_eq_some_iff.1 hk).1
   simp at this;omega
  subst hk0
  rw [Nat.sub_self] at hk
  simp at hk
  subst hk
  refine⟨lo,hi,hlo,Nat.le_trans hhi hg.size,hnew hhi hap,?_⟩
  rw [←h.len,←hl,List.drop_left' rfl,←hcs,List.take_length]
  exact r.grown hr hg hhi hap
end
structure Flat {α:Type} (r:Rd α) (f:α→List Value) (ok:α→Prop):Prop where
 iff: ∀ {W:World} {lo hi:Nat} {cs:List Value} {x:α},r.R W lo hi cs x↔cs=f x∧ok x
 one: ∀x,∀u∈f x,u.oneCell'=true
 len: ∀x,(f x).length=r.z
 pos:0<r.z
theorem jY:Flat Rd.u8 (fun x=> [bv x]) (fun _=>True):=⟨Iff.rfl,fun x u h=>by rw [List.mem_singleton] at h;subst h;rfl,fun _=>rfl,by decide⟩
theorem aV:Flat Rd.i64 (fun x=> [Value.int .i64 x]) Rd.Ej:=⟨Iff.rfl,fun x u h=>by rw [List.mem_singleton] at h;subst h;rfl,fun _=>rfl,by decide⟩
def Sj (x:Dl):List Value:= [.string x.p,.string x.r]
theorem aW:Flat Mr Sj (fun x=>Rd.U6 x.p∧Rd.U6 x.r):=⟨Qk,fun x u h=>by unfold Sj at h;simp at h;rcases h with rfl | rfl<;>rfl,fun _=>rfl,by decide⟩
theorem U7 {α:Type} {f:α→List Value} {z:Nat} (hl: ∀x,(f x).length=z): ∀l:List α,(l.flatMap f).length=l.length*z
 | []=>by simp
 | x::l=>by rw [List.flatMap_cons,List.length_append,hl,U7 hl l,List.length_cons,Nat.succ_mul,Nat.add_comm]
theorem Pw {α:Type} {f:α→List Value} {z:Nat} (hl: ∀x,(f x).length=z): ∀(l:List α) (k:Nat) (x:α),l[k]?=some x→((l.flatMap f).drop (k*z)).take z=f x
 | [],k,x,h=>by simp at h
 | y::l,0,x,h=>by
  simp at h
  subst h
  rw [Nat.zero_mul,List.drop_zero,List.flatMap_cons,←hl y,List.take_left' rfl]
 | y::l,k+1,x,h=>by
  rw [List.getElem?_cons_succ] at h
  rw [List.flatMap_cons,Nat.succ_mul,Nat.add_comm,←hl y,←List.drop_drop,List.drop_left' rfl,hl y]
  exact Pw hl l k x h
section
variable {α:Type} {r:Rd α} {f:α→List Value} {ok:α→Prop} {W:World} {lo hi:Nat} {A:Option Addr} {n c:Nat} {l:List α}
theorem Flat.row (hf:Flat r f ok) (h:(r.sl false).R W lo hi [.slice A n c] l):Row W hi A (l.flatMap f):=fun hn=>by
 have hlen:=U7 hf.len l
 have h0:0<l.length:=by
  rcases Nat.eq_zero_or_pos l.length with h0 | h0
  ·rw [h0,Nat.zero_mul] at hlen;omega
  ·exact h0
 obtain⟨A',c',he,_,h⟩:=h
 injection he with he _
 injection he with h1 h2 h3
 subst h1 h2
 obtain⟨b,o,e,_,hhi,hx⟩:=h h0
 refine⟨b,o,e,hhi,fun j u hu=> ?_⟩
 have hj:j<l.length*r.z:=by have:=(List.getElem?_eq_some_iff.1 hu).1;rwa [hlen] at this
 have hk:j/r.z<l.length:=(Nat.div_lt_iff_lt_mul hf.pos).2 hj
 obtain⟨cs,hc,hr⟩:=hx (j/r.z) _ (List.getElem?_eq_getElem hk)
 obtain⟨rfl,_⟩:=hf.iff.1 hr
 have ht:=Pw hf.len l (j/r.z) _ (List.getElem?_eq_getElem hk)
 have hm:j%r.z<r.z:=Nat.mod_lt _ hf.pos
 have hd:j/r.z*r.z+j%r.z=j:=by rw [Nat.mul_comm];exact Nat.div_add_mod j r.z
 have:=hc (j%r.z) u (by
  rw [←ht,List.getElem?_take,if_pos hm,List.getElem?_drop,hd]
  exact hu)
 rw [Nat.add_assoc,hd] at this
 exact this
theorem Flat.reads (hf:Flat r f ok) {base:Nat} {e:TypeId} (h:W.ownsRow base e r.z (.slice A n c) n (l.flatMap f)) (hn:n=l.length) (hok: ∀x∈l,ok x):(r.sl false).R W base W.heap.size [.slice A n c] l:=
 Rd.own false h hn fun k x hk=>hf.iff.2 ⟨Pw hf.len l k x hk,hok x (List.mem_of_getElem? hk)⟩
theorem Flat.cells (hf:Flat r f ok) (l:List α): ∀u∈l.flatMap f,u.oneCell'=true:=fun u hu=>by
 obtain⟨x,_,hx⟩:=List.mem_flatMap.1 hu
 exact hf.one x u hx
end
theorem Rd.set {α:Type} {r:Rd α} {W:World} {lo hi:Nat} {cs:List Value} {x:α} (h:r.R W lo hi cs x) {p:Addr} (u:Value) (hp:p.block<lo∨hi≤p.block):r.R (W.setCell p u) lo hi cs x:=
 r.keep (fun q h1 h2=>by
  have hb:=Below.heap_setCell W p u q.block (by omega)
  simp only [World.cell?,hb]) h
theorem info_parts' {P:Program} {t:TypeId} {s b:Nat} (h:(P.info? t).map (fun i=>(i.size,i.bytes,i.zero.map fun z=>z.cells.size))=some (s,b,some s)): ∃i z,P.info? t=some i∧i.zero=some z∧i.size=s∧i.bytes=b∧z.cells.size=s:=by
 cases hi:P.info? t with
 | none=>rw [hi] at h;cases h
 | some i=>
  rw [hi] at h
  simp only [Option.map_some,Option.some.injEq,Prod.mk.injEq] at h
  obtain⟨h1,h2,h3⟩:=h
  cases hz:i.zero with
  | none=>rw [hz] at h3;cases h3
  | some z=>
   rw [hz] at h3
   exact⟨i,z,rfl,hz,h1,h2,by simpa using h3⟩
theorem gB:(prog.info? 51).map (fun i=>(i.size,i.bytes,i.zero.map fun z=>z.cells.size))=some (2,32,some 2):=by kernel_rfl
def Cap (n N:Nat):Prop:=n=N∨(2147483647<n∧2147483647<N)
def Ak {α:Type} (f:α→Nat) (l:List α):Nat:=(l.map f).sum
theorem Cap.step {n N m g:Nat} (h:Cap n N) (h2:Cap m g):Cap (n+m) (N+g):=by unfold Cap at*;omega
theorem Cap.stop {n N M:Nat} (h:Cap n N) (hn:2147483647<n) (hM:N≤M):Cap n M:=by unfold Cap at*;omega
theorem Cap.iff {n N:Nat} (h:Cap n N):n≤2147483647↔N≤2147483647:=by unfold Cap at*;omega
theorem Rw {α:Type} (f:α→Nat) (l:List α) (k:Nat):Ak f (l.take k)≤Ak f l:=by
 have:=List.take_append_drop k l
 conv=>rhs;rw [←this]
 unfold Ak
 rw [List.map_append,List.sum_append]
 omega
theorem Wo {α:Type} (f:α→Nat) {l:List α} {k:Nat} {x:α} (h:l[k]?=some x):Ak f (l.take (k+1))=Ak f (l.take k)+f x:=by
 rw [List.take_add_one,h]
 simp [Ak]
def Yo (x:Av):Prop:=x.l.length≤140737488351232
def N8 (l:List Av):Nat:=l.length+Ak (fun i=>i.l.length) l
def JB (x:FL):Nat:=x.loc.size+N8 x.code
def Ad (m:AQ):Nat:=m.types.length+m.hosts.length+m.globs.length+m.fns.length+m.dat.length+m.AO.length+Ak (fun t=>t.p.size+t.r.size) m.types+Ak JB m.fns+Ak (fun d=>d.b.length) m.dat+Ak (fun e=>e.n.size) m.AO
def EN:Nat→List Nat→Nat
 | n,[]=>n
 | n,g::gs=>if n≤2147483647 then EN (n+g) gs else n
theorem ZT {n:Nat} (h:2147483647<n) (gs:List Nat):EN n gs=n:=by cases gs with | nil=>rfl | cons g gs=>unfold EN;rw [if_neg (by omega)]
theorem U8: ∀(gs:List Nat) (n:Nat),Cap (EN n gs) (n+gs.sum)
 | [],n=> .inl (by simp [EN])
 | g::gs,n=>by
  unfold EN
  split
  ·have:=U8 gs (n+g)
   rwa [List.sum_cons,←Nat.add_assoc]
  ·rename_i h
   exact .inr ⟨by omega,by omega⟩
theorem Wp: ∀(gs:List Nat) (n U:Nat),n≤U→(∀g∈gs,2147483647+g≤U)→EN n gs≤U
 | [],n,U,h,_=>h
 | g::gs,n,U,h,hg=>by
  unfold EN
  split
  ·rename_i hn
   exact Wp gs (n+g) U (by have:=hg g (by simp);omega) (fun x hx=>hg x (by simp [hx]))
  ·exact h
def Px (l:List Av):Nat:=EN l.length (l.map fun i=>i.l.length)
theorem aX (l:List Av):Cap (Px l) (N8 l):=U8 _ _
theorem gD {l:List Av} (h:l.length≤140737488351232) (hl: ∀i∈l,Yo i):Px l≤281474976710656:=
 Wp _ _ _ (by omega) (fun g hg=>by
  obtain⟨i,hi,rfl⟩:=List.mem_map.1 hg
  have:=hl i hi
  unfold Yo at this
  omega)
def Wq {α:Type} (f:α→Nat) (n0:Nat) (l:List α) (w:World) (x i:Value) (wr:World):Prop:= ∃k m:Nat,k≤l.length∧i= .int .i64 k∧x= .int .i64 m∧wr=w∧EN m ((l.drop k).map f)=EN n0 (l.map f)∧m≤281474976710656
theorem Wq.next {α:Type} {f:α→Nat} {n0:Nat} {l:List α} {k m:Nat} {x:α} (h:EN m ((l.drop k).map f)=EN n0 (l.map f)) (hx:l[k]?=some x) (hm:m≤2147483647):EN (m+f x) ((l.drop (k+1)).map f)=EN n0 (l.map f):=by
 obtain⟨hk,he⟩:=List.getElem?_eq_some_iff.1 hx
 rw [List.drop_eq_getElem_cons hk,List.map_cons,he] at h
 rw [←h]
 conv=>rhs;unfold EN
 rw [if_pos hm]
theorem Wq.stop {α:Type} {f:α→Nat} {n0:Nat} {l:List α} {k m:Nat} (h:EN m ((l.drop k).map f)=EN n0 (l.map f)) (hm:2147483647<m):m=EN n0 (l.map f):=by rwa [ZT hm] at h
theorem Wq.all {α:Type} {f:α→Nat} {n0:Nat} {l:List α} {k m:Nat} (h:EN m ((l.drop k).map f)=EN n0 (l.map f)) (hk:k=l.length):m=EN n0 (l.map f):=by
 subst hk
 rw [List.drop_length] at h
 exact h
theorem lM (A:Option Addr) (n c hi:Nat) (l:List Av) (w:World) (h:(I_.sl false).R w 0 hi [.slice A n c] l) (h47:n≤140737488351232) (hl: ∀i∈l,Yo i):
 Calls prog 20 #[.slice A n c] w fun e w'=>w=w'∧e= .returned (.int .i64 (Px l:Nat)):=by
 have Hn:=AA (D5 h)
 have Hh:=AA h;clear h
 have Hl:=AA hl;clear hl
 go_enter func20,ntmps20
 go_wp2_with fail
 go_loopw [3,4] (fun x i wr=>Wq (fun i:Av=>i.l.length) l.length l w x i wr) (fun _ i _=>n-(intOf i).toNat)
 case atStart=>exact⟨0,n,Nat.zero_le _,rfl,rfl,rfl,by rw [List.drop_zero,←Hn.out],by omega⟩
 case round=>
  obtain⟨k,m,hk,rfl,rfl,rfl,hm,Yp⟩:=hrel
  rw [←Hn.out] at hk
  have Hm:=AA hm;clear hm
  by_cases hlt:k<n
  ·by_cases hm2:m≤2147483647
   ·obtain⟨x,hx⟩: ∃x,l[k]?=some x:=⟨_,List.getElem?_eq_getElem (by rw [←Hn.out];exact hlt)⟩
    obtain⟨b,o,OT,Nt,rfl,_,hb,hc0,hc1,hc2,_,Ql⟩:=Nf Hh.out hx
    have hr8:x.l.length≤140737488351232:=Hl.out x (List.mem_of_getElem? hx)
    have HS:=AA (Wq.next Hm.out hx hm2)
    have IX:decide ((m:Int)≤2147483647)=true:=decide_eq_true (by omega)
    have hi0:(0:Int)≤k:=by omega
    clear hx Ql hc0 hc1
    go_wp2_with fail
    exact⟨⟨k+1,m+x.l.length,by rw [←Hn.out];omega,by go_num,by go_num,rfl,HS.out,by omega⟩,by simp [intOf];omega⟩
   ·have IX:decide ((m:Int)≤2147483647)=false:=decide_eq_false (by omega)
    go_wp2_with fail
    go_ret
    exact⟨rfl,by rw [show m=Px l from Wq.stop Hm.out (by omega)];rfl⟩
  ·obtain rfl:k=n:=by omega
   go_wp2_with fail
   go_ret
   exact⟨rfl,by rw [show k=l.length from Hn.out] at Hm;rw [show m=Px l from Wq.all Hm.out rfl];rfl⟩
def folded (v:Int):Nat:=if v<0 then 2*(-(v+1)).toNat+1 else 2*v.toNat
theorem xZ (a:Nat) (h:a<18446744073709551616):bits .xor .u64 (a:Int) 0=(a:Int):=by
 have:=u64_xor_nat a 0 h (by omega)
 rw [show((0:Nat):Int)=0 from rfl] at this
 rw [this,Nat.xor_zero]
theorem xg (a b:Nat) (h:a<18446744073709551616) (hb:b=18446744073709551615):bits .xor .u64 (a:Int) (b:Int)=((18446744073709551615-a:Nat):Int):=by
 subst hb
 show IntKind.u64.wrap ((BitVec.ofInt 64 (a:Int)^^^BitVec.ofInt 64 ((18446744073709551615:Nat):Int)).toNat:Int)=_
 have e:BitVec.ofInt 64 ((18446744073709551615:Nat):Int)=BitVec.allOnes 64:=by decide+kernel
 have e2:(BitVec.ofInt 64 (a:Int)).toNat=a:=by
  rw [BitVec.ofInt_natCast,BitVec.toNat_ofNat];exact Nat.mod_eq_of_lt (by omega)
 rw [e,BitVec.xor_allOnes,BitVec.toNat_not,e2,IntKind.wrap_u64]
 omega
theorem lN (v:Int) (h0: -9223372036854775808≤v) (h1:v<9223372036854775808):
 bits .xor .u64 (IntKind.u64.wrap (IntKind.u64.wrap v*2)) (IntKind.u64.wrap (v/9223372036854775808))=(folded v:Int):=by
 unfold folded
 rw [IntKind.wrap_u64,IntKind.wrap_u64,IntKind.wrap_u64]
 by_cases hv:v<0
 ·rw [if_pos hv]
  have e1:(v%18446744073709551616*2)%18446744073709551616=((18446744073709551616-2*(-v).toNat:Nat):Int):=by omega
  have e2:v/9223372036854775808%18446744073709551616=((18446744073709551615:Nat):Int):=by omega
  rw [e1,e2,xg _ _ (by omega) rfl]
  omega
 ·rw [if_neg hv]
  have e1:(v%18446744073709551616*2)%18446744073709551616=((2*v.toNat:Nat):Int):=by omega
  have e2:v/9223372036854775808%18446744073709551616=0:=by omega
  rw [e1,e2,xZ _ (by omega)]
theorem MZ (v:Int) (h0: -9223372036854775808≤v) (h1:v<9223372036854775808):folded v<18446744073709551616:=by unfold folded;split<;>omega
structure ZR where
 op:Nat
 word:ByteArray
 takes:Int
 pops:ByteArray
 pushes:ByteArray
 plain:Bool
def Dj:List ZR:= [
 ⟨0,⟨#[116,114,97,112]⟩,0,⟨#[]⟩,⟨#[]⟩,false⟩,
 ⟨1,⟨#[110,111,112]⟩,0,⟨#[]⟩,⟨#[]⟩,true⟩,
 ⟨2,⟨#[98,108,111,99,107]⟩,1,⟨#[]⟩,⟨#[]⟩,false⟩,
 ⟨3,⟨#[108,111,111,112]⟩,1,⟨#[]⟩,⟨#[]⟩,false⟩,
 ⟨4,⟨#[105,102]⟩,1,⟨#[]⟩,⟨#[]⟩,false⟩,
 ⟨5,⟨#[101,108,115,101]⟩,0,⟨#[]⟩,⟨#[]⟩,false⟩,
 ⟨6,⟨#[101,110,100]⟩,0,⟨#[]⟩,⟨#[]⟩,false⟩,
 ⟨7,⟨#[98,114]⟩,2,⟨#[]⟩,⟨#[]⟩,false⟩,
 ⟨8,⟨#[98,114,105,102]⟩,2,⟨#[]⟩,⟨#[]⟩,false⟩,
 ⟨9,⟨#[98,114,116,97,98,108,101]⟩,3,⟨#[]⟩,⟨#[]⟩,false⟩,
 ⟨10,⟨#[114,101,116,117,114,110]⟩,0,⟨#[]⟩,⟨#[]⟩,false⟩,
 ⟨11,⟨#[99,97,108,108]⟩,4,⟨#[]⟩,⟨#[]⟩,false⟩,
 ⟨12,⟨#[104,111,115,116]⟩,5,⟨#[]⟩,⟨#[]⟩,false⟩,
 ⟨16,⟨#[100,114,111,112]⟩,0,⟨#[]⟩,⟨#[]⟩,false⟩,
 ⟨17,⟨#[115,101,108,101,99,116]⟩,0,⟨#[]⟩,⟨#[]⟩,false⟩,
 ⟨18,⟨#[103,101,116]⟩,6,⟨#[]⟩,⟨#[]⟩,false⟩,
 ⟨19,⟨#[115,101,116]⟩,6,⟨#[]⟩,⟨#[]⟩,false⟩,
 ⟨20,⟨#[116,101,101]⟩,6,⟨#[]⟩,⟨#[]⟩,false⟩,
 ⟨21,⟨#[103,103,101,116]⟩,7,⟨#[]⟩,⟨#[]⟩,false⟩,
 ⟨22,⟨#[103,115,101,116]⟩,7,⟨#[]⟩,⟨#[]⟩,false⟩,
 ⟨24,⟨#[119,46,99,111,110,115,116]⟩,8,⟨#[]⟩,⟨#[119]⟩,true⟩,
 ⟨25,⟨#[108,46,99,111,110,115,116]⟩,8,⟨#[]⟩,⟨#[108]⟩,true⟩,
 ⟨32,⟨#[119,46,108,111,97,100,56,117]⟩,9,⟨#[119]⟩,⟨#[119]⟩,true⟩,
 ⟨33,⟨#[119,46,108,111,97,100,56,115]⟩,9,⟨#[119]⟩,⟨#[119]⟩,true⟩,
 ⟨34,⟨#[119,46,108,111,97,100,49,54,117]⟩,9,⟨#[119]⟩,⟨#[119]⟩,true⟩,
 ⟨35,⟨#[119,46,108,111,97,100,49,54,115]⟩,9,⟨#[119]⟩,⟨#[119]⟩,true⟩,
 ⟨36,⟨#[119,46,108,111,97,100]⟩,9,⟨#[119]⟩,⟨#[119]⟩,true⟩,
 ⟨37,⟨#[108,46,108,111,97,100]⟩,9,⟨#[119]⟩,⟨#[108]⟩,true⟩,
 ⟨38,⟨#[119,46,115,116,111,114,101,56]⟩,9,⟨#[119,119]⟩,⟨#[]⟩,true⟩,
 ⟨39,⟨#[119,46,115,116,111,114,101,49,54]⟩,9,⟨#[119,119]⟩,⟨#[]⟩,true⟩,
 ⟨40,⟨#[119,46,115,116,111,114,101]⟩,9,⟨#[119,119]⟩,⟨#[]⟩,true⟩,
 ⟨41,⟨#[108,46,115,116,111,114,101]⟩,9,⟨#[119,108]⟩,⟨#[]⟩,true⟩,
 ⟨42,⟨#[115,105,122,101]⟩,0,⟨#[]⟩,⟨#[119]⟩,true⟩,
 ⟨43,⟨#[103,114,111,119]⟩,0,⟨#[119]⟩,⟨#[119]⟩,true⟩,
 ⟨48,⟨#[119,46,101,113,122]⟩,0,⟨#[119]⟩,⟨#[119]⟩,true⟩,
 ⟨49,⟨#[119,46,101,113]⟩,0,⟨#[119,119]⟩,⟨#[119]⟩,true⟩,
 ⟨50,⟨#[119,46,110,101]⟩,0,⟨#[119,119]⟩,⟨#[119]⟩,true⟩,
 ⟨51,⟨#[119,46,108,116,115]⟩,0,⟨#[119,119]⟩,⟨#[119]⟩,true⟩,
 ⟨52,⟨#[119,46,108,116,117]⟩,0,⟨#[119,119]⟩,⟨#[119]⟩,true⟩,
 ⟨53,⟨#[119,46,108,101,115]⟩,0,⟨#[119,119]⟩,⟨#[119]⟩,true⟩,
 ⟨54,⟨#[119,46,108,101,117]⟩,0,⟨#[119,119]⟩,⟨#[119]⟩,true⟩,
 ⟨55,⟨#[119,46,99,108,122]⟩,0,⟨#[119]⟩,⟨#[119]⟩,true⟩,
 ⟨56,⟨#[119,46,99,116,122]⟩,0,⟨#[119]⟩,⟨#[119]⟩,true⟩,
 ⟨57,⟨#[119,46,112,111,112]⟩,0,⟨#[119]⟩,⟨#[119]⟩,true⟩,
 ⟨58,⟨#[119,46,97,100,100]⟩,0,⟨#[119,119]⟩,⟨#[119]⟩,true⟩,
 ⟨59,⟨#[119,46,115,117,98]⟩,0,⟨#[119,119]⟩,⟨#[119]⟩,true⟩,
 ⟨60,⟨#[119,46,109,117,108]⟩,0,⟨#[119,119]⟩,⟨#[119]⟩,true⟩,
 ⟨61,⟨#[119,46,100,105,118,115]⟩,0,⟨#[119,119]⟩,⟨#[119]⟩,true⟩,
 ⟨62,⟨#[119,46,100,105,118,117]⟩,0,⟨#[119,119]⟩,⟨#[119]⟩,true⟩,
 ⟨63,⟨#[119,46,114,101,109,115]⟩,0,⟨#[119,119]⟩,⟨#[119]⟩,true⟩,
 ⟨64,⟨#[119,46,114,101,109,117]⟩,0,⟨#[119,119]⟩,⟨#[119]⟩,true⟩,
 ⟨65,⟨#[119,46,97,110,100]⟩,0,⟨#[119,119]⟩,⟨#[119]⟩,true⟩,
 ⟨66,⟨#[119,46,111,114]⟩,0,⟨#[119,119]⟩,⟨#[119]⟩,true⟩,
 ⟨67,⟨#[119,46,120,111,114]⟩,0,⟨#[119,119]⟩,⟨#[119]⟩,true⟩,
 ⟨68,⟨#[119,46,115,104,108]⟩,0,⟨#[119,119]⟩,⟨#[119]⟩,true⟩,
 ⟨69,⟨#[119,46,115,104,114,115]⟩,0,⟨#[119,119]⟩,⟨#[119]⟩,true⟩,
 ⟨70,⟨#[119,46,115,104,114,117]⟩,0,⟨#[119,119]⟩,⟨#[119]⟩,true⟩,
 ⟨71,⟨#[119,46,114,111,116,108]⟩,0,⟨#[119,119]⟩,⟨#[119]⟩,true⟩,
 ⟨72,⟨#[119,46,114,111,116,114]⟩,0,⟨#[119,119]⟩,⟨#[119]⟩,true⟩,
 ⟨80,⟨#[108,46,101,113,122]⟩,0,⟨#[108]⟩,⟨#[119]⟩,true⟩,
 ⟨81,⟨#[108,46,101,113]⟩,0,⟨#[108,108]⟩,⟨#[119]⟩,true⟩,
 ⟨82,⟨#[108,46,110,101]⟩,0,⟨#[108,108]⟩,⟨#[119]⟩,true⟩,
 ⟨83,⟨#[108,46,108,116,115]⟩,0,⟨#[108,108]⟩,⟨#[119]⟩,true⟩,
 ⟨84,⟨#[108,46,108,116,117]⟩,0,⟨#[108,108]⟩,⟨#[119]⟩,true⟩,
 ⟨85,⟨#[108,46,108,101,115]⟩,0,⟨#[108,108]⟩,⟨#[119]⟩,true⟩,
 ⟨86,⟨#[108,46,108,101,117]⟩,0,⟨#[108,108]⟩,⟨#[119]⟩,true⟩,
 ⟨87,⟨#[108,46,99,108,122]⟩,0,⟨#[108]⟩,⟨#[108]⟩,true⟩,
 ⟨88,⟨#[108,46,99,116,122]⟩,0,⟨#[108]⟩,⟨#[108]⟩,true⟩,
 ⟨89,⟨#[108,46,112,111,112]⟩,0,⟨#[108]⟩,⟨#[108]⟩,true⟩,
 ⟨90,⟨#[108,46,97,100,100]⟩,0,⟨#[108,108]⟩,⟨#[108]⟩,true⟩,
 ⟨91,⟨#[108,46,115,117,98]⟩,0,⟨#[108,108]⟩,⟨#[108]⟩,true⟩,
 ⟨92,⟨#[108,46,109,117,108]⟩,0,⟨#[108,108]⟩,⟨#[108]⟩,true⟩,
 ⟨93,⟨#[108,46,100,105,118,115]⟩,0,⟨#[108,108]⟩,⟨#[108]⟩,true⟩,
 ⟨94,⟨#[108,46,100,105,118,117]⟩,0,⟨#[108,108]⟩,⟨#[108]⟩,true⟩,
 ⟨95,⟨#[108,46,114,101,109,115]⟩,0,⟨#[108,108]⟩,⟨#[108]⟩,true⟩,
 ⟨96,⟨#[108,46,114,101,109,117]⟩,0,⟨#[108,108]⟩,⟨#[108]⟩,true⟩,
 ⟨97,⟨#[108,46,97,110,100]⟩,0,⟨#[108,108]⟩,⟨#[108]⟩,true⟩,
 ⟨98,⟨#[108,46,111,114]⟩,0,⟨#[108,108]⟩,⟨#[108]⟩,true⟩,
 ⟨99,⟨#[108,46,120,111,114]⟩,0,⟨#[108,108]⟩,⟨#[108]⟩,true⟩,
 ⟨100,⟨#[108,46,115,104,108]⟩,0,⟨#[108,108]⟩,⟨#[108]⟩,true⟩,
 ⟨101,⟨#[108,46,115,104,114,115]⟩,0,⟨#[108,108]⟩,⟨#[108]⟩,true⟩,
 ⟨102,⟨#[108,46,115,104,114,117]⟩,0,⟨#[108,108]⟩,⟨#[108]⟩,true⟩,
 ⟨103,⟨#[108,46,114,111,116,108]⟩,0,⟨#[108,108]⟩,⟨#[108]⟩,true⟩,
 ⟨104,⟨#[108,46,114,111,116,114]⟩,0,⟨#[108,108]⟩,⟨#[108]⟩,true⟩,
 ⟨112,⟨#[119,46,119,114,97,112]⟩,0,⟨#[108]⟩,⟨#[119]⟩,true⟩,
 ⟨113,⟨#[108,46,101,120,116,101,110,100,115]⟩,0,⟨#[119]⟩,⟨#[108]⟩,true⟩,
 ⟨114,⟨#[108,46,101,120,116,101,110,100,117]⟩,0,⟨#[119]⟩,⟨#[108]⟩,true⟩,
 ⟨115,⟨#[119,46,101,120,116,56]⟩,0,⟨#[119]⟩,⟨#[119]⟩,true⟩,
 ⟨116,⟨#[119,46,101,120,116,49,54]⟩,0,⟨#[119]⟩,⟨#[119]⟩,true⟩,
 ⟨117,⟨#[108,46,101,120,116,51,50]⟩,0,⟨#[108]⟩,⟨#[108]⟩,true⟩]
def CG (n:Nat):Option ZR:=Dj.find? (fun r=>r.op==n)
theorem Jh {n:Nat} {r:ZR} (h:CG n=some r):r∈Dj∧r.op=n:=⟨List.mem_of_find?_eq_some h,by have:=List.find?_some h;simpa using this⟩
def wconst:ByteArray:=⟨#[119,46,99,111,110,115,116]⟩
def Ah (r:ZR):Int×Int:=
 if r.takes=1∨r.takes=2∨r.takes=4∨r.takes=5∨r.takes=6∨r.takes=7 then(0,2147483647) else
 if r.takes=9 then(0,4294967295) else
 if r.takes=8 then(if r.word=wconst then(-2147483648,2147483647) else(-9223372036854775808,9223372036854775807)) else(0,0)
def Aa (x:Av):Int:=match CG x.op.toNat with
 | none=>21
 | some r=>if ¬((Ah r).1≤x.a∧x.a≤(Ah r).2) then 17 else
  if r.takes≠3 then(if 0<x.l.length then 17 else 0) else
  if x.l.length<1∨16<x.l.length then 17 else
  if x.l.all (fun n=>decide (0≤n∧n≤2147483647)) then 0 else 17
def EO (a b:Int):Int:=if a=0 then b else a
theorem AL {a b:Int} (h:EO a b=0):a=0∧b=0:=by
 unfold EO at h
 by_cases h0:a=0
 ·rw [if_pos h0] at h;exact⟨h0,h⟩
 ·rw [if_neg h0] at h;exact absurd h h0
theorem Dk {a b:Int} (h:a≠0):EO a b=a:=if_neg h
theorem AY {a b:Int} (h:a=0):EO a b=b:=if_pos h
theorem I6 (a b c:Int):EO (EO a b) c=EO a (EO b c):=by
 unfold EO;by_cases h:a=0<;>simp [h]
def Aq:Nat→(Nat→Int)→Int
 | 0,_=>0
 | n+1,f=>EO (Aq n f) (f n)
theorem Ib {k:Nat} {f:Nat→Int} (h0:Aq k f=0) (h:f k=0):Aq (k+1) f=0:=by
 show EO _ _=0
 rw [h0,AY rfl,h]
theorem Ij {k:Nat} {f:Nat→Int} (h0:Aq k f=0) (h:f k≠0): ∀n,k<n→Aq n f=f k
 | 0,hn=>absurd hn (Nat.not_lt_zero _)
 | n+1,hn=>by
  show EO _ _=_
  by_cases e:k=n
  ·subst e;rw [h0,AY rfl]
  ·rw [Ij h0 h n (by omega),Dk h]
theorem Aw: ∀ {n:Nat} {f:Nat→Int},Aq n f=0→ ∀j,j<n→f j=0
 | 0,_,_,_,hj=>absurd hj (Nat.not_lt_zero _)
 | n+1,f,h,j,hj=>by
  have:=AL (a:=Aq n f) (b:=f n) h
  by_cases e:j=n
  ·subst e;exact this.2
  ·exact Aw this.1 j (by omega)
def Ae (b:Bool) (e:Int):Int:=if b then 0 else e
theorem D_ {b:Bool} {e:Int} (h:b=true):Ae b e=0:=by rw [h];rfl
theorem ET {b:Bool} {e:Int} (h:b=false):Ae b e=e:=by rw [h];rfl
def Dh (s:ByteArray) (most:Int):Int:=EO (Ae (decide ((s.size:Int)≤most)) 13) (Ae (Sk s) 15)
def PL (x y:Dl):Bool:=decide (x.p=y.p)&&decide (x.r=y.r)
def fJ (l:List Dl) (k:Nat):Int:=match l[k]? with
 | none=>0
 | some x=>EO (Dh x.p 8) (EO (Dh x.r 8) (Ae (!(l.take k).any (fun y=>PL y x)) 16))
def LD (m:AQ) (k:Nat):Int:=match m.hosts[k]? with
 | none=>0
 | some t=>Ae (decide (0≤t∧t<m.types.length)) 30
def Ms (m:AQ) (k:Nat):Int:=match m.globs[k]? with
 | none=>0
 | some x=>EO (Ae (Qh x.l.toNat) 15) (Ae (JL x.v x.l.toNat) 17)
def KR (m:AQ):Int:=Ae (decide (0≤m.first∧m.first≤64∧m.first≤m.most∧m.most≤64)) 17
def Qn (m:AQ) (t:Int):Nat:=match m.types[t.toNat]? with
 | none=>0
 | some x=>x.p.size
def PN (f:FL) (j:Nat):Int:=match f.code[j]? with
 | none=>0
 | some x=>Aa x
def JM (m:AQ) (k:Nat):Nat:=Ak (fun f:FL=>f.code.length) (m.fns.take k)
def YK (m:AQ) (k:Nat):Int:=match m.fns[k]? with
 | none=>0
 | some f=>EO (Ae (decide (0≤f.t∧f.t<m.types.length)) 30) (EO (Dh f.loc (64-Qn m f.t)) (EO (Ae (decide (f.code.length≤2048)) 20) (EO (Ae (decide (JM m (k+1)≤16384)) 20) (Aq f.code.length (PN f)))))
def Oz (m:AQ) (k:Nat):Int:=match m.dat[k]? with
 | none=>0
 | some d=>EO (Ae (decide (0≤d.at_∧d.at_≤m.first*4096)) 17) (EO (if k=0 then 0 else match m.dat[k-1]? with | none=>0 | some y=>Ae (decide (y.at_+y.b.length<d.at_)) 18) (EO (Ae (decide ((d.b.length:Int)≤m.first*4096-d.at_)) 13) (Ae (decide (0<d.b.length)) 17)))
def Sl (a b:ByteArray):Bool:=Op.bytesLess a.toList b.toList||a.toList==b.toList
def Tg (c:UInt8):Bool:=decide (32<c.toNat∧c.toNat<127)
def Qo (s:ByteArray):Int:=EO (Ae (decide (s.size≤32)) 13) (EO (Ae (decide (0<s.size)) 23) (Ae (s.data.toList.all Tg) 23))
def Ws (l:List LA) (k:Nat) (s:ByteArray):Int:=if k=0 then 0 else match l[k-1]? with
 | none=>0
 | some y=>Ae (!(Sl s y.n)) 18
def Rx (m:AQ) (k:Nat):Int:=match m.AO[k]? with
 | none=>0
 | some x=>EO (Qo x.n) (EO (Ws m.AO k x.n) (Ae (decide (0≤x.f∧x.f<m.fns.length)) 30))
def El (m:AQ):Int:=EO (Ae (decide (m.types.length≤64)) 20) (Aq m.types.length (fJ m.types))
def FY (m:AQ):Int:=EO (Ae (decide (m.hosts.length≤32)) 20) (Aq m.hosts.length (LD m))
def JN (m:AQ):Int:=EO (Ae (decide (m.globs.length≤64)) 20) (Aq m.globs.length (Ms m))
def NY (m:AQ):Int:=EO (El m) (EO (FY m) (EO (JN m) (KR m)))
def N9 (m:AQ):Int:=EO (Ae (decide (m.fns.length≤128)) 20) (Aq m.fns.length (YK m))
def KW (m:AQ):Int:=EO (Ae (decide (m.dat.length≤64)) 20) (Aq m.dat.length (Oz m))
def NZ (m:AQ):Int:=EO (Ae (decide (m.AO.length≤64)) 20) (Aq m.AO.length (Rx m))
def Mt (m:AQ):Int:=EO (N9 m) (EO (KW m) (NZ m))
def O1 (m:AQ):Int:=EO (NY m) (Mt m)
def JH (s:ByteArray):List UInt8:=enc s.size++s.data.toList
def O4 (x:Dl):List UInt8:=JH x.p++JH x.r
def Au (x:Ep):Int:=if x.l.toNat=119∧2147483648≤x.v then(x.v:Int)-4294967296 else if x.v<9223372036854775808 then(x.v:Int) else(x.v:Int)-18446744073709551616
def JI (x:Ep):List UInt8:= [x.l,if x.m then 1 else 0]++enc (folded (Au x))
def Kl (x:Av):List UInt8:=match CG x.op.toNat with
 | none=> []
 | some r=>x.op::(if r.takes=0 then [] else if r.takes=8 then enc (folded x.a) else if r.takes=3 then enc x.l.length++x.l.flatMap (fun n=>enc n.toNat) else enc x.a.toNat)
def Wt (f:FL):List UInt8:=enc f.t.toNat++JH f.loc++enc f.code.length++f.code.flatMap Kl
def Mv (d:EZ):List UInt8:=enc d.at_.toNat++(enc d.b.length++d.b)
def Ni (x:LA):List UInt8:=JH x.n++enc x.f.toNat
def Qp (m:AQ):List UInt8:=enc m.types.length++m.types.flatMap O4
def Qq (m:AQ):List UInt8:=enc m.hosts.length++m.hosts.flatMap (fun t=>enc t.toNat)
def Qr (m:AQ):List UInt8:=enc m.globs.length++m.globs.flatMap JI
def Qs (m:AQ):List UInt8:=Qp m++(Qq m++(Qr m++(enc m.first.toNat++enc m.most.toNat)))
def U9 (m:AQ):List UInt8:=(enc m.fns.length++m.fns.flatMap Wt)++((enc m.dat.length++m.dat.flatMap Mv)++(enc m.AO.length++m.AO.flatMap Ni))
def Py:List UInt8:= [70,76,71,78,1]
def OW (m:AQ):List UInt8:=Py++(Qs m++U9 m)
def FM (m:AQ):Int:=EO (O1 m) (Ae (decide ((OW m).length≤65536)) 13)
theorem FK {α:Type} {f:α→List UInt8} {l:List α} {k:Nat} {x:α} (h:l[k]?=some x):(l.take (k+1)).flatMap f=(l.take k).flatMap f++f x:=by
 have hk:=(List.getElem?_eq_some_iff.1 h)
 rw [List.take_succ_eq_append_getElem hk.1,hk.2,List.flatMap_append]
 simp
theorem qx {α:Type} {f:α→List UInt8} {l:List α} {k:Nat} (h:k=l.length):(l.take k).flatMap f=l.flatMap f:=by
 rw [List.take_of_length_le (by omega)]
theorem Sm {α:Type} {f:α→List UInt8} {c:Nat}: ∀ {l:List α},(∀x∈l,(f x).length≤c)→(l.flatMap f).length≤l.length*c
 | [],_=>by simp
 | x::l,h=>by
  rw [List.flatMap_cons,List.length_append,List.length_cons,Nat.add_mul,Nat.one_mul]
  have h1:=h x (List.mem_cons_self ..)
  have h2:=Sm (fun y hy=>h y (List.mem_cons_of_mem _ hy)) (l:=l)
  omega
def K9 (u:Nat) (s:List UInt8):List UInt8:=if h:u=0 then s else K9 (u/10) (UInt8.ofNat (48+u%10)::s)
termination_by u
decreasing_by omega
theorem Qi (s:List UInt8):K9 0 s=s:=by rw [K9,dif_pos rfl]
theorem Rs {u:Nat} (h:u≠0) (s:List UInt8):K9 u s=K9 (u/10) (UInt8.ofNat (48+u%10)::s):=by rw [K9,dif_neg h]
theorem Yj: ∀(u:Nat) (s:List UInt8),u≠0→K9 u s=Lib.decDigits u++s:=by
 intro u
 induction u using Nat.strongRecOn with
 | _ u ih=>
  intro s h
  rw [Rs h]
  by_cases h10:u<10
  ·rw [show u/10=0 by omega,Qi,Lib.decDigits,dif_pos h10,Nat.mod_eq_of_lt h10]
   rfl
  ·rw [ih (u/10) (by omega) _ (by omega)]
   conv=>rhs;rw [Lib.decDigits,dif_neg h10]
   rw [List.append_assoc]
   rfl
theorem WZ:Lib.decDigits 0= [48]:=by rw [Lib.decDigits,dif_pos (by decide)];rfl
def aS (s:List UInt8):Nat:=s.foldl (fun u c=>10*u+(c.toNat-48)) 0
theorem lD (s:List UInt8) (c:UInt8):aS (s++ [c])=10*aS s+(c.toNat-48):=by
 unfold aS
 rw [List.foldl_append]
 rfl
theorem MV {d:Nat} (h:d<10):(UInt8.ofNat (48+d)).toNat=48+d:=by
 rw [UInt8.toNat_ofNat']
 omega
theorem aT (u:Nat):aS (Lib.decDigits u)=u:=by
 induction u using Nat.strongRecOn with
 | _ u ih=>
  by_cases h10:u<10
  ·rw [Lib.decDigits,dif_pos h10]
   show 10*0+((UInt8.ofNat (48+u)).toNat-48)=u
   rw [MV h10]
   omega
  ·rw [Lib.decDigits,dif_neg h10,lD,ih (u/10) (by omega),MV (Nat.mod_lt _ (by decide))]
   omega
theorem Q8 (u:Nat): ∀c∈Lib.decDigits u,48≤c.toNat∧c.toNat≤57:=by
 induction u using Nat.strongRecOn with
 | _ u ih=>
  intro c hc
  by_cases h10:u<10
  ·rw [Lib.decDigits,dif_pos h10,List.mem_singleton] at hc
   subst hc
   rw [MV h10]
   omega
  ·rw [Lib.decDigits,dif_neg h10,List.mem_append,List.mem_singleton] at hc
   rcases hc with hc | rfl
   ·exact ih (u/10) (by omega) c hc
   ·have:=Nat.mod_lt u (show 0<10 by decide)
    rw [MV this]
    omega
theorem Rt (u:Nat):Lib.decDigits u≠ []:=by
 rw [Lib.decDigits]
 split
 ·exact List.cons_ne_nil _ _
 ·exact List.append_ne_nil_of_right_ne_nil _ (List.cons_ne_nil _ _)
def Ru:List UInt8→Int
 | 45::s=> -(aS s:Int)
 | s=>(aS s:Int)
theorem aU (n:Int):Ru (Lib.itoa n)=n:=by
 unfold Lib.itoa
 split
 ·show-(aS (Lib.decDigits n.natAbs):Int)=n
  rw [aT]
  omega
 ·rename_i h
  have hd:=Q8 n.toNat
  have he:Ru (Lib.decDigits n.toNat)=(aS (Lib.decDigits n.toNat):Int):=by
   unfold Ru
   split
   ·rename_i s hs
    have:=hd 45 (by rw [hs];exact List.mem_cons_self ..)
    exact absurd this.1 (by decide)
   ·rfl
  rw [he,aT]
  omega
def Ow (s:List UInt8):Option Int:=if-9223372036854775808≤Ru s∧Ru s≤9223372036854775807∧Lib.itoa (Ru s)=s then some (Ru s) else none
theorem U4 {n:Int} (h0: -9223372036854775808≤n) (h1:n≤9223372036854775807):Ow (Lib.itoa n)=some n:=by
 unfold Ow
 rw [aU]
 exact if_pos ⟨h0,h1,rfl⟩
theorem U5 {s:List UInt8} {n:Int} (h:Ow s=some n): -9223372036854775808≤n∧n≤9223372036854775807∧s=Lib.itoa n:=by
 unfold Ow at h
 split at h
 ·rename_i hc
  injection h with h
  subst h
  exact⟨hc.1,hc.2.1,hc.2.2.symm⟩
 ·cases h
def EW (s:ByteArray):List UInt8:=if s.size=0 then [45] else s.data.toList
def UY (x:Dl):List UInt8:=EW x.p++([32,45,62,32]++EW x.r)
def Cg (ps:List (List UInt8)):List UInt8:=Lib.join ps [32]++ [10]
def Na (op:Nat):List UInt8:=match CG op with
 | some r=>r.word.data.toList
 | none=> []
def KS (op:Nat):Int:=match CG op with
 | some r=>r.takes
 | none=>0
def PO (x:Av):List UInt8:=
 Na x.op.toNat++((if KS x.op.toNat≠0∧KS x.op.toNat≠3 then 32::Lib.itoa x.a else [])++x.l.flatMap fun n=>32::Lib.itoa n)
def OX (n:Nat):UInt8:=UInt8.ofNat (if n<10 then 48+n else 87+n)
def KX (b:List UInt8):List UInt8:=b.flatMap fun c=> [OX (c.toNat/16),OX (c.toNat%16)]
def Mi:List UInt8:= [102,108,97,103,111,110]
def Sn:List UInt8:= [116,121,112,101]
def Nj:List UInt8:= [101,120,116,101,114,110]
def Ji:List UInt8:= [103,108,111,98,97,108]
def Ma:List UInt8:= [99,111,110,115,116]
def UZ:List UInt8:= [118,97,114]
def Ik:List UInt8:= [109,101,109,111,114,121]
def QY:List UInt8:= [102,117,110,99]
def Yq:List UInt8:= [100,97,116,97]
def RB:List UInt8:= [101,120,112,111,114,116]
def FN (x:Ep):List UInt8:=Cg [Ji,[x.l],if x.m then UZ else Ma,Lib.itoa (Au x)]
def Sc (f:FL):List UInt8:=Cg [QY,Lib.itoa f.t,EW f.loc]++f.code.flatMap fun x=>Cg [[32,32]++PO x]
def Lm (d:EZ):List UInt8:=Cg [Yq,Lib.itoa d.at_,KX d.b]
def NA (x:LA):List UInt8:=Cg [RB,x.n.data.toList,Lib.itoa x.f]
def jZ (m:AQ):List UInt8:=Cg [Mi]++(m.types.flatMap (fun x=>Cg [Sn,UY x])++(m.hosts.flatMap (fun t=>Cg [Nj,Lib.itoa t])++(m.globs.flatMap FN++Cg [Ik,Lib.itoa m.first,Lib.itoa m.most])))
def jc (m:AQ):List UInt8:=m.fns.flatMap Sc++(m.dat.flatMap Lm++m.AO.flatMap NA)
def Il (m:AQ):List UInt8:=jZ m++jc m
theorem RD (a:List UInt8):Cg [a]=a++ [10]:=by unfold Cg;rw [Lib.join_one]
theorem PS (a b:List UInt8):Cg [a,b]=a++(32::b++ [10]):=by simp [Cg,Lib.join,List.intercalate]
theorem Er (a b c:List UInt8):Cg [a,b,c]=a++(32::b++(32::c++ [10])):=by simp [Cg,Lib.join,List.intercalate]
theorem Wu (a b c d:List UInt8):Cg [a,b,c,d]=a++(32::b++(32::c++(32::d++ [10]))):=by simp [Cg,Lib.join,List.intercalate]
end Go.Proofs.YtebgikflpgcnlaaGreatDoor
