/- Part 8 of the proof: RdrA RdrB HexP ParP TbkP PrsQ -/
import Derived.Lib.Bytealg
import Derived.Lib.SplitLaws
import Derived.Lib.TrimAscii
import Derived.Lib.TrimUEq
import Derived.Lib.CountLaws
import Derived.Test.YtebgikflpgcnlaaGreatDoorT07
namespace Go.Proofs.YtebgikflpgcnlaaGreatDoor
set_option linter.unusedVariables false
set_option linter.unusedSimpArgs false
set_option maxRecDepth 100000
set_option maxHeartbeats 4000000
open Go.RowKit Tryz
theorem Keep.mono0 {K K':Nat→Prop} {w w':World} (h:Keep K w w') (hk: ∀k,k<w.heap.size→K' k→K k):Keep K' w w':=⟨h.os,h.tape,h.output,h.size,fun k h1 h2=>h.block k h1 (hk k h1 h2)⟩
structure PrtC {α:Type} (r:Rd α) (e:TypeId) (B:Nat) (S:Nat→Prop) (W:World) (A:Option Addr) (n c:Nat) (cells:List Value) (xs:List α):Prop where
 own:W.ownsRow B e r.z (.slice A n c) n cells
 len:n=xs.length
 at_: ∀g,(Value.slice A n c).ownBlock=some g→S g
 els: ∀(k:Nat) x,xs[k]?=some x→ ∃lo hi,B≤lo∧hi≤W.heap.size∧(∀g,(Value.slice A n c).ownBlock=some g→g<lo∨hi≤g)∧(∀g,lo≤g→g<hi→S g)∧r.R W lo hi ((cells.drop (k*r.z)).take r.z) x
def Prt {α:Type} (r:Rd α) (e:TypeId) (B:Nat) (S:Nat→Prop) (W:World) (v:Value) (xs:List α):Prop:= ∃A c cells,v= .slice A xs.length c∧PrtC r e B S W A xs.length c cells xs
section
variable {α:Type} {r:Rd α} {e:TypeId} {B:Nat} {S S':Nat→Prop} {W W':World} {A:Option Addr} {n c:Nat} {cells:List Value} {xs:List α} {v:Value}
theorem PrtC.nil (r:Rd α) (e:TypeId) (B:Nat) (S:Nat→Prop) (W:World):PrtC r e B S W none 0 0 [] []:=
 ⟨⟨by simp,.inl ⟨rfl,rfl⟩⟩,rfl,fun g h=>(by cases h),fun k x h=>by simp at h⟩
theorem Prt.nil (r:Rd α) (e:TypeId) (B:Nat) (S:Nat→Prop) (W:World):Prt r e B S W (.slice none 0 0) []:=⟨none,0,[],rfl,PrtC.nil r e B S W⟩
theorem PrtC.lt (h:PrtC r e B S W A n c cells xs): ∀g,(Value.slice A n c).ownBlock=some g→B≤g∧g<W.heap.size:=h.own.lt
theorem PrtC.keep {K:Nat→Prop} (h:PrtC r e B S W A n c cells xs) (hK:Keep K W W') (hSK: ∀k,B≤k→k<W.heap.size→S k→K k) (hS: ∀k,k<W.heap.size→S k→S' k):PrtC r e B S' W' A n c cells xs:=by
 refine⟨own_keepK (K:=fun k=>B≤k∧S k) h.own (hK.mono0 fun k h1 h2=>hSK k h2.1 h1 h2.2) (fun k hk=>⟨(h.lt k hk).1,h.at_ k hk⟩),h.len,fun g hg=>hS g (h.lt g hg).2 (h.at_ g hg),fun k x hk=> ?_⟩
 obtain⟨lo,hi,h1,h2,h3,h4,h5⟩:=h.els k x hk
 exact⟨lo,hi,h1,Nat.le_trans h2 hK.size,h3,fun g ha hb=>hS g (by omega) (h4 g ha hb),Rd.keepK (K:=fun k=>B≤k∧S k) h5 (hK.mono0 fun k h1 h2=>hSK k h2.1 h1 h2.2) h2 (fun k ha hb=>⟨by omega,h4 k ha hb⟩)⟩
theorem Prt.keep {K:Nat→Prop} (h:Prt r e B S W v xs) (hK:Keep K W W') (hSK: ∀k,B≤k→k<W.heap.size→S k→K k) (hS: ∀k,k<W.heap.size→S k→S' k):Prt r e B S' W' v xs:=by
 obtain⟨A,c,cells,rfl,h⟩:=h
 exact⟨A,c,cells,rfl,h.keep hK hSK hS⟩
theorem PrtC.reads (h:PrtC r e B S W A n c cells xs):(r.sl false).R W B W.heap.size [.slice A n c] xs:=by
 refine Rd.own false h.own h.len fun k x hk=> ?_
 obtain⟨lo,hi,h1,h2,_,_,h4⟩:=h.els k x hk
 exact r.more h1 h2 h4
theorem Prt.reads (h:Prt r e B S W v xs):(r.sl false).R W B W.heap.size [v] xs:=by
 obtain⟨A,c,cells,rfl,h⟩:=h
 exact h.reads
theorem PrtC.snoc {w0 w3 w4:World} (h:PrtC r e B S w0 A n c cells xs) (hb:Below w0.heap.size w0 w3) (hB:B≤w0.heap.size) {A':Option Addr} {c' lo hi:Nat} {cs:List Value} {x:α} (hr:r.R w3 lo hi cs x) (hlo:w0.heap.size≤lo) (hhi:hi≤w3.heap.size)
 (ho:w4.ownsRow B e r.z (.slice A' (n+1) c') (n+1) (cells++cs)) (hg:w3.grownBy w4 (Value.slice A n c).ownBlock) (hat:(Value.slice A' (n+1) c').ownBlock=(Value.slice A n c).ownBlock∨(Value.slice A' (n+1) c').ownBlock=some w3.heap.size)
 (hS: ∀k,k<w0.heap.size→S k→S' k) (hnew: ∀k,w0.heap.size≤k→S' k):PrtC r e B S' w4 A' (n+1) c' (cells++cs) (xs++ [x]):=by
 have hl:cells.length=n*r.z:=h.own.1
 have hcs:cs.length=r.z:=r.len hr
 have hfar: ∀ {lo hi:Nat},hi≤w3.heap.size→(∀g,(Value.slice A n c).ownBlock=some g→g<lo∨hi≤g)→ ∀g,(Value.slice A' (n+1) c').ownBlock=some g→g<lo∨hi≤g:=fun hh ha g hg'=>by
  rcases hat with h1 | h1
  ·exact ha g (h1▸hg')
  ·rw [h1] at hg';injection hg' with hg';right;omega
 refine⟨ho,by rw [List.length_append,←h.len];rfl,fun g hg'=> ?_,fun k y hk=> ?_⟩
 ·rcases hat with h1 | h1
  ·have h2:=h1▸hg'
   exact hS g (h.lt g h2).2 (h.at_ g h2)
  ·rw [h1] at hg';injection hg' with hg'
   exact hnew g (by have:=hb.size;omega)
 rw [List.getElem?_append] at hk
 split at hk
 ·rename_i hlt
  obtain⟨l1,h1,g1,g2,g3,g5,g4⟩:=h.els k y hk
  have g2':h1≤w3.heap.size:=Nat.le_trans g2 hb.size
  refine⟨l1,h1,g1,Nat.le_trans g2' hg.size,hfar g2' g3,fun g ha hb'=>hS g (by omega) (g5 g ha hb'),?_⟩
  have hkn:k*r.z+r.z≤cells.length:=by
   rw [hl,←Nat.succ_mul]
   exact Nat.mul_le_mul_right _ (by rw [h.len];exact hlt)
  rw [List.drop_append_of_le_length (by omega),List.take_append_of_le_length (by rw [List.length_drop];omega)]
  exact r.grown (r.below g4 hb g2) hg g2' g3
 ·rename_i hge
  have hk0:k=xs.length:=by
   have:=(List.getElem?_eq_some_iff.1 hk).1
   simp at this;omega
  subst hk0
  rw [Nat.sub_self] at hk
  simp at hk
  subst hk
  have hown: ∀g,(Value.slice A n c).ownBlock=some g→g<lo∨hi≤g:=fun g hg'=> .inl (by have:=(h.lt g hg').2;omega)
  refine⟨lo,hi,by omega,Nat.le_trans hhi hg.size,hfar hhi hown,fun g ha hb'=>hnew g (by omega),?_⟩
  rw [←h.len,←hl,List.drop_left' rfl,←hcs,List.take_length]
  exact r.grown hr hg hhi hown
end
structure Six (B:Nat) (col:Nat→Nat) (W:World) (v1 v2 v3 v6 v7 v8:Value) (m:ModV):Prop where
 p1:Prt rSig 51 B (fun k=>col k=1) W v1 m.types
 p2:Prt Rd.i64 3 B (fun k=>col k=2) W v2 m.hosts
 p3:Prt rGlob 82 B (fun k=>col k=3) W v3 m.globs
 p6:Prt rFn 56 B (fun k=>col k=6) W v6 m.fns
 p7:Prt rDat 59 B (fun k=>col k=7) W v7 m.dat
 p8:Prt rExp 61 B (fun k=>col k=8) W v8 m.exps
def colU (w:World) (col:Nat→Nat) (i:Nat):Nat→Nat:=fun k=>if k<w.heap.size then col k else i
theorem colU_old {w:World} {col:Nat→Nat} {i j k:Nat} (h:k<w.heap.size) (hc:col k=j):colU w col i k=j:=by unfold colU;rw [if_pos h];exact hc
theorem colU_new {w:World} {col:Nat→Nat} {i k:Nat} (h:w.heap.size≤k):colU w col i k=i:=by unfold colU;rw [if_neg (by omega)]
section
variable {B:Nat} {col:Nat→Nat} {W W':World} {v1 v2 v3 v6 v7 v8:Value} {m:ModV}
theorem Six.keep {K:Nat→Prop} (h:Six B col W v1 v2 v3 v6 v7 v8 m) (hK:Keep K W W') (hk: ∀k,B≤k→k<W.heap.size→col k≠0→K k) (col':Nat→Nat) (hc: ∀k,k<W.heap.size→col k≠0→col' k=col k):Six B col' W' v1 v2 v3 v6 v7 v8 m:=by
 refine⟨h.p1.keep hK (fun k hB hlt e=>hk k hB hlt (by rw [e];decide)) (fun k hlt e=>by rw [hc k hlt (by rw [e];decide)];exact e),h.p2.keep hK (fun k hB hlt e=>hk k hB hlt (by rw [e];decide)) (fun k hlt e=>by rw [hc k hlt (by rw [e];decide)];exact e),h.p3.keep hK (fun k hB hlt e=>hk k hB hlt (by rw [e];decide)) (fun k hlt e=>by rw [hc k hlt (by rw [e];decide)];exact e),h.p6.keep hK (fun k hB hlt e=>hk k hB hlt (by rw [e];decide)) (fun k hlt e=>by rw [hc k hlt (by rw [e];decide)];exact e),h.p7.keep hK (fun k hB hlt e=>hk k hB hlt (by rw [e];decide)) (fun k hlt e=>by rw [hc k hlt (by rw [e];decide)];exact e),h.p8.keep hK (fun k hB hlt e=>hk k hB hlt (by rw [e];decide)) (fun k hlt e=>by rw [hc k hlt (by rw [e];decide)];exact e)⟩
theorem Six.put1 {w0 w4:World} (h:Six B col w0 v1 v2 v3 v6 v7 v8 m) {K:Nat→Prop} (hK:Keep K w0 w4) (hk: ∀k,B≤k→k<w0.heap.size→col k≠1→col k≠0→K k) {v':Value} {xs:List SigV}
 (hn:Prt rSig 51 B (fun k=>colU w0 col 1 k=1) w4 v' xs):Six B (colU w0 col 1) w4 v' v2 v3 v6 v7 v8 {m with types:=xs}:=by
 refine⟨hn,h.p2.keep hK (fun k hB hlt e=>hk k hB hlt (by rw [e];decide) (by rw [e];decide)) (fun k hlt e=>colU_old hlt e),h.p3.keep hK (fun k hB hlt e=>hk k hB hlt (by rw [e];decide) (by rw [e];decide)) (fun k hlt e=>colU_old hlt e),h.p6.keep hK (fun k hB hlt e=>hk k hB hlt (by rw [e];decide) (by rw [e];decide)) (fun k hlt e=>colU_old hlt e),h.p7.keep hK (fun k hB hlt e=>hk k hB hlt (by rw [e];decide) (by rw [e];decide)) (fun k hlt e=>colU_old hlt e),h.p8.keep hK (fun k hB hlt e=>hk k hB hlt (by rw [e];decide) (by rw [e];decide)) (fun k hlt e=>colU_old hlt e)⟩
theorem Six.put2 {w0 w4:World} (h:Six B col w0 v1 v2 v3 v6 v7 v8 m) {K:Nat→Prop} (hK:Keep K w0 w4) (hk: ∀k,B≤k→k<w0.heap.size→col k≠2→col k≠0→K k) {v':Value} {xs:List Int}
 (hn:Prt Rd.i64 3 B (fun k=>colU w0 col 2 k=2) w4 v' xs):Six B (colU w0 col 2) w4 v1 v' v3 v6 v7 v8 {m with hosts:=xs}:=by
 refine⟨h.p1.keep hK (fun k hB hlt e=>hk k hB hlt (by rw [e];decide) (by rw [e];decide)) (fun k hlt e=>colU_old hlt e),hn,h.p3.keep hK (fun k hB hlt e=>hk k hB hlt (by rw [e];decide) (by rw [e];decide)) (fun k hlt e=>colU_old hlt e),h.p6.keep hK (fun k hB hlt e=>hk k hB hlt (by rw [e];decide) (by rw [e];decide)) (fun k hlt e=>colU_old hlt e),h.p7.keep hK (fun k hB hlt e=>hk k hB hlt (by rw [e];decide) (by rw [e];decide)) (fun k hlt e=>colU_old hlt e),h.p8.keep hK (fun k hB hlt e=>hk k hB hlt (by rw [e];decide) (by rw [e];decide)) (fun k hlt e=>colU_old hlt e)⟩
theorem Six.put3 {w0 w4:World} (h:Six B col w0 v1 v2 v3 v6 v7 v8 m) {K:Nat→Prop} (hK:Keep K w0 w4) (hk: ∀k,B≤k→k<w0.heap.size→col k≠3→col k≠0→K k) {v':Value} {xs:List GlobV}
 (hn:Prt rGlob 82 B (fun k=>colU w0 col 3 k=3) w4 v' xs):Six B (colU w0 col 3) w4 v1 v2 v' v6 v7 v8 {m with globs:=xs}:=by
 refine⟨h.p1.keep hK (fun k hB hlt e=>hk k hB hlt (by rw [e];decide) (by rw [e];decide)) (fun k hlt e=>colU_old hlt e),h.p2.keep hK (fun k hB hlt e=>hk k hB hlt (by rw [e];decide) (by rw [e];decide)) (fun k hlt e=>colU_old hlt e),hn,h.p6.keep hK (fun k hB hlt e=>hk k hB hlt (by rw [e];decide) (by rw [e];decide)) (fun k hlt e=>colU_old hlt e),h.p7.keep hK (fun k hB hlt e=>hk k hB hlt (by rw [e];decide) (by rw [e];decide)) (fun k hlt e=>colU_old hlt e),h.p8.keep hK (fun k hB hlt e=>hk k hB hlt (by rw [e];decide) (by rw [e];decide)) (fun k hlt e=>colU_old hlt e)⟩
theorem Six.put6 {w0 w4:World} (h:Six B col w0 v1 v2 v3 v6 v7 v8 m) {K:Nat→Prop} (hK:Keep K w0 w4) (hk: ∀k,B≤k→k<w0.heap.size→col k≠6→col k≠0→K k) {v':Value} {xs:List FnV}
 (hn:Prt rFn 56 B (fun k=>colU w0 col 6 k=6) w4 v' xs):Six B (colU w0 col 6) w4 v1 v2 v3 v' v7 v8 {m with fns:=xs}:=by
 refine⟨h.p1.keep hK (fun k hB hlt e=>hk k hB hlt (by rw [e];decide) (by rw [e];decide)) (fun k hlt e=>colU_old hlt e),h.p2.keep hK (fun k hB hlt e=>hk k hB hlt (by rw [e];decide) (by rw [e];decide)) (fun k hlt e=>colU_old hlt e),h.p3.keep hK (fun k hB hlt e=>hk k hB hlt (by rw [e];decide) (by rw [e];decide)) (fun k hlt e=>colU_old hlt e),hn,h.p7.keep hK (fun k hB hlt e=>hk k hB hlt (by rw [e];decide) (by rw [e];decide)) (fun k hlt e=>colU_old hlt e),h.p8.keep hK (fun k hB hlt e=>hk k hB hlt (by rw [e];decide) (by rw [e];decide)) (fun k hlt e=>colU_old hlt e)⟩
theorem Six.put7 {w0 w4:World} (h:Six B col w0 v1 v2 v3 v6 v7 v8 m) {K:Nat→Prop} (hK:Keep K w0 w4) (hk: ∀k,B≤k→k<w0.heap.size→col k≠7→col k≠0→K k) {v':Value} {xs:List DatV}
 (hn:Prt rDat 59 B (fun k=>colU w0 col 7 k=7) w4 v' xs):Six B (colU w0 col 7) w4 v1 v2 v3 v6 v' v8 {m with dat:=xs}:=by
 refine⟨h.p1.keep hK (fun k hB hlt e=>hk k hB hlt (by rw [e];decide) (by rw [e];decide)) (fun k hlt e=>colU_old hlt e),h.p2.keep hK (fun k hB hlt e=>hk k hB hlt (by rw [e];decide) (by rw [e];decide)) (fun k hlt e=>colU_old hlt e),h.p3.keep hK (fun k hB hlt e=>hk k hB hlt (by rw [e];decide) (by rw [e];decide)) (fun k hlt e=>colU_old hlt e),h.p6.keep hK (fun k hB hlt e=>hk k hB hlt (by rw [e];decide) (by rw [e];decide)) (fun k hlt e=>colU_old hlt e),hn,h.p8.keep hK (fun k hB hlt e=>hk k hB hlt (by rw [e];decide) (by rw [e];decide)) (fun k hlt e=>colU_old hlt e)⟩
theorem Six.put8 {w0 w4:World} (h:Six B col w0 v1 v2 v3 v6 v7 v8 m) {K:Nat→Prop} (hK:Keep K w0 w4) (hk: ∀k,B≤k→k<w0.heap.size→col k≠8→col k≠0→K k) {v':Value} {xs:List ExpV}
 (hn:Prt rExp 61 B (fun k=>colU w0 col 8 k=8) w4 v' xs):Six B (colU w0 col 8) w4 v1 v2 v3 v6 v7 v' {m with exps:=xs}:=by
 refine⟨h.p1.keep hK (fun k hB hlt e=>hk k hB hlt (by rw [e];decide) (by rw [e];decide)) (fun k hlt e=>colU_old hlt e),h.p2.keep hK (fun k hB hlt e=>hk k hB hlt (by rw [e];decide) (by rw [e];decide)) (fun k hlt e=>colU_old hlt e),h.p3.keep hK (fun k hB hlt e=>hk k hB hlt (by rw [e];decide) (by rw [e];decide)) (fun k hlt e=>colU_old hlt e),h.p6.keep hK (fun k hB hlt e=>hk k hB hlt (by rw [e];decide) (by rw [e];decide)) (fun k hlt e=>colU_old hlt e),h.p7.keep hK (fun k hB hlt e=>hk k hB hlt (by rw [e];decide) (by rw [e];decide)) (fun k hlt e=>colU_old hlt e),hn⟩
end
structure Lens (m:ModV) (q:Nat):Prop where
 types:m.types.length≤q
 hosts:m.hosts.length≤q
 globs:m.globs.length≤q
 fns:m.fns.length≤q
 dat:m.dat.length≤q
 exps:m.exps.length≤q
 code: ∀f∈m.fns,f.code.length≤q
theorem Lens.mono {m:ModV} {q q':Nat} (h:Lens m q) (hq:q≤q'):Lens m q':=
 ⟨Nat.le_trans h.types hq,Nat.le_trans h.hosts hq,Nat.le_trans h.globs hq,Nat.le_trans h.fns hq,Nat.le_trans h.dat hq,Nat.le_trans h.exps hq,fun f hf=>Nat.le_trans (h.code f hf) hq⟩
structure RdC (B b:Nat) (W:World) (col:Nat→Nat) (v1 v2 v3 v6 v7 v8:Value) (m:ModV) (st ln:Nat):Prop where
 blk:Blk W b 104 [v1,v2,v3,.int .i64 m.first,.int .i64 m.most,v6,v7,v8,.int .i64 st,.int .i64 ln]
 six:Six B col W v1 v2 v3 v6 v7 v8 m
 low:b<B
 top:B≤W.heap.size
 first:Rd.B63 m.first
 most:Rd.B63 m.most
def RdM (B b:Nat) (W:World) (m:ModV) (st ln:Nat):Prop:= ∃col v1 v2 v3 v6 v7 v8,RdC B b W col v1 v2 v3 v6 v7 v8 m st ln
structure WordsAt (W:World) (A:Nat) (ws:List ByteArray):Prop where
 lt:A<W.heap.size
 at_: ∀(j:Nat) x,ws[j]?=some x→W.cell? ⟨A,j,none⟩=some (.string x)
 tot:wsum ws≤1048577
theorem WordsAt.sz {W:World} {A:Nat} {ws:List ByteArray} (h:WordsAt W A ws): ∀x∈ws,x.size≤1048576:=fun x hx=>by have:=wsum_mem hx;have:=h.tot;omega
theorem WordsAt.keep {W W':World} {A:Nat} {ws:List ByteArray} {K:Nat→Prop} (h:WordsAt W A ws) (hK:Keep K W W') (hA:K A):WordsAt W' A ws:=
 ⟨Nat.lt_of_lt_of_le h.lt hK.size,fun j x hx=>by
  have:=hK.block A h.lt hA
  have h2:=h.at_ j x hx
  unfold World.cell? at h2⊢
  rw [this]
  exact h2,h.tot⟩
theorem WordsAt.below {W W':World} {A:Nat} {ws:List ByteArray} (h:WordsAt W A ws) (hb:Below W.heap.size W W'):WordsAt W' A ws:=h.keep (K:=fun _=>True) (Keep.of_all hb |>.mono fun _ _=>trivial) trivial
section
variable {B b:Nat} {W W':World} {col:Nat→Nat} {v1 v2 v3 v6 v7 v8:Value} {m:ModV} {st ln:Nat}
theorem RdC.below (h:RdC B b W col v1 v2 v3 v6 v7 v8 m st ln) (hb:Below W.heap.size W W'):RdC B b W' (colU W col 0) v1 v2 v3 v6 v7 v8 m st ln:=
 ⟨h.blk.below hb h.blk.lt,h.six.keep (K:=fun _=>True) (Keep.of_all hb |>.mono fun _ _=>trivial) (fun _ _ _ _=>trivial) _ (fun k hk _=>colU_old hk rfl),h.low,Nat.le_trans h.top hb.size,h.first,h.most⟩
theorem RdM.below (h:RdM B b W m st ln) (hb:Below W.heap.size W W'):RdM B b W' m st ln:=by
 obtain⟨col,v1,v2,v3,v6,v7,v8,h⟩:=h
 exact⟨_,v1,v2,v3,v6,v7,v8,h.below hb⟩
theorem own_ge {e:TypeId} {α:Type} {r:Rd α} {S:Nat→Prop} {v:Value} {xs:List α} (h:Prt r e B S W v xs): ∀g,v.ownBlock=some g→B≤g∧g<W.heap.size∧S g:=by
 obtain⟨A,c,cells,rfl,h⟩:=h
 exact fun g hg=>⟨(h.lt g hg).1,(h.lt g hg).2,h.at_ g hg⟩
end
structure FnO (B lo:Nat) (col:Nat→Nat) (W:World) (A:Option Addr) (c:Nat) (cells:List Value) (vc:Value) (fs:List FnV) (f:FnV):Prop where
 own:W.ownsRow B 56 3 (.slice A (fs.length+1) c) (fs.length+1) (cells++ [.int .i64 f.t,.string f.loc,vc])
 at_: ∀g,(Value.slice A (fs.length+1) c).ownBlock=some g→col g=6∧g<lo
 els: ∀(k:Nat) x,fs[k]?=some x→ ∃l h,B≤l∧h≤lo∧(∀g,(Value.slice A (fs.length+1) c).ownBlock=some g→g<l∨h≤g)∧(∀g,l≤g→g<h→col g=6)∧rFn.R W l h ((cells.drop (k*3)).take 3) x
 t:Rd.B63 f.t
 loc:Rd.SOk f.loc
 code:Prt rIns 53 lo (fun _=>True) W vc f.code
 lo_:B≤lo
 hi_:lo≤W.heap.size
 new: ∀k,lo≤k→k<W.heap.size→col k=9
structure Five (B:Nat) (col:Nat→Nat) (W:World) (v1 v2 v3 v7 v8:Value) (m:ModV):Prop where
 p1:Prt rSig 51 B (fun k=>col k=1) W v1 m.types
 p2:Prt Rd.i64 3 B (fun k=>col k=2) W v2 m.hosts
 p3:Prt rGlob 82 B (fun k=>col k=3) W v3 m.globs
 p7:Prt rDat 59 B (fun k=>col k=7) W v7 m.dat
 p8:Prt rExp 61 B (fun k=>col k=8) W v8 m.exps
theorem Five.keep {B:Nat} {col:Nat→Nat} {W W':World} {v1 v2 v3 v7 v8:Value} {m m':ModV} {K:Nat→Prop} (h:Five B col W v1 v2 v3 v7 v8 m) (hK:Keep K W W') (hk: ∀k,B≤k→k<W.heap.size→(col k=1∨col k=2∨col k=3∨col k=7∨col k=8)→K k) (col':Nat→Nat)
 (hc: ∀k,k<W.heap.size→(col k=1∨col k=2∨col k=3∨col k=7∨col k=8)→col' k=col k)
 (h1:m'.types=m.types) (h2:m'.hosts=m.hosts) (h3:m'.globs=m.globs) (h7:m'.dat=m.dat) (h8:m'.exps=m.exps):Five B col' W' v1 v2 v3 v7 v8 m':=by
 have hx: ∀ {i k:Nat},(i=1∨i=2∨i=3∨i=7∨i=8)→col k=i→(col k=1∨col k=2∨col k=3∨col k=7∨col k=8):=fun hi e=>by rw [e];exact hi
 refine⟨?_,?_,?_,?_,?_⟩
 ·rw [h1];exact h.p1.keep hK (fun k hB hlt e=>hk k hB hlt (hx (by omega) e)) (fun k hlt e=>by rw [hc k hlt (hx (by omega) e)];exact e)
 ·rw [h2];exact h.p2.keep hK (fun k hB hlt e=>hk k hB hlt (hx (by omega) e)) (fun k hlt e=>by rw [hc k hlt (hx (by omega) e)];exact e)
 ·rw [h3];exact h.p3.keep hK (fun k hB hlt e=>hk k hB hlt (hx (by omega) e)) (fun k hlt e=>by rw [hc k hlt (hx (by omega) e)];exact e)
 ·rw [h7];exact h.p7.keep hK (fun k hB hlt e=>hk k hB hlt (hx (by omega) e)) (fun k hlt e=>by rw [hc k hlt (hx (by omega) e)];exact e)
 ·rw [h8];exact h.p8.keep hK (fun k hB hlt e=>hk k hB hlt (hx (by omega) e)) (fun k hlt e=>by rw [hc k hlt (hx (by omega) e)];exact e)
structure RdO (B b:Nat) (W:World) (m:ModV) (ln:Nat) (fs:List FnV) (f:FnV) (lo:Nat) (col:Nat→Nat) (v1 v2 v3 v7 v8:Value) (A:Option Addr) (c:Nat) (cells:List Value) (vc:Value):Prop where
 blk:Blk W b 104 [v1,v2,v3,.int .i64 m.first,.int .i64 m.most,.slice A (fs.length+1) c,v7,v8,.int .i64 6,.int .i64 ln]
 five:Five B col W v1 v2 v3 v7 v8 m
 fn:FnO B lo col W A c cells vc fs f
 fns:m.fns=fs++ [f]
 low:b<B
 top:B≤W.heap.size
 first:Rd.B63 m.first
 most:Rd.B63 m.most
def RdOpen (B b:Nat) (W:World) (m:ModV) (ln:Nat):Prop:= ∃fs f lo col v1 v2 v3 v7 v8 A c cells vc,RdO B b W m ln fs f lo col v1 v2 v3 v7 v8 A c cells vc
theorem RdO.close {B b:Nat} {W:World} {m:ModV} {ln:Nat} {fs:List FnV} {f:FnV} {lo:Nat} {col:Nat→Nat} {v1 v2 v3 v7 v8:Value} {A:Option Addr} {c:Nat} {cells:List Value} {vc:Value} (h:RdO B b W m ln fs f lo col v1 v2 v3 v7 v8 A c cells vc):
 RdC B b W (fun k=>if lo≤k then 6 else col k) v1 v2 v3 (.slice A (fs.length+1) c) v7 v8 m 6 ln:=by
 have hF:=h.fn
 have hlow: ∀k,k<W.heap.size→(col k=1∨col k=2∨col k=3∨col k=7∨col k=8)→ ¬lo≤k:=fun k hk hc hl=>by
  have:=hF.new k hl hk
  omega
 have h5:=h.five.keep (m':=m) (K:=fun _=>True) (Keep.refl _ W) (fun _ _ _ _=>trivial) (fun k=>if lo≤k then 6 else col k) (fun k hk hc=>if_neg (hlow k hk hc)) rfl rfl rfl rfl rfl
 refine⟨h.blk,⟨h5.p1,h5.p2,h5.p3,⟨A,c,cells++ [.int .i64 f.t,.string f.loc,vc],?_,?_⟩,h5.p7,h5.p8⟩,h.low,h.top,h.first,h.most⟩
 ·rw [h.fns,List.length_append];rfl
 have hlen:m.fns.length=fs.length+1:=by rw [h.fns,List.length_append];rfl
 have hcl:cells.length=fs.length*3:=by
  have:=hF.own.1
  rw [List.length_append] at this
  simp at this
  omega
 refine⟨by rw [hlen];exact hF.own,rfl,fun g hg=> ?_,fun k x hk=> ?_⟩
 ·rw [hlen] at hg
  have:=hF.at_ g hg
  show(if lo≤g then 6 else col g)=6
  rw [if_neg (by omega)]
  exact this.1
 ·rw [h.fns,List.getElem?_append] at hk
  rw [hlen]
  split at hk
  ·rename_i hlt
   obtain⟨l,hh,g1,g2,g3,g4,g5⟩:=hF.els k x hk
   refine⟨l,hh,g1,Nat.le_trans g2 hF.hi_,g3,fun g ha hb=> ?_,?_⟩
   ·show(if lo≤g then 6 else col g)=6
    rw [if_neg (by omega)]
    exact g4 g ha hb
   ·show rFn.R W l hh (((cells++_).drop (k*3)).take 3) x
    rw [List.drop_append_of_le_length (by omega),List.take_append_of_le_length (by rw [List.length_drop];omega)]
    exact g5
  ·rename_i hge
   have hk0:k=fs.length:=by
    have:=(List.getElem?_eq_some_iff.1 hk).1
    simp at this;omega
   subst hk0
   rw [Nat.sub_self] at hk
   simp at hk
   subst hk
   refine⟨lo,W.heap.size,hF.lo_,Nat.le_refl _,fun g hg=> .inl (hF.at_ g hg).2,fun g ha hb=>if_pos ha,?_⟩
   show rFn.R W lo W.heap.size (((cells++_).drop (fs.length*3)).take 3) f
   rw [←hcl,List.drop_left' rfl]
   exact rFn_iff.2 ⟨vc,rfl,hF.t,hF.loc,hF.code.reads⟩
theorem RdOpen.close {B b:Nat} {W:World} {m:ModV} {ln:Nat} (h:RdOpen B b W m ln):RdM B b W m 6 ln:=by
 obtain⟨fs,f,lo,col,v1,v2,v3,v7,v8,A,c,cells,vc,h⟩:=h
 exact⟨_,v1,v2,v3,_,v7,v8,h.close⟩
def RdIn (B b:Nat) (W:World) (r:RdV) (ln:Nat):Prop:=(r.st≠6∧RdM B b W r.m r.st ln)∨(r.st=6∧RdOpen B b W r.m ln)
theorem RdIn.close {B b:Nat} {W:World} {r:RdV} {ln:Nat} (h:RdIn B b W r ln):RdM B b W r.m r.st ln:=by
 rcases h with⟨_,h⟩ | ⟨h0,h⟩
 ·exact h
 ·rw [h0];exact h.close
theorem RdC.reads {B b:Nat} {W:World} {col:Nat→Nat} {v1 v2 v3 v6 v7 v8:Value} {m:ModV} {st ln:Nat} (h:RdC B b W col v1 v2 v3 v6 v7 v8 m st ln):rMod.R W B W.heap.size [v1,v2,v3,.int .i64 m.first,.int .i64 m.most,v6,v7,v8] m:=
 rMod_iff.2 ⟨v1,v2,v3,v6,v7,v8,rfl,h.six.p1.reads,h.six.p2.reads,h.six.p3.reads,h.first,h.most,h.six.p6.reads,h.six.p7.reads,h.six.p8.reads⟩
theorem hexR_app: ∀(p q u:List UInt8),hexR p=some u→hexR (p++q)=(hexR q).map (u++ ·)
 | [],q,u,h=>by
  have h:some ([]:List UInt8)=some u:=h
  injection h with h
  subst h
  show hexR q=(hexR q).map ([]++ ·)
  cases hq:hexR q<;>rfl
 | [a],q,u,h=>by cases h
 | a::b::p,q,u,h=>by
  have h:(match hexV a,hexV b with
   | some x,some y=>(hexR p).map (UInt8.ofNat (16*x+y):: ·)
   | _,_=>none)=some u:=h
  show(match hexV a,hexV b with
   | some x,some y=>(hexR (p++q)).map (UInt8.ofNat (16*x+y):: ·)
   | _,_=>none)=_
  cases ha:hexV a with
  | none=>rw [ha] at h;cases h
  | some x=>
   cases hb:hexV b with
   | none=>rw [ha,hb] at h;cases h
   | some y=>
    rw [ha,hb] at h
    simp only at h⊢
    cases hp:hexR p with
    | none=>rw [hp] at h;cases h
    | some v=>
     rw [hp] at h
     have h:some (UInt8.ofNat (16*x+y)::v)=some u:=h
     injection h with h
     subst h
     rw [hexR_app p q v hp]
     cases hexR q<;>rfl
theorem hexR_two (a b:UInt8) (t:List UInt8):hexR (a::b::t)=match hexV a,hexV b with
 | some x,some y=>(hexR t).map (UInt8.ofNat (16*x+y):: ·)
 | _,_=>none:=rfl
theorem hex_next {l:List UInt8} {k:Nat} {bs:List UInt8} (h:hexR (l.take (2*k))=some bs) {a b:UInt8} (ha:l[2*k]?=some a) (hb:l[2*k+1]?=some b):
 (∀x y,hexV a=some x→hexV b=some y→hexR (l.take (2*(k+1)))=some (bs++ [UInt8.ofNat (16*x+y)]))∧((hexV a=none∨hexV b=none)→hexR l=none):=by
 have hla:=(List.getElem?_eq_some_iff.1 ha)
 have hlb:=(List.getElem?_eq_some_iff.1 hb)
 obtain⟨ha1,ha2⟩:=hla
 obtain⟨hb1,hb2⟩:=hlb
 have hd:l.drop (2*k)=a::b::l.drop (2*k+2):=by
  rw [List.drop_eq_getElem_cons ha1,ha2,List.drop_eq_getElem_cons hb1,hb2]
 constructor
 ·intro x y hx hy
  have:l.take (2*(k+1))=l.take (2*k)++ [a,b]:=by
   rw [show 2*(k+1)=2*k+2 by omega,List.take_add,hd]
   rfl
  rw [this,hexR_app _ _ _ h,hexR_two,hx,hy]
  rfl
 ·intro hn
  have h2:=hexR_app (l.take (2*k)) (l.drop (2*k)) bs h
  rw [List.take_append_drop] at h2
  rw [h2,hd,hexR_two]
  rcases hn with e | e
  ·rw [e];rfl
  ·rw [e];cases hexV a<;>rfl
theorem hexR_odd: ∀l:List UInt8,l.length%2=1→hexR l=none
 | [],h=>by cases h
 | [a],_=>rfl
 | a::b::t,h=>by
  have:=hexR_odd t (by simp at h;omega)
  rw [hexR_two,this]
  cases hexV a<;>cases hexV b<;>rfl
def digB:ByteArray:=⟨#[48,49,50,51,52,53,54,55,56,57,97,98,99,100,101,102]⟩
theorem idx_hex (c:UInt8):Lib.indexByte digB.data.toList c=match hexV c with
 | some v=>(v:Int)
 | none=> -1:=by
 have h: ∀k:Fin 256,Lib.indexByte digB.data.toList (UInt8.ofNat k.1)=match hexV (UInt8.ofNat k.1)with
  | some v=>(v:Int)
  | none=> -1:=by decide+kernel
 have:=h ⟨c.toNat,c.toNat_lt⟩
 simpa using this
theorem hexV_lt {c:UInt8} {v:Nat} (h:hexV c=some v):v<16:=by
 unfold hexV at h
 split at h
 ·injection h with h;omega
 ·split at h
  ·injection h with h;omega
  ·cases h
def stepL (r:RdV) (s:ByteArray):Option RdV:=if skipW (wdsV s)=true then some r else lineV r (wdsV s)
theorem goL_next {ls:List ByteArray} {k:Nat} {s:ByteArray} {r r':RdV} (hs:ls[k]?=some s) (h:stepL r s=some r'):goL (ls.drop k) r k=goL (ls.drop (k+1)) r' (k+1):=by
 have hl:=(List.getElem?_eq_some_iff.1 hs)
 rw [List.drop_eq_getElem_cons hl.1,hl.2]
 unfold stepL at h
 show(if skipW (wdsV s)=true then goL _ r (k+1) else _)=_
 split
 ·rename_i hk
  rw [if_pos hk] at h
  injection h with h
  rw [h]
 ·rename_i hk
  rw [if_neg hk] at h
  rw [h]
theorem goL_hit {ls:List ByteArray} {k:Nat} {s:ByteArray} {r:RdV} (hs:ls[k]?=some s) (h:stepL r s=none):goL (ls.drop k) r k= .inr (k+1):=by
 have hl:=(List.getElem?_eq_some_iff.1 hs)
 rw [List.drop_eq_getElem_cons hl.1,hl.2]
 unfold stepL at h
 show(if skipW (wdsV s)=true then goL _ r (k+1) else _)=_
 split
 ·rename_i hk
  rw [if_pos hk] at h
  cases h
 ·rename_i hk
  rw [if_neg hk] at h
  rw [h]
theorem goL_end {ls:List ByteArray} {k:Nat} {r:RdV} (h:ls.length≤k):goL (ls.drop k) r k= .inl r:=by
 rw [List.drop_eq_nil_of_le h]
 rfl
theorem sum_app {α:Type} (f:α→Nat) (l:List α) (x:α):sumBy f (l++ [x])=sumBy f l+f x:=by simp [sumBy]
theorem mapM_len: ∀ {ws:List ByteArray} {l:List Int},ws.mapM numW=some l→l.length=ws.length
 | [],l,h=>by
  rw [List.mapM_nil] at h
  injection h with h
  subst h
  rfl
 | w::ws,l,h=>by
  rw [List.mapM_cons] at h
  cases h1:numW w with
  | none=>rw [h1] at h;cases h
  | some n=>
   cases h2:ws.mapM numW with
   | none=>rw [h1,h2] at h;cases h
   | some t=>
    rw [h1,h2] at h
    injection h with h
    rw [←h,List.length_cons,List.length_cons,mapM_len h2]
theorem hexR_le: ∀ {l u:List UInt8},hexR l=some u→u.length≤l.length
 | [],u,h=>by
  injection h with h
  rw [←h]
  exact Nat.le_refl _
 | [_],u,h=>by cases h
 | a::b::t,u,h=>by
  rw [hexR_two] at h
  split at h
  ·cases ht:hexR t with
   | none=>rw [ht] at h;cases h
   | some v=>
    rw [ht] at h
    injection h with h
    have:=hexR_le ht
    rw [←h]
    simp only [List.length_cons]
    omega
  ·cases h
theorem readS_size (s:ByteArray):(readS s).1.size+(readS s).2.1.size≤2*s.size:=by
 unfold readS
 have h1:=cut_size s
 have h2:=meant_size (cutA s)
 have h3:=meant_size (cutB s)
 split
 ·show(meantS (cutA s)).1.size+(meantS (cutB s)).1.size≤_
  omega
 ·exact Nat.zero_le _
theorem locR_size (l:ByteArray):(locR l).size≤l.size:=by
 unfold locR
 split
 ·exact Nat.zero_le _
 ·exact Nat.le_refl _
theorem joinW_size (ws:List ByteArray):(joinW ws).size≤wsum ws:=by
 have:=joinW_le ws
 unfold joinW
 show(List.toArray _).size≤_
 simpa using this
theorem readK_fits {p:Nat} {m m':ModV} {ws:List ByteArray} (h:readK p m ws=some m'):szMod m'≤szMod m+2*wsum ws+4∧ ∀q,Lens m q→Lens m' (q+1):=by
 unfold readK at h
 split at h
 ·injection h with h
  subst h
  exact⟨by omega,fun q hl=>hl.mono (by omega)⟩
 ·split at h
  ·injection h with h
   subst h
   have h1:=readS_size (joinW ws)
   have h2:=joinW_size ws
   refine⟨?_,fun q hl=> ?_⟩
   ·unfold szMod
    simp only [List.length_append,List.length_singleton,sum_app]
    omega
   ·have h3:=hl.types
    have h4:=hl.mono (Nat.le_succ q)
    exact⟨by simp only [List.length_append,List.length_singleton];omega,h4.hosts,h4.globs,h4.fns,h4.dat,h4.exps,h4.code⟩
  ·cases h
 ·rename_i a
  obtain⟨n,_,rfl⟩:=Option.map_eq_some_iff.1 h
  refine⟨?_,fun q hl=> ?_⟩
  ·unfold szMod
   simp only [List.length_append,List.length_singleton]
   omega
  ·have h3:=hl.hosts
   have h4:=hl.mono (Nat.le_succ q)
   exact⟨h4.types,by simp only [List.length_append,List.length_singleton];omega,h4.globs,h4.fns,h4.dat,h4.exps,h4.code⟩
 ·obtain⟨n,_,h⟩:=Option.bind_eq_some_iff.1 h
  obtain⟨g,_,rfl⟩:=Option.map_eq_some_iff.1 h
  refine⟨?_,fun q hl=> ?_⟩
  ·unfold szMod
   simp only [List.length_append,List.length_singleton]
   omega
  ·have h3:=hl.globs
   have h4:=hl.mono (Nat.le_succ q)
   exact⟨h4.types,h4.hosts,by simp only [List.length_append,List.length_singleton];omega,h4.fns,h4.dat,h4.exps,h4.code⟩
 ·obtain⟨n,_,h⟩:=Option.bind_eq_some_iff.1 h
  obtain⟨g,_,rfl⟩:=Option.map_eq_some_iff.1 h
  refine⟨?_,fun q hl=> ?_⟩
  ·show szMod m≤_
   omega
  ·have h4:=hl.mono (Nat.le_succ q)
   exact⟨h4.types,h4.hosts,h4.globs,h4.fns,h4.dat,h4.exps,h4.code⟩
 ·rename_i a l
  obtain⟨n,_,rfl⟩:=Option.map_eq_some_iff.1 h
  have h1:=locR_size l
  have h2:l.size+1≤wsum [a,l]:=wsum_mem (by simp)
  refine⟨?_,fun q hl=> ?_⟩
  ·unfold szMod
   simp only [List.length_append,List.length_singleton,sum_app]
   have h5:szFn ⟨n,locR l,[]⟩=(locR l).size:=rfl
   rw [h5]
   omega
  ·have h3:=hl.fns
   have h4:=hl.mono (Nat.le_succ q)
   refine⟨h4.types,h4.hosts,h4.globs,by simp only [List.length_append,List.length_singleton];omega,h4.dat,h4.exps,fun f hf=> ?_⟩
   rcases List.mem_append.1 hf with hf | hf
   ·exact h4.code f hf
   ·rw [List.mem_singleton.1 hf];exact Nat.zero_le _
 ·rename_i a x
  obtain⟨n,_,h⟩:=Option.bind_eq_some_iff.1 h
  obtain⟨u,hu,rfl⟩:=Option.map_eq_some_iff.1 h
  have h1:=hexR_le hu
  have h2:x.size+1≤wsum [a,x]:=wsum_mem (by simp)
  have h6:x.data.toList.length=x.size:=by simp
  refine⟨?_,fun q hl=> ?_⟩
  ·unfold szMod
   simp only [List.length_append,List.length_singleton,sum_app]
   omega
  ·have h3:=hl.dat
   have h4:=hl.mono (Nat.le_succ q)
   exact⟨h4.types,h4.hosts,h4.globs,h4.fns,by simp only [List.length_append,List.length_singleton];omega,h4.exps,h4.code⟩
 ·rename_i x f
  obtain⟨n,_,rfl⟩:=Option.map_eq_some_iff.1 h
  have h2:x.size+1≤wsum [x,f]:=wsum_mem (by simp)
  refine⟨?_,fun q hl=> ?_⟩
  ·unfold szMod
   simp only [List.length_append,List.length_singleton,sum_app]
   omega
  ·have h3:=hl.exps
   have h4:=hl.mono (Nat.le_succ q)
   exact⟨h4.types,h4.hosts,h4.globs,h4.fns,h4.dat,by simp only [List.length_append,List.length_singleton];omega,h4.code⟩
 ·cases h
theorem insR_fits {o:OpV} {ws:List ByteArray} {x:InsV} (h:insR o ws=some x):x.l.length≤wsum ws:=by
 have hw:=wsum_len ws
 unfold insR at h
 split at h
 ·split at h
  ·injection h with h
   subst h
   exact Nat.zero_le _
  ·cases h
 ·split at h
  ·obtain⟨l,hl,rfl⟩:=Option.map_eq_some_iff.1 h
   rw [←mapM_len hl] at hw
   exact hw
  ·split at h
   ·obtain⟨n,_,rfl⟩:=Option.map_eq_some_iff.1 h
    exact Nat.zero_le _
   ·cases h
theorem put_fits (m:ModV) (x:InsV):szMod {m with fns:=putIns m.fns x}≤szMod m+1+x.l.length∧ ∀q,Lens m q→Lens {m with fns:=putIns m.fns x} (q+1):=by
 unfold putIns
 cases hf:m.fns.getLast? with
 | none=>exact⟨by unfold szMod;simp only;omega,fun q hl=>hl.mono (by omega)⟩
 | some f=>
  have hs:m.fns=m.fns.dropLast++ [f]:=by
   obtain⟨ys,e⟩:=List.getLast?_eq_some_iff.1 hf
   rw [e,List.dropLast_concat]
  have hL:m.fns.length=m.fns.dropLast.length+1:=by rw [hs];simp
  have hS:sumBy szFn m.fns=sumBy szFn m.fns.dropLast+szFn f:=by conv=>lhs;rw [hs,sum_app]
  have hx:szFn {f with code:=f.code++ [x]}=szFn f+1+x.l.length:=by
   unfold szFn szCode
   simp only [List.length_append,List.length_singleton,sum_app]
   omega
  refine⟨?_,fun q hl=> ?_⟩
  ·unfold szMod
   simp only [List.length_append,List.length_singleton,sum_app]
   rw [hx]
   omega
  ·have h3:=hl.fns
   have h4:=hl.mono (Nat.le_succ q)
   refine⟨h4.types,h4.hosts,h4.globs,by simp only [List.length_append,List.length_singleton];omega,h4.dat,h4.exps,fun g hg=> ?_⟩
   rcases List.mem_append.1 hg with hg | hg
   ·exact h4.code g (by rw [hs];exact List.mem_append_left _ hg)
   ·rw [List.mem_singleton.1 hg]
    have:=hl.code f (by rw [hs];simp)
    simp only [List.length_append,List.length_singleton]
    omega
theorem step_fits {r r':RdV} {s:ByteArray} (h:stepL r s=some r'):szMod r'.m≤szMod r.m+8*(s.size+1)∧ ∀q,Lens r.m q→Lens r'.m (q+1):=by
 have hid:szMod r.m≤szMod r.m+8*(s.size+1)∧ ∀q,Lens r.m q→Lens r.m (q+1):=⟨by omega,fun q hl=>hl.mono (by omega)⟩
 have hwd:=(wds_facts s).1
 unfold stepL at h
 split at h
 ·injection h with h
  subst h
  exact hid
 ·unfold lineV at h
  split at h
  ·injection h with h
   subst h
   exact hid
  ·rename_i w ws hw
   rw [hw] at hwd
   have hws:w.size+1+wsum ws≤s.size+1:=hwd
   split at h
   ·split at h
    ·obtain⟨o,_,h⟩:=Option.bind_eq_some_iff.1 h
     obtain⟨x,hx,rfl⟩:=Option.map_eq_some_iff.1 h
     have h1:=insR_fits hx
     have h2:=put_fits r.m x
     exact⟨Nat.le_trans h2.1 (by omega),h2.2⟩
    ·cases h
   ·split at h
    ·obtain⟨m',hm,rfl⟩:=Option.map_eq_some_iff.1 h
     have h1:=readK_fits hm
     exact⟨Nat.le_trans h1.1 (by omega),h1.2⟩
    ·cases h
def upto (ls:List ByteArray) (k:Nat):Nat:=wsum (ls.take k)
theorem wsum_app: ∀a b:List ByteArray,wsum (a++b)=wsum a+wsum b
 | [],b=>by show _=0+_;rw [Nat.zero_add];rfl
 | x::a,b=>by
  have:=wsum_app a b
  show x.size+1+wsum (a++b)=x.size+1+wsum a+wsum b
  omega
theorem upto_succ {ls:List ByteArray} {k:Nat} {s:ByteArray} (h:ls[k]?=some s):upto ls (k+1)=upto ls k+(s.size+1):=by
 unfold upto
 rw [List.take_add_one,h,wsum_app]
 rfl
theorem upto_le (ls:List ByteArray) (k:Nat):upto ls k≤wsum ls:=by
 have h:=wsum_app (ls.take k) (ls.drop k)
 rw [List.take_append_drop] at h
 unfold upto
 omega
structure Upto (ls:List ByteArray) (k:Nat) (r:RdV):Prop where
 here:goL ls rd0 0=goL (ls.drop k) r k
 sz:szMod r.m≤8*upto ls k
 lens:Lens r.m k
theorem Upto.start (ls:List ByteArray):Upto ls 0 rd0:=⟨rfl,Nat.zero_le _,⟨Nat.le_refl _,Nat.le_refl _,Nat.le_refl _,Nat.le_refl _,Nat.le_refl _,Nat.le_refl _,fun f hf=>by cases hf⟩⟩
theorem Upto.next {ls:List ByteArray} {k:Nat} {r r':RdV} {s:ByteArray} (h:Upto ls k r) (hs:ls[k]?=some s) (hr:stepL r s=some r'):Upto ls (k+1) r':=by
 have hf:=step_fits hr
 have hz:=h.sz
 refine⟨h.here.trans (goL_next hs hr),?_,hf.2 _ h.lens⟩
 rw [upto_succ hs]
 have:=hf.1
 omega
theorem split_sum: ∀(k:Nat) (s:ByteArray),wsum (Lib.splitB nlB 0 k s)≤s.size+1
 | 0,s=>Nat.le_refl _
 | k+1,s=>by
  rcases Lib.indexB_cases s nlB with hix | ⟨i,hix,hroom⟩
  ·rw [Lib.splitB_miss nlB 0 _ s hix]
   exact Nat.le_refl _
  ·have hsz:nlB.size=1:=rfl
   rw [Lib.splitB_hit nlB 0 k s i hix]
   have:=split_sum k (s.extract (i+nlB.size) s.size)
   show(s.extract 0 (i+0)).size+1+wsum _≤_
   rw [ByteArray.size_extract] at this⊢
   omega
theorem linesV_sum (s:ByteArray) (h:s.size≤1048576):wsum (linesV s)≤1048577:=by
 have:=split_sum (Lib.countB s nlB) s
 unfold linesV
 omega
theorem Upto.small {s:ByteArray} {k:Nat} {r:RdV} (h:Upto (linesV s) k r) (hs:s.size≤1048576):szMod r.m≤2147483647:=by
 have h1:=h.sz
 have h2:=upto_le (linesV s) k
 have h3:=linesV_sum s hs
 omega
theorem parse_hit {s x:ByteArray} {k:Nat} {r:RdV} (hs:s.size≤1048576) (h:Upto (linesV s) k r) (hx:(linesV s)[k]?=some x) (hr:stepL r x=none):parseV s=(mod0,22,k+1):=by
 unfold parseV
 rw [if_neg (by omega),h.here,goL_hit hx hr]
theorem parse_end {s:ByteArray} {k:Nat} {r:RdV} (hs:s.size≤1048576) (hk:(linesV s).length=k) (h:Upto (linesV s) k r):parseV s=if r.st<5 then(mod0,22,k) else if modE r.m=0 then(r.m,0,0) else(mod0,modE r.m,0):=by
 unfold parseV
 rw [if_neg (by omega),h.here,goL_end (by omega),hk]
theorem goL_small: ∀(ls:List ByteArray) (r r':RdV) (k:Nat),goL ls r k= .inl r'→szMod r'.m≤szMod r.m+8*wsum ls
 | [],r,r',k,h=>by
  injection h with h
  subst h
  exact Nat.le_add_right _ _
 | s::t,r,r',k,h=>by
  have h:(if skipW (wdsV s)=true then goL t r (k+1) else match lineV r (wdsV s)with | none=> .inr (k+1) | some q=>goL t q (k+1))= .inl r':=h
  have e:wsum (s::t)=s.size+1+wsum t:=rfl
  rw [e]
  by_cases hs:skipW (wdsV s)=true
  ·rw [if_pos hs] at h
   have:=goL_small t r r' _ h
   omega
  ·rw [if_neg hs] at h
   cases hl:lineV r (wdsV s)with
   | none=>rw [hl] at h;cases h
   | some q=>
    rw [hl] at h
    have h1:=goL_small t q r' _ h
    have h2:=(step_fits (r:=r) (r':=q) (s:=s) (by unfold stepL;rw [if_neg hs];exact hl)).1
    omega
theorem parse_small (s:ByteArray):szMod (parseV s).1≤2147483647:=by
 unfold parseV
 split
 ·exact(by decide:szMod mod0≤2147483647)
 ·rename_i hs
  split
  ·exact(by decide:szMod mod0≤2147483647)
  ·rename_i r hr
   have h1:=goL_small _ _ _ _ hr
   have h2:=linesV_sum s (by omega)
   have h3:szMod rd0.m=0:=rfl
   split
   ·exact(by decide:szMod mod0≤2147483647)
   ·split
    ·show szMod r.m≤_;omega
    ·exact(by decide:szMod mod0≤2147483647)
def isB (c:UInt8):Bool:=blankR c.toNat
def wdsG:List UInt8→List UInt8→List (List UInt8)
 | cur,[]=>if cur= [] then [] else [cur]
 | cur,b::t=>if isB b=true then(if cur= [] then [] else [cur])++wdsG [] t else wdsG (cur++ [b]) t
theorem dec_ascii {s:ByteArray} (ha: ∀c∈s.data.toList,c.toNat<128) {pos:Nat} (h:pos<s.size):
 ∃b t,s.data.toList.drop pos=b::t∧Utf8.decode s pos=(b.toNat,1):=by
 have hl:pos<s.data.toList.length:=by rw [←Lib.size_eq];exact h
 refine⟨s.data.toList[pos],s.data.toList.drop (pos+1),List.drop_eq_getElem_cons hl,?_⟩
 rw [←Lib.decodeL_drop,List.drop_eq_getElem_cons hl]
 exact Lib.decodeL_ascii _ _ (ha _ (List.getElem_mem hl))
theorem spans_ascii (s:ByteArray) (ha: ∀c∈s.data.toList,c.toNat<128): ∀(f pos:Nat) (st:Option Nat) (acc:List (Nat×Nat)),s.size≤pos+f→pos≤s.size→(∀a,st=some a→a<pos)→
 acc.map (fun p=>Lib.pieceU s.data.toList p.1 p.2)++wdsG (Lib.openPiece s.data.toList st pos) (s.data.toList.drop pos)=(Lib.closeSpans s (Lib.spansFromP blankR s f pos st acc)).map (fun p=>Lib.pieceU s.data.toList p.1 p.2)
 | 0,pos,st,acc,h,hp,hst=>by
  obtain rfl:pos=s.size:=by omega
  have hd:s.data.toList.drop s.size= []:=List.drop_eq_nil_of_le (by rw [←Lib.size_eq];exact Nat.le_refl _)
  rw [hd]
  cases st with
  | none=>simp [wdsG,Lib.spansFromP,Lib.closeSpans,Lib.openPiece]
  | some a=>
   have:=Lib.pieceU_ne s.data.toList a s.size (hst a rfl) (by rw [←Lib.size_eq];exact Nat.le_refl _)
   simp [wdsG,Lib.spansFromP,Lib.closeSpans,Lib.openPiece,this]
 | f+1,pos,st,acc,h,hp,hst=>by
  by_cases hlt:pos<s.size
  ·obtain⟨b,t,hbt,hdec⟩:=dec_ascii ha hlt
   have ht:t=s.data.toList.drop (pos+1):=by rw [←List.drop_drop,hbt];rfl
   simp only [Lib.spansFromP,if_pos hlt,hdec]
   rw [hbt]
   show _++(if isB b=true then _ else _)=_
   cases hsp:blankR b.toNat with
   | true=>
    rw [if_pos (show isB b=true from hsp)]
    simp only [if_true]
    cases st with
    | none=>
     have ih:=spans_ascii s ha f (pos+1) none acc (by omega) (by omega) (fun a h=>by cases h)
     simpa [Lib.openPiece,ht] using ih
    | some a=>
     have hpn:=Lib.pieceU_ne s.data.toList a pos (hst a rfl) (by rw [←Lib.size_eq];omega)
     have ih:=spans_ascii s ha f (pos+1) none (acc++ [(a,pos)]) (by omega) (by omega) (fun a h=>by cases h)
     simpa [Lib.openPiece,hpn,ht] using ih
   | false=>
    rw [if_neg (show ¬isB b=true by unfold isB;rw [hsp];exact Bool.false_ne_true)]
    simp only [Bool.false_eq_true,if_false]
    have hone: [b]=(s.data.toList.drop pos).take 1:=by rw [hbt];rfl
    cases st with
    | none=>
     have ih:=spans_ascii s ha f (pos+1) (some pos) acc (by omega) (by omega) (fun a h=>by cases h;omega)
     have e:([]:List UInt8)++ [b]=Lib.pieceU s.data.toList pos (pos+1):=by
      unfold Lib.pieceU
      rw [List.nil_append,Nat.add_sub_cancel_left,hone]
     simp only [Lib.openPiece] at ih⊢
     rw [e,ht]
     exact ih
    | some a=>
     have ih:=spans_ascii s ha f (pos+1) (some a) acc (by omega) (by omega) (fun b h=>by cases h;have:=hst a rfl;omega)
     simp only [Lib.openPiece] at ih⊢
     rw [hone,Lib.pieceU_grow _ _ _ _ (Nat.le_of_lt (hst a rfl)),ht]
     exact ih
  ·obtain rfl:pos=s.size:=by omega
   have hd:s.data.toList.drop s.size= []:=List.drop_eq_nil_of_le (by rw [←Lib.size_eq];exact Nat.le_refl _)
   rw [hd,Lib.spansFromP_end blankR s _ _ _ _ hlt]
   cases st with
   | none=>simp [wdsG,Lib.closeSpans,Lib.openPiece]
   | some a=>
    have:=Lib.pieceU_ne s.data.toList a s.size (hst a rfl) (by rw [←Lib.size_eq];exact Nat.le_refl _)
    simp [wdsG,Lib.closeSpans,Lib.openPiece,this]
theorem wdsV_ascii (s:ByteArray) (ha: ∀c∈s.data.toList,c.toNat<128):(wdsV s).map (·.data.toList)=wdsG [] s.data.toList:=by
 have h:=spans_ascii s ha s.size 0 none [] (by omega) (Nat.zero_le _) (fun a h=>by cases h)
 simp only [List.map_nil,List.nil_append,Lib.openPiece,List.drop_zero] at h
 unfold wdsV Lib.goFieldsP Lib.spansOfP
 rw [h,List.map_map]
 congr 1
 funext p
 simp [Lib.pieceU]
def bOf (l:List UInt8):ByteArray:=⟨l.toArray⟩
theorem bOf_data (l:List UInt8):(bOf l).data.toList=l:=by simp [bOf]
theorem bOf_of (s:ByteArray):bOf s.data.toList=s:=by cases s;simp [bOf]
theorem map_bOf {ws:List ByteArray} {l:List (List UInt8)} (h:ws.map (·.data.toList)=l):ws=l.map bOf:=by
 rw [←h,List.map_map]
 conv=>lhs;rw [←List.map_id ws]
 refine List.map_congr_left fun s _=> ?_
 exact(bOf_of s).symm
def WordT (w:List UInt8):Prop:=w≠ []∧ ∀c∈w,isB c=false
theorem wdsG_word: ∀(w cur t:List UInt8),(∀c∈w,isB c=false)→wdsG cur (w++t)=wdsG (cur++w) t
 | [],cur,t,_=>by rw [List.append_nil];rfl
 | c::w,cur,t,h=>by
  show(if isB c=true then _ else _)=_
  rw [if_neg (by rw [h c (List.mem_cons_self ..)];exact Bool.false_ne_true)]
  have ih:=wdsG_word w (cur++ [c]) t (fun d hd=>h d (List.mem_cons_of_mem _ hd))
  rw [List.append_assoc] at ih
  exact ih
theorem wdsG_blank: ∀(b t:List UInt8),(∀c∈b,isB c=true)→wdsG [] (b++t)=wdsG [] t
 | [],t,_=>rfl
 | c::b,t,h=>by
  show(if isB c=true then _ else _)=_
  rw [if_pos (h c (List.mem_cons_self ..))]
  exact wdsG_blank b t (fun d hd=>h d (List.mem_cons_of_mem _ hd))
inductive Spaced:List UInt8→List (List UInt8)→Prop
 | none {b:List UInt8}:(∀c∈b,isB c=true)→Spaced b []
 | one {b w e:List UInt8}:(∀c∈b,isB c=true)→WordT w→(∀c∈e,isB c=true)→Spaced (b++(w++e)) [w]
 | more {b w r:List UInt8} {c:UInt8} {l:List (List UInt8)}:(∀c∈b,isB c=true)→WordT w→isB c=true→Spaced r l→Spaced (b++(w++c::r)) (w::l)
theorem wdsG_open {w:List UInt8} (hw:WordT w) (c:UInt8) (r:List UInt8) (hc:isB c=true):wdsG [] (w++c::r)=w::wdsG [] r:=by
 rw [wdsG_word w [] _ hw.2,List.nil_append]
 show(if isB c=true then _ else _)=_
 rw [if_pos hc,if_neg hw.1]
 rfl
theorem wdsG_spaced {t:List UInt8} {l:List (List UInt8)} (h:Spaced t l):wdsG [] t=l:=by
 induction h with
 | none hb=>
  rename_i b
  have:=wdsG_blank b [] hb
  rw [List.append_nil] at this
  rw [this];rfl
 | one hb hw he=>
  rename_i b w e
  rw [wdsG_blank _ _ hb]
  cases e with
  | nil=>
   rw [wdsG_word w [] [] hw.2,List.nil_append]
   show(if w= [] then _ else _)=_
   rw [if_neg hw.1]
  | cons c e=>
   rw [wdsG_open hw c e (he c (List.mem_cons_self ..))]
   have:=wdsG_blank e [] (fun d hd=>he d (List.mem_cons_of_mem _ hd))
   rw [List.append_nil] at this
   rw [this];rfl
 | more hb hw hc _ ih=>rw [wdsG_blank _ _ hb,wdsG_open hw _ _ hc,ih]
theorem spaced_join: ∀ {l:List (List UInt8)},(∀w∈l,WordT w)→Spaced (Lib.join l [32]) l
 | [],_=>Spaced.none (fun c hc=>by cases hc)
 | [w],h=>by
  rw [Lib.join_one]
  have:=Spaced.one (b:= []) (e:= []) (w:=w) (fun c hc=>by cases hc) (h w (List.mem_cons_self ..)) (fun c hc=>by cases hc)
  rwa [List.nil_append,List.append_nil] at this
 | w::v::l,h=>by
  have ih:=spaced_join (l:=v::l) (fun x hx=>h x (List.mem_cons_of_mem _ hx))
  have:=Spaced.more (b:= []) (w:=w) (c:=32) (fun c hc=>by cases hc) (h w (List.mem_cons_self ..)) (by decide) ih
  rw [List.nil_append] at this
  have e:Lib.join (w::v::l) [32]=w++32::Lib.join (v::l) [32]:=by simp [Lib.join,List.intercalate]
  rw [e]
  exact this
theorem spaced_lead {b t:List UInt8} {l:List (List UInt8)} (hb: ∀c∈b,isB c=true) (h:Spaced t l):Spaced (b++t) l:=by
 have hap: ∀ {a:List UInt8},(∀c∈a,isB c=true)→ ∀c∈b++a,isB c=true:=fun ha c hc=>(List.mem_append.1 hc).elim (hb c) (ha c)
 cases h with
 | none h1=>exact Spaced.none (hap h1)
 | one h1 h2 h3=>rw [←List.append_assoc];exact Spaced.one (hap h1) h2 h3
 | more h1 h2 h3 h4=>rw [←List.append_assoc];exact Spaced.more (hap h1) h2 h3 h4
theorem spaced_trail {b t:List UInt8} {l:List (List UInt8)} (hb: ∀c∈b,isB c=true) (h:Spaced t l):Spaced (t++b) l:=by
 induction h with
 | none h1=>exact Spaced.none (fun c hc=>(List.mem_append.1 hc).elim (h1 c) (hb c))
 | one h1 h2 h3=>
  rw [List.append_assoc,List.append_assoc]
  exact Spaced.one h1 h2 (fun c hc=>(List.mem_append.1 hc).elim (h3 c) (hb c))
 | more h1 h2 h3 _ ih=>
  rw [List.append_assoc,List.append_assoc]
  exact Spaced.more h1 h2 h3 ih
theorem index_nl {l r:List UInt8} (h: ∀c∈l,c≠10):Lib.index (l++10::r) [10]=l.length:=by
 refine Lib.index_first (by rw [List.length_append];omega) ?_ ?_
 ·unfold Lib.occAt
  rw [List.drop_left' rfl]
  rfl
 ·intro j hj
  unfold Lib.occAt
  rw [List.drop_append_of_le_length (by omega),List.drop_eq_getElem_cons hj]
  show(10==l[j]&&_)=false
  have:(10==l[j])=false:=by simpa using fun e:(10:UInt8)=l[j]=>h _ (List.getElem_mem hj) e.symm
  rw [this,Bool.false_and]
theorem split_lines: ∀(ls:List (List UInt8)),(∀l∈ls,∀c∈l,c≠10)→
 Lib.count (ls.flatMap (· ++ [10])) [10]=ls.length∧Lib.splitK [10] 0 ls.length (ls.flatMap (· ++ [10]))=ls++ [[]]
 | [],_=>⟨Lib.count_miss (by decide),rfl⟩
 | l::ls,h=>by
  obtain⟨h1,h2⟩:=split_lines ls (fun x hx=>h x (List.mem_cons_of_mem _ hx))
  have hi:=index_nl (r:=ls.flatMap (· ++ [10])) (h l (List.mem_cons_self ..))
  have he:(l::ls).flatMap (· ++ [10])=l++10::ls.flatMap (· ++ [10]):=by simp
  have hd:(l++10::ls.flatMap (· ++ [10])).drop (l.length+ [(10:UInt8)].length)=ls.flatMap (· ++ [10]):=by
   rw [←List.drop_drop,List.drop_left' rfl];rfl
  rw [he]
  constructor
  ·rw [Lib.count_hit (by decide) hi,hd,h1,List.length_cons];omega
  ·show(if(Lib.index _ _== -1)=true then _ else _)=_
   rw [hi,if_neg (by simp<;>omega),Int.toNat_natCast,hd,h2,Nat.add_zero,List.take_left' rfl]
   rfl
theorem linesV_flat (ls:List (List UInt8)) (h: ∀l∈ls,∀c∈l,c≠10):linesV (bOf (ls.flatMap (· ++ [10])))=(ls++ [[]]).map bOf:=by
 obtain⟨h1,h2⟩:=split_lines ls h
 unfold linesV
 refine map_bOf ?_
 rw [Lib.splitB_data,bOf_data,←h2]
 have:Lib.countB (bOf (ls.flatMap (· ++ [10]))) nlB=ls.length:=by
  rw [←h1]
  show Lib.count _ _=_
  rw [bOf_data]
  rfl
 rw [this]
 rfl
theorem wds_line {l:List UInt8} {ws:List (List UInt8)} (ha: ∀c∈l,c.toNat<128) (h:Spaced l ws):wdsV (bOf l)=ws.map bOf:=by
 refine map_bOf ?_
 rw [wdsV_ascii _ (by rw [bOf_data];exact ha),bOf_data]
 exact wdsG_spaced h
end Go.Proofs.YtebgikflpgcnlaaGreatDoor
