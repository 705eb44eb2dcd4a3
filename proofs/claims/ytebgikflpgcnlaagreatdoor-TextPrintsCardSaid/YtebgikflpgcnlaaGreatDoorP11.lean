/- Part 11 of the proof: PrsW RdrA RdrB HexP ParP WireF WireH -/
import Derived.Lib.Bytealg
import Derived.Lib.SplitLaws
import Derived.Test.YtebgikflpgcnlaaGreatDoorP06
namespace Go.Proofs.YtebgikflpgcnlaaGreatDoor
set_option linter.unusedVariables false
set_option linter.unusedSimpArgs false
set_option maxRecDepth 100000
set_option maxHeartbeats 4000000
open Go.RowKit Tryz
def Io:List ByteArray→Nat
 | []=>0
 | x::t=>x.size+1+Io t
theorem PY: ∀ {l:List ByteArray} {x:ByteArray},x∈l→x.size+1≤Io l
 | y::l,x,h=>by
  rcases List.mem_cons.1 h with rfl | h
  ·show _≤_+Io l;omega
  ·have:=PY h;show _≤_+Io l;omega
theorem Qu: ∀l:List ByteArray,l.length≤Io l
 | []=>Nat.zero_le _
 | x::l=>by have:=Qu l;show _≤_+Io l;rw [List.length_cons];omega
theorem bf: ∀l:List ByteArray,(Lib.joinTail [32] (l.map (·.data.toList))).length=Io l
 | []=>rfl
 | x::l=>by
  have ih:=bf l
  unfold Lib.joinTail at ih⊢
  simp only [List.map_cons,List.flatten_cons,List.length_append] at ih⊢
  rw [ih]
  show 1+x.data.toList.length+Io l=x.size+1+Io l
  have:x.data.toList.length=x.size:=by simp
  omega
theorem XJ: ∀l:List ByteArray,(Lib.join (l.map (·.data.toList)) [32]).length≤Io l
 | []=>Nat.zero_le _
 | x::l=>by
  rw [List.map_cons,Lib.join_cons,List.length_append,bf]
  show x.data.toList.length+Io l≤x.size+1+Io l
  have:x.data.toList.length=x.size:=by simp
  omega
def jy:List (Nat×Nat)→Nat
 | []=>0
 | p::t=>(p.2-p.1)+1+jy t
theorem Zg: ∀a b:List (Nat×Nat),jy (a++b)=jy a+jy b
 | [],b=>by show _=0+_;rw [Nat.zero_add];rfl
 | p::a,b=>by
  have:=Zg a b
  show(p.2-p.1)+1+jy (a++b)=(p.2-p.1)+1+jy a+jy b
  omega
def ADv (s:ByteArray) (pos:Nat) (st:Option Nat) (acc:List (Nat×Nat)):Prop:=
 pos≤s.size∧(∀p∈acc,p.1<p.2∧p.2≤s.size)∧(match st with | some a=>a<pos∧jy acc≤a | none=>jy acc≤pos)
theorem sS {s:ByteArray} {pos:Nat} {st:Option Nat} {acc:List (Nat×Nat)} (h:ADv s pos st acc):jy (Lib.closeSpans s (acc,st))≤s.size+1∧ ∀p∈Lib.closeSpans s (acc,st),p.1<p.2∧p.2≤s.size:=by
 obtain⟨hp,ha,hs⟩:=h
 unfold Lib.closeSpans
 cases st with
 | none=>exact⟨by simp only at hs⊢;omega,ha⟩
 | some a=>
  simp only at hs⊢
  refine⟨?_,fun p hp'=> ?_⟩
  ·rw [Zg]
   show jy acc+((s.size-a)+1+0)≤_
   omega
  ·rcases List.mem_append.1 hp' with h | h
   ·exact ha p h
   ·rw [List.mem_singleton] at h
    subst h
    exact⟨by show a<s.size;omega,Nat.le_refl _⟩
theorem bg (s:ByteArray): ∀(f pos:Nat) (st:Option Nat) (acc:List (Nat×Nat)),ADv s pos st acc→
 jy (Lib.closeSpans s (Lib.spansFromP Km s f pos st acc))≤s.size+1∧ ∀p∈Lib.closeSpans s (Lib.spansFromP Km s f pos st acc),p.1<p.2∧p.2≤s.size
 | 0,pos,st,acc,h=>sS h
 | f+1,pos,st,acc,h=>by
  by_cases hlt:pos<s.size
  ·have hw:=Lib.width_pos s pos
   have hwn:pos+(Utf8.decode s pos).2≤s.size:=by
    have:=Lib.decodeN_le_n' (s.size-pos) (s.get! pos).toNat (s.get! (pos+1)).toNat (s.get! (pos+2)).toNat (s.get! (pos+3)).toNat (by omega)
    rw [←Lib.decode_at] at this
    omega
   obtain⟨hp,ha,hs⟩:=h
   simp only [Lib.spansFromP,if_pos hlt]
   cases hb:Km (Utf8.decode s pos).1 with
   | true=>
    simp only [if_true]
    cases st with
    | none=>exact bg s f _ none acc ⟨hwn,ha,by simp only at hs⊢;omega⟩
    | some a=>
     simp only at hs
     refine bg s f _ none (acc++ [(a,pos)]) ⟨hwn,fun p hp'=> ?_,?_⟩
     ·rcases List.mem_append.1 hp' with h | h
      ·exact ha p h
      ·rw [List.mem_singleton] at h
       subst h
       exact⟨hs.1,hp⟩
     ·simp only
      rw [Zg]
      show jy acc+((pos-a)+1+0)≤_
      omega
   | false=>
    simp only [Bool.false_eq_true,if_false]
    cases st with
    | none=>exact bg s f _ (some pos) acc ⟨hwn,ha,by simp only at hs⊢;omega⟩
    | some a=>exact bg s f _ (some a) acc ⟨hwn,ha,by simp only at hs⊢;omega⟩
  ·rw [Lib.spansFromP_end Km s _ _ _ _ hlt]
   exact sS h
theorem Ho (s:ByteArray):Io (EP s)≤s.size+1∧ ∀x∈EP s,0<x.size:=by
 obtain⟨h1,h2⟩:=bg s s.size 0 none [] ⟨Nat.zero_le _,fun p hp=>by(cases hp),Nat.zero_le _⟩
 unfold EP Lib.goFieldsP Lib.spansOfP
 generalize Lib.closeSpans s (Lib.spansFromP Km s s.size 0 none [])=l at h1 h2
 refine⟨?_,fun x hx=> ?_⟩
 ·refine Nat.le_trans ?_ h1
  clear h1 h2
  induction l with
  | nil=>exact Nat.le_refl _
  | cons p l ih=>
   show(s.extract p.1 p.2).size+1+Io (l.map _)≤(p.2-p.1)+1+jy l
   have:(s.extract p.1 p.2).size≤p.2-p.1:=by rw [ByteArray.size_extract];omega
   omega
 ·obtain⟨p,hp,rfl⟩:=List.mem_map.1 hx
  have:=h2 p hp
  rw [ByteArray.size_extract]
  omega
theorem Keep.ER {K K':Nat→Prop} {w w':World} (h:Keep K w w') (hk: ∀k,k<w.heap.size→K' k→K k):Keep K' w w':=⟨h.os,h.tape,h.output,h.size,fun k h1 h2=>h.block k h1 (hk k h1 h2)⟩
structure Nn {α:Type} (r:Rd α) (e:TypeId) (B:Nat) (S:Nat→Prop) (W:World) (A:Option Addr) (n c:Nat) (cells:List Value) (xs:List α):Prop where
 own:W.ownsRow B e r.z (.slice A n c) n cells
 len:n=xs.length
 at_: ∀g,(Value.slice A n c).ownBlock=some g→S g
 els: ∀(k:Nat) x,xs[k]?=some x→ ∃lo hi,B≤lo∧hi≤W.heap.size∧(∀g,(Value.slice A n c).ownBlock=some g→g<lo∨hi≤g)∧(∀g,lo≤g→g<hi→S g)∧r.R W lo hi ((cells.drop (k*r.z)).take r.z) x
def PD {α:Type} (r:Rd α) (e:TypeId) (B:Nat) (S:Nat→Prop) (W:World) (v:Value) (xs:List α):Prop:= ∃A c cells,v= .slice A xs.length c∧Nn r e B S W A xs.length c cells xs
section
variable {α:Type} {r:Rd α} {e:TypeId} {B:Nat} {S S':Nat→Prop} {W W':World} {A:Option Addr} {n c:Nat} {cells:List Value} {xs:List α} {v:Value}
theorem Nn.nil (r:Rd α) (e:TypeId) (B:Nat) (S:Nat→Prop) (W:World):Nn r e B S W none 0 0 [] []:=
 ⟨⟨by simp,.inl ⟨rfl,rfl⟩⟩,rfl,fun g h=>(by cases h),fun k x h=>by simp at h⟩
theorem PD.nil (r:Rd α) (e:TypeId) (B:Nat) (S:Nat→Prop) (W:World):PD r e B S W (.slice none 0 0) []:=⟨none,0,[],rfl,Nn.nil r e B S W⟩
theorem Nn.lt (h:Nn r e B S W A n c cells xs): ∀g,(Value.slice A n c).ownBlock=some g→B≤g∧g<W.heap.size:=h.own.lt
theorem Nn.keep {K:Nat→Prop} (h:Nn r e B S W A n c cells xs) (hK:Keep K W W') (hSK: ∀k,B≤k→k<W.heap.size→S k→K k) (hS: ∀k,k<W.heap.size→S k→S' k):Nn r e B S' W' A n c cells xs:=by
 refine⟨Me (K:=fun k=>B≤k∧S k) h.own (hK.ER fun k h1 h2=>hSK k h2.1 h1 h2.2) (fun k hk=>⟨(h.lt k hk).1,h.at_ k hk⟩),h.len,fun g hg=>hS g (h.lt g hg).2 (h.at_ g hg),fun k x hk=> ?_⟩
 obtain⟨lo,hi,h1,h2,h3,h4,h5⟩:=h.els k x hk
 exact⟨lo,hi,h1,Nat.le_trans h2 hK.size,h3,fun g ha hb=>hS g (by omega) (h4 g ha hb),Rd.Iz (K:=fun k=>B≤k∧S k) h5 (hK.ER fun k h1 h2=>hSK k h2.1 h1 h2.2) h2 (fun k ha hb=>⟨by omega,h4 k ha hb⟩)⟩
theorem PD.keep {K:Nat→Prop} (h:PD r e B S W v xs) (hK:Keep K W W') (hSK: ∀k,B≤k→k<W.heap.size→S k→K k) (hS: ∀k,k<W.heap.size→S k→S' k):PD r e B S' W' v xs:=by
 obtain⟨A,c,cells,rfl,h⟩:=h
 exact⟨A,c,cells,rfl,h.keep hK hSK hS⟩
theorem Nn.reads (h:Nn r e B S W A n c cells xs):(r.sl false).R W B W.heap.size [.slice A n c] xs:=by
 refine Rd.own false h.own h.len fun k x hk=> ?_
 obtain⟨lo,hi,h1,h2,_,_,h4⟩:=h.els k x hk
 exact r.more h1 h2 h4
theorem PD.reads (h:PD r e B S W v xs):(r.sl false).R W B W.heap.size [v] xs:=by
 obtain⟨A,c,cells,rfl,h⟩:=h
 exact h.reads
theorem Nn.snoc {w0 w3 w4:World} (h:Nn r e B S w0 A n c cells xs) (hb:Below w0.heap.size w0 w3) (hB:B≤w0.heap.size) {A':Option Addr} {c' lo hi:Nat} {cs:List Value} {x:α} (hr:r.R w3 lo hi cs x) (hlo:w0.heap.size≤lo) (hhi:hi≤w3.heap.size)
 (ho:w4.ownsRow B e r.z (.slice A' (n+1) c') (n+1) (cells++cs)) (hg:w3.grownBy w4 (Value.slice A n c).ownBlock) (hat:(Value.slice A' (n+1) c').ownBlock=(Value.slice A n c).ownBlock∨(Value.slice A' (n+1) c').ownBlock=some w3.heap.size)
 (hS: ∀k,k<w0.heap.size→S k→S' k) (hnew: ∀k,w0.heap.size≤k→S' k):Nn r e B S' w4 A' (n+1) c' (cells++cs) (xs++ [x]):=by
 have hl:cells.length=n*r.z:=h.own.1
 have hcs:cs.length=r.z:=r.len hr
 have sP: ∀ {lo hi:Nat},hi≤w3.heap.size→(∀g,(Value.slice A n c).ownBlock=some g→g<lo∨hi≤g)→ ∀g,(Value.slice A' (n+1) c').ownBlock=some g→g<lo∨hi≤g:=fun hh ha g hg'=>by
  rcases hat with h1 | h1
  ·exact ha g (h1▸hg')
  ·rw [h1] at hg';injection hg' with hg';right;omega
 refine⟨ho,by rw [List.length_append,←h.len];rfl,fun g hg'=> ?_,fun k y hk=> ?_⟩
 ·rcases hat with h1 | h1
  ·have h2:=h1▸hg'
   exact hS g (h.lt g h2).2 (h.at_ g h2)
  ·rw [h1] at hg';injection hg' with hg'
   exact hnew g (by have:=hb.size;omega)
 rw [List.getElem?_append] at hk
 split at hk
 ·rename_i hlt
  obtain⟨l1,h1,g1,g2,g3,g5,g4⟩:=h.els k y hk
  have g2':h1≤w3.heap.size:=Nat.le_trans g2 hb.size
  refine⟨l1,h1,g1,Nat.le_trans g2' hg.size,sP g2' g3,fun g ha hb'=>hS g (by omega) (g5 g ha hb'),?_⟩
  have hkn:k*r.z+r.z≤cells.length:=by
   rw [hl,←Nat.succ_mul]
   exact Nat.mul_le_mul_right _ (by rw [h.len];exact hlt)
  rw [List.drop_append_of_le_length (by omega),List.take_append_of_le_length (by rw [List.length_drop];omega)]
  exact r.grown (r.below g4 hb g2) hg g2' g3
 ·rename_i hge
  have hk0:k=xs.length:=by
   have:=(List.getElem?_eq_some_iff.1 hk).1
   simp at this;omega
  subst hk0
  rw [Nat.sub_self] at hk
  simp at hk
  subst hk
  have hown: ∀g,(Value.slice A n c).ownBlock=some g→g<lo∨hi≤g:=fun g hg'=> .inl (by have:=(h.lt g hg').2;omega)
  refine⟨lo,hi,by omega,Nat.le_trans hhi hg.size,sP hhi hown,fun g ha hb'=>hnew g (by omega),?_⟩
  rw [←h.len,←hl,List.drop_left' rfl,←hcs,List.take_length]
  exact r.grown hr hg hhi hown
end
structure Zf (B:Nat) (col:Nat→Nat) (W:World) (v1 v2 v3 v6 v7 v8:Value) (m:AQ):Prop where
 p1:PD Mr 51 B (fun k=>col k=1) W v1 m.types
 p2:PD Rd.i64 3 B (fun k=>col k=2) W v2 m.hosts
 p3:PD JG 82 B (fun k=>col k=3) W v3 m.globs
 p6:PD Tf 56 B (fun k=>col k=6) W v6 m.fns
 p7:PD Kz 59 B (fun k=>col k=7) W v7 m.dat
 p8:PD M_ 61 B (fun k=>col k=8) W v8 m.AO
def K5 (w:World) (col:Nat→Nat) (i:Nat):Nat→Nat:=fun k=>if k<w.heap.size then col k else i
theorem Ao {w:World} {col:Nat→Nat} {i j k:Nat} (h:k<w.heap.size) (hc:col k=j):K5 w col i k=j:=by unfold K5;rw [if_pos h];exact hc
theorem OE {w:World} {col:Nat→Nat} {i k:Nat} (h:w.heap.size≤k):K5 w col i k=i:=by unfold K5;rw [if_neg (by omega)]
section
variable {B:Nat} {col:Nat→Nat} {W W':World} {v1 v2 v3 v6 v7 v8:Value} {m:AQ}
theorem Zf.keep {K:Nat→Prop} (h:Zf B col W v1 v2 v3 v6 v7 v8 m) (hK:Keep K W W') (hk: ∀k,B≤k→k<W.heap.size→col k≠0→K k) (col':Nat→Nat) (hc: ∀k,k<W.heap.size→col k≠0→col' k=col k):Zf B col' W' v1 v2 v3 v6 v7 v8 m:=by
 refine⟨h.p1.keep hK (fun k hB hlt e=>hk k hB hlt (by rw [e];decide)) (fun k hlt e=>by rw [hc k hlt (by rw [e];decide)];exact e),h.p2.keep hK (fun k hB hlt e=>hk k hB hlt (by rw [e];decide)) (fun k hlt e=>by rw [hc k hlt (by rw [e];decide)];exact e),h.p3.keep hK (fun k hB hlt e=>hk k hB hlt (by rw [e];decide)) (fun k hlt e=>by rw [hc k hlt (by rw [e];decide)];exact e),h.p6.keep hK (fun k hB hlt e=>hk k hB hlt (by rw [e];decide)) (fun k hlt e=>by rw [hc k hlt (by rw [e];decide)];exact e),h.p7.keep hK (fun k hB hlt e=>hk k hB hlt (by rw [e];decide)) (fun k hlt e=>by rw [hc k hlt (by rw [e];decide)];exact e),h.p8.keep hK (fun k hB hlt e=>hk k hB hlt (by rw [e];decide)) (fun k hlt e=>by rw [hc k hlt (by rw [e];decide)];exact e)⟩
theorem Zf.put1 {w0 w4:World} (h:Zf B col w0 v1 v2 v3 v6 v7 v8 m) {K:Nat→Prop} (hK:Keep K w0 w4) (hk: ∀k,B≤k→k<w0.heap.size→col k≠1→col k≠0→K k) {v':Value} {xs:List Dl}
 (hn:PD Mr 51 B (fun k=>K5 w0 col 1 k=1) w4 v' xs):Zf B (K5 w0 col 1) w4 v' v2 v3 v6 v7 v8 {m with types:=xs}:=by
 refine⟨hn,h.p2.keep hK (fun k hB hlt e=>hk k hB hlt (by rw [e];decide) (by rw [e];decide)) (fun k hlt e=>Ao hlt e),h.p3.keep hK (fun k hB hlt e=>hk k hB hlt (by rw [e];decide) (by rw [e];decide)) (fun k hlt e=>Ao hlt e),h.p6.keep hK (fun k hB hlt e=>hk k hB hlt (by rw [e];decide) (by rw [e];decide)) (fun k hlt e=>Ao hlt e),h.p7.keep hK (fun k hB hlt e=>hk k hB hlt (by rw [e];decide) (by rw [e];decide)) (fun k hlt e=>Ao hlt e),h.p8.keep hK (fun k hB hlt e=>hk k hB hlt (by rw [e];decide) (by rw [e];decide)) (fun k hlt e=>Ao hlt e)⟩
theorem Zf.put2 {w0 w4:World} (h:Zf B col w0 v1 v2 v3 v6 v7 v8 m) {K:Nat→Prop} (hK:Keep K w0 w4) (hk: ∀k,B≤k→k<w0.heap.size→col k≠2→col k≠0→K k) {v':Value} {xs:List Int}
 (hn:PD Rd.i64 3 B (fun k=>K5 w0 col 2 k=2) w4 v' xs):Zf B (K5 w0 col 2) w4 v1 v' v3 v6 v7 v8 {m with hosts:=xs}:=by
 refine⟨h.p1.keep hK (fun k hB hlt e=>hk k hB hlt (by rw [e];decide) (by rw [e];decide)) (fun k hlt e=>Ao hlt e),hn,h.p3.keep hK (fun k hB hlt e=>hk k hB hlt (by rw [e];decide) (by rw [e];decide)) (fun k hlt e=>Ao hlt e),h.p6.keep hK (fun k hB hlt e=>hk k hB hlt (by rw [e];decide) (by rw [e];decide)) (fun k hlt e=>Ao hlt e),h.p7.keep hK (fun k hB hlt e=>hk k hB hlt (by rw [e];decide) (by rw [e];decide)) (fun k hlt e=>Ao hlt e),h.p8.keep hK (fun k hB hlt e=>hk k hB hlt (by rw [e];decide) (by rw [e];decide)) (fun k hlt e=>Ao hlt e)⟩
theorem Zf.put3 {w0 w4:World} (h:Zf B col w0 v1 v2 v3 v6 v7 v8 m) {K:Nat→Prop} (hK:Keep K w0 w4) (hk: ∀k,B≤k→k<w0.heap.size→col k≠3→col k≠0→K k) {v':Value} {xs:List Ep}
 (hn:PD JG 82 B (fun k=>K5 w0 col 3 k=3) w4 v' xs):Zf B (K5 w0 col 3) w4 v1 v2 v' v6 v7 v8 {m with globs:=xs}:=by
 refine⟨h.p1.keep hK (fun k hB hlt e=>hk k hB hlt (by rw [e];decide) (by rw [e];decide)) (fun k hlt e=>Ao hlt e),h.p2.keep hK (fun k hB hlt e=>hk k hB hlt (by rw [e];decide) (by rw [e];decide)) (fun k hlt e=>Ao hlt e),hn,h.p6.keep hK (fun k hB hlt e=>hk k hB hlt (by rw [e];decide) (by rw [e];decide)) (fun k hlt e=>Ao hlt e),h.p7.keep hK (fun k hB hlt e=>hk k hB hlt (by rw [e];decide) (by rw [e];decide)) (fun k hlt e=>Ao hlt e),h.p8.keep hK (fun k hB hlt e=>hk k hB hlt (by rw [e];decide) (by rw [e];decide)) (fun k hlt e=>Ao hlt e)⟩
theorem Zf.put7 {w0 w4:World} (h:Zf B col w0 v1 v2 v3 v6 v7 v8 m) {K:Nat→Prop} (hK:Keep K w0 w4) (hk: ∀k,B≤k→k<w0.heap.size→col k≠7→col k≠0→K k) {v':Value} {xs:List EZ}
 (hn:PD Kz 59 B (fun k=>K5 w0 col 7 k=7) w4 v' xs):Zf B (K5 w0 col 7) w4 v1 v2 v3 v6 v' v8 {m with dat:=xs}:=by
 refine⟨h.p1.keep hK (fun k hB hlt e=>hk k hB hlt (by rw [e];decide) (by rw [e];decide)) (fun k hlt e=>Ao hlt e),h.p2.keep hK (fun k hB hlt e=>hk k hB hlt (by rw [e];decide) (by rw [e];decide)) (fun k hlt e=>Ao hlt e),h.p3.keep hK (fun k hB hlt e=>hk k hB hlt (by rw [e];decide) (by rw [e];decide)) (fun k hlt e=>Ao hlt e),h.p6.keep hK (fun k hB hlt e=>hk k hB hlt (by rw [e];decide) (by rw [e];decide)) (fun k hlt e=>Ao hlt e),hn,h.p8.keep hK (fun k hB hlt e=>hk k hB hlt (by rw [e];decide) (by rw [e];decide)) (fun k hlt e=>Ao hlt e)⟩
theorem Zf.put8 {w0 w4:World} (h:Zf B col w0 v1 v2 v3 v6 v7 v8 m) {K:Nat→Prop} (hK:Keep K w0 w4) (hk: ∀k,B≤k→k<w0.heap.size→col k≠8→col k≠0→K k) {v':Value} {xs:List LA}
 (hn:PD M_ 61 B (fun k=>K5 w0 col 8 k=8) w4 v' xs):Zf B (K5 w0 col 8) w4 v1 v2 v3 v6 v7 v' {m with AO:=xs}:=by
 refine⟨h.p1.keep hK (fun k hB hlt e=>hk k hB hlt (by rw [e];decide) (by rw [e];decide)) (fun k hlt e=>Ao hlt e),h.p2.keep hK (fun k hB hlt e=>hk k hB hlt (by rw [e];decide) (by rw [e];decide)) (fun k hlt e=>Ao hlt e),h.p3.keep hK (fun k hB hlt e=>hk k hB hlt (by rw [e];decide) (by rw [e];decide)) (fun k hlt e=>Ao hlt e),h.p6.keep hK (fun k hB hlt e=>hk k hB hlt (by rw [e];decide) (by rw [e];decide)) (fun k hlt e=>Ao hlt e),h.p7.keep hK (fun k hB hlt e=>hk k hB hlt (by rw [e];decide) (by rw [e];decide)) (fun k hlt e=>Ao hlt e),hn⟩
end
structure Lens (m:AQ) (q:Nat):Prop where
 types:m.types.length≤q
 hosts:m.hosts.length≤q
 globs:m.globs.length≤q
 fns:m.fns.length≤q
 dat:m.dat.length≤q
 AO:m.AO.length≤q
 code: ∀f∈m.fns,f.code.length≤q
theorem Lens.mono {m:AQ} {q q':Nat} (h:Lens m q) (hq:q≤q'):Lens m q':=
 ⟨Nat.le_trans h.types hq,Nat.le_trans h.hosts hq,Nat.le_trans h.globs hq,Nat.le_trans h.fns hq,Nat.le_trans h.dat hq,Nat.le_trans h.AO hq,fun f hf=>Nat.le_trans (h.code f hf) hq⟩
structure QZ (B b:Nat) (W:World) (col:Nat→Nat) (v1 v2 v3 v6 v7 v8:Value) (m:AQ) (st ln:Nat):Prop where
 blk:AV W b 104 [v1,v2,v3,.int .i64 m.first,.int .i64 m.most,v6,v7,v8,.int .i64 st,.int .i64 ln]
 six:Zf B col W v1 v2 v3 v6 v7 v8 m
 low:b<B
 top:B≤W.heap.size
 first:Rd.Ej m.first
 most:Rd.Ej m.most
def Ti (B b:Nat) (W:World) (m:AQ) (st ln:Nat):Prop:= ∃col v1 v2 v3 v6 v7 v8,QZ B b W col v1 v2 v3 v6 v7 v8 m st ln
structure En (W:World) (A:Nat) (ws:List ByteArray):Prop where
 lt:A<W.heap.size
 at_: ∀(j:Nat) x,ws[j]?=some x→W.cell? ⟨A,j,none⟩=some (.string x)
 tot:Io ws≤1048577
theorem En.sz {W:World} {A:Nat} {ws:List ByteArray} (h:En W A ws): ∀x∈ws,x.size≤1048576:=fun x hx=>by have:=PY hx;have:=h.tot;omega
theorem En.keep {W W':World} {A:Nat} {ws:List ByteArray} {K:Nat→Prop} (h:En W A ws) (hK:Keep K W W') (hA:K A):En W' A ws:=
 ⟨Nat.lt_of_lt_of_le h.lt hK.size,fun j x hx=>by
  have:=hK.block A h.lt hA
  have h2:=h.at_ j x hx
  unfold World.cell? at h2⊢
  rw [this]
  exact h2,h.tot⟩
theorem En.below {W W':World} {A:Nat} {ws:List ByteArray} (h:En W A ws) (hb:Below W.heap.size W W'):En W' A ws:=h.keep (K:=fun _=>True) (Keep.Am hb |>.mono fun _ _=>trivial) trivial
section
variable {B b:Nat} {W W':World} {col:Nat→Nat} {v1 v2 v3 v6 v7 v8:Value} {m:AQ} {st ln:Nat}
theorem QZ.below (h:QZ B b W col v1 v2 v3 v6 v7 v8 m st ln) (hb:Below W.heap.size W W'):QZ B b W' (K5 W col 0) v1 v2 v3 v6 v7 v8 m st ln:=
 ⟨h.blk.below hb h.blk.lt,h.six.keep (K:=fun _=>True) (Keep.Am hb |>.mono fun _ _=>trivial) (fun _ _ _ _=>trivial) _ (fun k hk _=>Ao hk rfl),h.low,Nat.le_trans h.top hb.size,h.first,h.most⟩
theorem Ti.below (h:Ti B b W m st ln) (hb:Below W.heap.size W W'):Ti B b W' m st ln:=by
 obtain⟨col,v1,v2,v3,v6,v7,v8,h⟩:=h
 exact⟨_,v1,v2,v3,v6,v7,v8,h.below hb⟩
end
structure FnO (B lo:Nat) (col:Nat→Nat) (W:World) (A:Option Addr) (c:Nat) (cells:List Value) (vc:Value) (fs:List FL) (f:FL):Prop where
 own:W.ownsRow B 56 3 (.slice A (fs.length+1) c) (fs.length+1) (cells++ [.int .i64 f.t,.string f.loc,vc])
 at_: ∀g,(Value.slice A (fs.length+1) c).ownBlock=some g→col g=6∧g<lo
 els: ∀(k:Nat) x,fs[k]?=some x→ ∃l h,B≤l∧h≤lo∧(∀g,(Value.slice A (fs.length+1) c).ownBlock=some g→g<l∨h≤g)∧(∀g,l≤g→g<h→col g=6)∧Tf.R W l h ((cells.drop (k*3)).take 3) x
 t:Rd.Ej f.t
 loc:Rd.U6 f.loc
 code:PD I_ 53 lo (fun _=>True) W vc f.code
 lo_:B≤lo
 hi_:lo≤W.heap.size
 new: ∀k,lo≤k→k<W.heap.size→col k=9
structure Five (B:Nat) (col:Nat→Nat) (W:World) (v1 v2 v3 v7 v8:Value) (m:AQ):Prop where
 p1:PD Mr 51 B (fun k=>col k=1) W v1 m.types
 p2:PD Rd.i64 3 B (fun k=>col k=2) W v2 m.hosts
 p3:PD JG 82 B (fun k=>col k=3) W v3 m.globs
 p7:PD Kz 59 B (fun k=>col k=7) W v7 m.dat
 p8:PD M_ 61 B (fun k=>col k=8) W v8 m.AO
theorem Five.keep {B:Nat} {col:Nat→Nat} {W W':World} {v1 v2 v3 v7 v8:Value} {m m':AQ} {K:Nat→Prop} (h:Five B col W v1 v2 v3 v7 v8 m) (hK:Keep K W W') (hk: ∀k,B≤k→k<W.heap.size→(col k=1∨col k=2∨col k=3∨col k=7∨col k=8)→K k) (col':Nat→Nat)
 (hc: ∀k,k<W.heap.size→(col k=1∨col k=2∨col k=3∨col k=7∨col k=8)→col' k=col k)
 (h1:m'.types=m.types) (h2:m'.hosts=m.hosts) (h3:m'.globs=m.globs) (h7:m'.dat=m.dat) (h8:m'.AO=m.AO):Five B col' W' v1 v2 v3 v7 v8 m':=by
 have hx: ∀ {i k:Nat},(i=1∨i=2∨i=3∨i=7∨i=8)→col k=i→(col k=1∨col k=2∨col k=3∨col k=7∨col k=8):=fun hi e=>by rw [e];exact hi
 refine⟨?_,?_,?_,?_,?_⟩
 ·rw [h1];exact h.p1.keep hK (fun k hB hlt e=>hk k hB hlt (hx (by omega) e)) (fun k hlt e=>by rw [hc k hlt (hx (by omega) e)];exact e)
 ·rw [h2];exact h.p2.keep hK (fun k hB hlt e=>hk k hB hlt (hx (by omega) e)) (fun k hlt e=>by rw [hc k hlt (hx (by omega) e)];exact e)
 ·rw [h3];exact h.p3.keep hK (fun k hB hlt e=>hk k hB hlt (hx (by omega) e)) (fun k hlt e=>by rw [hc k hlt (hx (by omega) e)];exact e)
 ·rw [h7];exact h.p7.keep hK (fun k hB hlt e=>hk k hB hlt (hx (by omega) e)) (fun k hlt e=>by rw [hc k hlt (hx (by omega) e)];exact e)
 ·rw [h8];exact h.p8.keep hK (fun k hB hlt e=>hk k hB hlt (hx (by omega) e)) (fun k hlt e=>by rw [hc k hlt (hx (by omega) e)];exact e)
structure l9 (B b:Nat) (W:World) (m:AQ) (ln:Nat) (fs:List FL) (f:FL) (lo:Nat) (col:Nat→Nat) (v1 v2 v3 v7 v8:Value) (A:Option Addr) (c:Nat) (cells:List Value) (vc:Value):Prop where
 blk:AV W b 104 [v1,v2,v3,.int .i64 m.first,.int .i64 m.most,.slice A (fs.length+1) c,v7,v8,.int .i64 6,.int .i64 ln]
 five:Five B col W v1 v2 v3 v7 v8 m
 fn:FnO B lo col W A c cells vc fs f
 fns:m.fns=fs++ [f]
 low:b<B
 top:B≤W.heap.size
 first:Rd.Ej m.first
 most:Rd.Ej m.most
def Ko (B b:Nat) (W:World) (m:AQ) (ln:Nat):Prop:= ∃fs f lo col v1 v2 v3 v7 v8 A c cells vc,l9 B b W m ln fs f lo col v1 v2 v3 v7 v8 A c cells vc
theorem l9.close {B b:Nat} {W:World} {m:AQ} {ln:Nat} {fs:List FL} {f:FL} {lo:Nat} {col:Nat→Nat} {v1 v2 v3 v7 v8:Value} {A:Option Addr} {c:Nat} {cells:List Value} {vc:Value} (h:l9 B b W m ln fs f lo col v1 v2 v3 v7 v8 A c cells vc):
 QZ B b W (fun k=>if lo≤k then 6 else col k) v1 v2 v3 (.slice A (fs.length+1) c) v7 v8 m 6 ln:=by
 have hF:=h.fn
 have hlow: ∀k,k<W.heap.size→(col k=1∨col k=2∨col k=3∨col k=7∨col k=8)→ ¬lo≤k:=fun k hk hc hl=>by
  have:=hF.new k hl hk
  omega
 have h5:=h.five.keep (m':=m) (K:=fun _=>True) (Keep.refl _ W) (fun _ _ _ _=>trivial) (fun k=>if lo≤k then 6 else col k) (fun k hk hc=>if_neg (hlow k hk hc)) rfl rfl rfl rfl rfl
 refine⟨h.blk,⟨h5.p1,h5.p2,h5.p3,⟨A,c,cells++ [.int .i64 f.t,.string f.loc,vc],?_,?_⟩,h5.p7,h5.p8⟩,h.low,h.top,h.first,h.most⟩
 ·rw [h.fns,List.length_append];rfl
 have hlen:m.fns.length=fs.length+1:=by rw [h.fns,List.length_append];rfl
 have hcl:cells.length=fs.length*3:=by
  have:=hF.own.1
  rw [List.length_append] at this
  simp at this
  omega
 refine⟨by rw [hlen];exact hF.own,rfl,fun g hg=> ?_,fun k x hk=> ?_⟩
 ·rw [hlen] at hg
  have:=hF.at_ g hg
  show(if lo≤g then 6 else col g)=6
  rw [if_neg (by omega)]
  exact this.1
 ·rw [h.fns,List.getElem?_append] at hk
  rw [hlen]
  split at hk
  ·rename_i hlt
   obtain⟨l,hh,g1,g2,g3,g4,g5⟩:=hF.els k x hk
   refine⟨l,hh,g1,Nat.le_trans g2 hF.hi_,g3,fun g ha hb=> ?_,?_⟩
   ·show(if lo≤g then 6 else col g)=6
    rw [if_neg (by omega)]
    exact g4 g ha hb
   ·show Tf.R W l hh (((cells++_).drop (k*3)).take 3) x
    rw [List.drop_append_of_le_length (by omega),List.take_append_of_le_length (by rw [List.length_drop];omega)]
    exact g5
  ·rename_i hge
   have hk0:k=fs.length:=by
    have:=(List.getElem?_eq_some_iff.1 hk).1
    simp at this;omega
   subst hk0
   rw [Nat.sub_self] at hk
   simp at hk
   subst hk
   refine⟨lo,W.heap.size,hF.lo_,Nat.le_refl _,fun g hg=> .inl (hF.at_ g hg).2,fun g ha hb=>if_pos ha,?_⟩
   show Tf.R W lo W.heap.size (((cells++_).drop (fs.length*3)).take 3) f
   rw [←hcl,List.drop_left' rfl]
   exact Ob.2 ⟨vc,rfl,hF.t,hF.loc,hF.code.reads⟩
theorem Ko.close {B b:Nat} {W:World} {m:AQ} {ln:Nat} (h:Ko B b W m ln):Ti B b W m 6 ln:=by
 obtain⟨fs,f,lo,col,v1,v2,v3,v7,v8,A,c,cells,vc,h⟩:=h
 exact⟨_,v1,v2,v3,_,v7,v8,h.close⟩
def TH (B b:Nat) (W:World) (r:Nb) (ln:Nat):Prop:=(r.st≠6∧Ti B b W r.m r.st ln)∨(r.st=6∧Ko B b W r.m ln)
theorem TH.close {B b:Nat} {W:World} {r:Nb} {ln:Nat} (h:TH B b W r ln):Ti B b W r.m r.st ln:=by
 rcases h with⟨_,h⟩ | ⟨h0,h⟩
 ·exact h
 ·rw [h0];exact h.close
theorem QZ.reads {B b:Nat} {W:World} {col:Nat→Nat} {v1 v2 v3 v6 v7 v8:Value} {m:AQ} {st ln:Nat} (h:QZ B b W col v1 v2 v3 v6 v7 v8 m st ln):IZ.R W B W.heap.size [v1,v2,v3,.int .i64 m.first,.int .i64 m.most,v6,v7,v8] m:=
 DF.2 ⟨v1,v2,v3,v6,v7,v8,rfl,h.six.p1.reads,h.six.p2.reads,h.six.p3.reads,h.first,h.most,h.six.p6.reads,h.six.p7.reads,h.six.p8.reads⟩
theorem XQ: ∀(p q u:List UInt8),K3 p=some u→K3 (p++q)=(K3 q).map (u++ ·)
 | [],q,u,h=>by
  have h:some ([]:List UInt8)=some u:=h
  injection h with h
  subst h
  show K3 q=(K3 q).map ([]++ ·)
  cases hq:K3 q<;>rfl
 | [a],q,u,h=>by cases h
 | a::b::p,q,u,h=>by
  have h:(match Mw a,Mw b with
   | some x,some y=>(K3 p).map (UInt8.ofNat (16*x+y):: ·)
   | _,_=>none)=some u:=h
  show(match Mw a,Mw b with
   | some x,some y=>(K3 (p++q)).map (UInt8.ofNat (16*x+y):: ·)
   | _,_=>none)=_
  cases ha:Mw a with
  | none=>rw [ha] at h;cases h
  | some x=>
   cases hb:Mw b with
   | none=>rw [ha,hb] at h;cases h
   | some y=>
    rw [ha,hb] at h
    simp only at h⊢
    cases hp:K3 p with
    | none=>rw [hp] at h;cases h
    | some v=>
     rw [hp] at h
     have h:some (UInt8.ofNat (16*x+y)::v)=some u:=h
     injection h with h
     subst h
     rw [XQ p q v hp]
     cases K3 q<;>rfl
theorem TJ (a b:UInt8) (t:List UInt8):K3 (a::b::t)=match Mw a,Mw b with
 | some x,some y=>(K3 t).map (UInt8.ofNat (16*x+y):: ·)
 | _,_=>none:=rfl
theorem tJ {l:List UInt8} {k:Nat} {bs:List UInt8} (h:K3 (l.take (2*k))=some bs) {a b:UInt8} (ha:l[2*k]?=some a) (hb:l[2*k+1]?=some b):
 (∀x y,Mw a=some x→Mw b=some y→K3 (l.take (2*(k+1)))=some (bs++ [UInt8.ofNat (16*x+y)]))∧((Mw a=none∨Mw b=none)→K3 l=none):=by
 have hla:=(List.getElem?_eq_some_iff.1 ha)
 have hlb:=(List.getElem?_eq_some_iff.1 hb)
 obtain⟨ha1,ha2⟩:=hla
 obtain⟨hb1,hb2⟩:=hlb
 have hd:l.drop (2*k)=a::b::l.drop (2*k+2):=by
  rw [List.drop_eq_getElem_cons ha1,ha2,List.drop_eq_getElem_cons hb1,hb2]
 constructor
 ·intro x y hx hy
  have:l.take (2*(k+1))=l.take (2*k)++ [a,b]:=by
   rw [show 2*(k+1)=2*k+2 by omega,List.take_add,hd]
   rfl
  rw [this,XQ _ _ _ h,TJ,hx,hy]
  rfl
 ·intro hn
  have h2:=XQ (l.take (2*k)) (l.drop (2*k)) bs h
  rw [List.take_append_drop] at h2
  rw [h2,hd,TJ]
  rcases hn with e | e
  ·rw [e];rfl
  ·rw [e];cases Mw a<;>rfl
theorem cu: ∀l:List UInt8,l.length%2=1→K3 l=none
 | [],h=>by cases h
 | [a],_=>rfl
 | a::b::t,h=>by
  have:=cu t (by simp at h;omega)
  rw [TJ,this]
  cases Mw a<;>cases Mw b<;>rfl
def ABz:ByteArray:=⟨#[48,49,50,51,52,53,54,55,56,57,97,98,99,100,101,102]⟩
theorem yT (c:UInt8):Lib.indexByte ABz.data.toList c=match Mw c with
 | some v=>(v:Int)
 | none=> -1:=by
 have h: ∀k:Fin 256,Lib.indexByte ABz.data.toList (UInt8.ofNat k.1)=match Mw (UInt8.ofNat k.1)with
  | some v=>(v:Int)
  | none=> -1:=by decide+kernel
 have:=h ⟨c.toNat,c.toNat_lt⟩
 simpa using this
theorem j6 {c:UInt8} {v:Nat} (h:Mw c=some v):v<16:=by
 unfold Mw at h
 split at h
 ·injection h with h;omega
 ·split at h
  ·injection h with h;omega
  ·cases h
def TN (r:Nb) (s:ByteArray):Option Nb:=if JQ (EP s)=true then some r else Ai r (EP s)
theorem uF {ls:List ByteArray} {k:Nat} {s:ByteArray} {r r':Nb} (hs:ls[k]?=some s) (h:TN r s=some r'):lU (ls.drop k) r k=lU (ls.drop (k+1)) r' (k+1):=by
 have hl:=(List.getElem?_eq_some_iff.1 hs)
 rw [List.drop_eq_getElem_cons hl.1,hl.2]
 unfold TN at h
 show(if JQ (EP s)=true then lU _ r (k+1) else _)=_
 split
 ·rename_i hk
  rw [if_pos hk] at h
  injection h with h
  rw [h]
 ·rename_i hk
  rw [if_neg hk] at h
  rw [h]
theorem zB {ls:List ByteArray} {k:Nat} {s:ByteArray} {r:Nb} (hs:ls[k]?=some s) (h:TN r s=none):lU (ls.drop k) r k= .inr (k+1):=by
 have hl:=(List.getElem?_eq_some_iff.1 hs)
 rw [List.drop_eq_getElem_cons hl.1,hl.2]
 unfold TN at h
 show(if JQ (EP s)=true then lU _ r (k+1) else _)=_
 split
 ·rename_i hk
  rw [if_pos hk] at h
  cases h
 ·rename_i hk
  rw [if_neg hk] at h
  rw [h]
theorem zC {ls:List ByteArray} {k:Nat} {r:Nb} (h:ls.length≤k):lU (ls.drop k) r k= .inl r:=by
 rw [List.drop_eq_nil_of_le h]
 rfl
theorem QI {α:Type} (f:α→Nat) (l:List α) (x:α):Ak f (l++ [x])=Ak f l+f x:=by simp [Ak]
theorem mapM_len: ∀ {ws:List ByteArray} {l:List Int},ws.mapM CK=some l→l.length=ws.length
 | [],l,h=>by
  rw [List.mapM_nil] at h
  injection h with h
  subst h
  rfl
 | w::ws,l,h=>by
  rw [List.mapM_cons] at h
  cases h1:CK w with
  | none=>rw [h1] at h;cases h
  | some n=>
   cases h2:ws.mapM CK with
   | none=>rw [h1,h2] at h;cases h
   | some t=>
    rw [h1,h2] at h
    injection h with h
    rw [←h,List.length_cons,List.length_cons,mapM_len h2]
theorem kJ: ∀ {l u:List UInt8},K3 l=some u→u.length≤l.length
 | [],u,h=>by
  injection h with h
  rw [←h]
  exact Nat.le_refl _
 | [_],u,h=>by cases h
 | a::b::t,u,h=>by
  rw [TJ] at h
  split at h
  ·cases ht:K3 t with
   | none=>rw [ht] at h;cases h
   | some v=>
    rw [ht] at h
    injection h with h
    have:=kJ ht
    rw [←h]
    simp only [List.length_cons]
    omega
  ·cases h
theorem iE (s:ByteArray):(Gy s).1.size+(Gy s).2.1.size≤2*s.size:=by
 unfold Gy
 have h1:=Sy s
 have h2:=Mc (Pz s)
 have h3:=Mc (P_ s)
 split
 ·show(EC (Pz s)).1.size+(EC (P_ s)).1.size≤_
  omega
 ·exact Nat.zero_le _
theorem nR (l:ByteArray):(Ua l).size≤l.size:=by
 unfold Ua
 split
 ·exact Nat.zero_le _
 ·exact Nat.le_refl _
theorem iF (ws:List ByteArray):(JO ws).size≤Io ws:=by
 have:=XJ ws
 unfold JO
 show(List.toArray _).size≤_
 simpa using this
theorem iG {p:Nat} {m m':AQ} {ws:List ByteArray} (h:Ar p m ws=some m'):Ad m'≤Ad m+2*Io ws+4∧ ∀q,Lens m q→Lens m' (q+1):=by
 unfold Ar at h
 split at h
 ·injection h with h
  subst h
  exact⟨by omega,fun q hl=>hl.mono (by omega)⟩
 ·split at h
  ·injection h with h
   subst h
   have h1:=iE (JO ws)
   have h2:=iF ws
   refine⟨?_,fun q hl=> ?_⟩
   ·unfold Ad
    simp only [List.length_append,List.length_singleton,QI]
    omega
   ·have h3:=hl.types
    have h4:=hl.mono (Nat.le_succ q)
    exact⟨by simp only [List.length_append,List.length_singleton];omega,h4.hosts,h4.globs,h4.fns,h4.dat,h4.AO,h4.code⟩
  ·cases h
 ·rename_i a
  obtain⟨n,_,rfl⟩:=Option.map_eq_some_iff.1 h
  refine⟨?_,fun q hl=> ?_⟩
  ·unfold Ad
   simp only [List.length_append,List.length_singleton]
   omega
  ·have h3:=hl.hosts
   have h4:=hl.mono (Nat.le_succ q)
   exact⟨h4.types,by simp only [List.length_append,List.length_singleton];omega,h4.globs,h4.fns,h4.dat,h4.AO,h4.code⟩
 ·obtain⟨n,_,h⟩:=Option.bind_eq_some_iff.1 h
  obtain⟨g,_,rfl⟩:=Option.map_eq_some_iff.1 h
  refine⟨?_,fun q hl=> ?_⟩
  ·unfold Ad
   simp only [List.length_append,List.length_singleton]
   omega
  ·have h3:=hl.globs
   have h4:=hl.mono (Nat.le_succ q)
   exact⟨h4.types,h4.hosts,by simp only [List.length_append,List.length_singleton];omega,h4.fns,h4.dat,h4.AO,h4.code⟩
 ·obtain⟨n,_,h⟩:=Option.bind_eq_some_iff.1 h
  obtain⟨g,_,rfl⟩:=Option.map_eq_some_iff.1 h
  refine⟨?_,fun q hl=> ?_⟩
  ·show Ad m≤_
   omega
  ·have h4:=hl.mono (Nat.le_succ q)
   exact⟨h4.types,h4.hosts,h4.globs,h4.fns,h4.dat,h4.AO,h4.code⟩
 ·rename_i a l
  obtain⟨n,_,rfl⟩:=Option.map_eq_some_iff.1 h
  have h1:=nR l
  have h2:l.size+1≤Io [a,l]:=PY (by simp)
  refine⟨?_,fun q hl=> ?_⟩
  ·unfold Ad
   simp only [List.length_append,List.length_singleton,QI]
   have h5:JB ⟨n,Ua l,[]⟩=(Ua l).size:=rfl
   rw [h5]
   omega
  ·have h3:=hl.fns
   have h4:=hl.mono (Nat.le_succ q)
   refine⟨h4.types,h4.hosts,h4.globs,by simp only [List.length_append,List.length_singleton];omega,h4.dat,h4.AO,fun f hf=> ?_⟩
   rcases List.mem_append.1 hf with hf | hf
   ·exact h4.code f hf
   ·rw [List.mem_singleton.1 hf];exact Nat.zero_le _
 ·rename_i a x
  obtain⟨n,_,h⟩:=Option.bind_eq_some_iff.1 h
  obtain⟨u,hu,rfl⟩:=Option.map_eq_some_iff.1 h
  have h1:=kJ hu
  have h2:x.size+1≤Io [a,x]:=PY (by simp)
  have h6:x.data.toList.length=x.size:=by simp
  refine⟨?_,fun q hl=> ?_⟩
  ·unfold Ad
   simp only [List.length_append,List.length_singleton,QI]
   omega
  ·have h3:=hl.dat
   have h4:=hl.mono (Nat.le_succ q)
   exact⟨h4.types,h4.hosts,h4.globs,h4.fns,by simp only [List.length_append,List.length_singleton];omega,h4.AO,h4.code⟩
 ·rename_i x f
  obtain⟨n,_,rfl⟩:=Option.map_eq_some_iff.1 h
  have h2:x.size+1≤Io [x,f]:=PY (by simp)
  refine⟨?_,fun q hl=> ?_⟩
  ·unfold Ad
   simp only [List.length_append,List.length_singleton,QI]
   omega
  ·have h3:=hl.AO
   have h4:=hl.mono (Nat.le_succ q)
   exact⟨h4.types,h4.hosts,h4.globs,h4.fns,h4.dat,by simp only [List.length_append,List.length_singleton];omega,h4.code⟩
 ·cases h
theorem nS {o:ZR} {ws:List ByteArray} {x:Av} (h:Qe o ws=some x):x.l.length≤Io ws:=by
 have hw:=Qu ws
 unfold Qe at h
 split at h
 ·split at h
  ·injection h with h
   subst h
   exact Nat.zero_le _
  ·cases h
 ·split at h
  ·obtain⟨l,hl,rfl⟩:=Option.map_eq_some_iff.1 h
   rw [←mapM_len hl] at hw
   exact hw
  ·split at h
   ·obtain⟨n,_,rfl⟩:=Option.map_eq_some_iff.1 h
    exact Nat.zero_le _
   ·cases h
theorem uG (m:AQ) (x:Av):Ad {m with fns:=Im m.fns x}≤Ad m+1+x.l.length∧ ∀q,Lens m q→Lens {m with fns:=Im m.fns x} (q+1):=by
 unfold Im
 cases hf:m.fns.getLast? with
 | none=>exact⟨by unfold Ad;simp only;omega,fun q hl=>hl.mono (by omega)⟩
 | some f=>
  have hs:m.fns=m.fns.dropLast++ [f]:=by
   obtain⟨ys,e⟩:=List.getLast?_eq_some_iff.1 hf
   rw [e,List.dropLast_concat]
  have hL:m.fns.length=m.fns.dropLast.length+1:=by rw [hs];simp
  have hS:Ak JB m.fns=Ak JB m.fns.dropLast+JB f:=by conv=>lhs;rw [hs,QI]
  have hx:JB {f with code:=f.code++ [x]}=JB f+1+x.l.length:=by
   unfold JB N8
   simp only [List.length_append,List.length_singleton,QI]
   omega
  refine⟨?_,fun q hl=> ?_⟩
  ·unfold Ad
   simp only [List.length_append,List.length_singleton,QI]
   rw [hx]
   omega
  ·have h3:=hl.fns
   have h4:=hl.mono (Nat.le_succ q)
   refine⟨h4.types,h4.hosts,h4.globs,by simp only [List.length_append,List.length_singleton];omega,h4.dat,h4.AO,fun g hg=> ?_⟩
   rcases List.mem_append.1 hg with hg | hg
   ·exact h4.code g (by rw [hs];exact List.mem_append_left _ hg)
   ·rw [List.mem_singleton.1 hg]
    have:=hl.code f (by rw [hs];simp)
    simp only [List.length_append,List.length_singleton]
    omega
theorem nT {r r':Nb} {s:ByteArray} (h:TN r s=some r'):Ad r'.m≤Ad r.m+8*(s.size+1)∧ ∀q,Lens r.m q→Lens r'.m (q+1):=by
 have hid:Ad r.m≤Ad r.m+8*(s.size+1)∧ ∀q,Lens r.m q→Lens r.m (q+1):=⟨by omega,fun q hl=>hl.mono (by omega)⟩
 have hwd:=(Ho s).1
 unfold TN at h
 split at h
 ·injection h with h
  subst h
  exact hid
 ·unfold Ai at h
  split at h
  ·injection h with h
   subst h
   exact hid
  ·rename_i w ws hw
   rw [hw] at hwd
   have hws:w.size+1+Io ws≤s.size+1:=hwd
   split at h
   ·split at h
    ·obtain⟨o,_,h⟩:=Option.bind_eq_some_iff.1 h
     obtain⟨x,hx,rfl⟩:=Option.map_eq_some_iff.1 h
     have h1:=nS hx
     have h2:=uG r.m x
     exact⟨Nat.le_trans h2.1 (by omega),h2.2⟩
    ·cases h
   ·split at h
    ·obtain⟨m',hm,rfl⟩:=Option.map_eq_some_iff.1 h
     have h1:=iG hm
     exact⟨Nat.le_trans h1.1 (by omega),h1.2⟩
    ·cases h
def upto (ls:List ByteArray) (k:Nat):Nat:=Io (ls.take k)
theorem Xb: ∀a b:List ByteArray,Io (a++b)=Io a+Io b
 | [],b=>by show _=0+_;rw [Nat.zero_add];rfl
 | x::a,b=>by
  have:=Xb a b
  show x.size+1+Io (a++b)=x.size+1+Io a+Io b
  omega
theorem nU {ls:List ByteArray} {k:Nat} {s:ByteArray} (h:ls[k]?=some s):upto ls (k+1)=upto ls k+(s.size+1):=by
 unfold upto
 rw [List.take_add_one,h,Xb]
 rfl
theorem zD (ls:List ByteArray) (k:Nat):upto ls k≤Io ls:=by
 have h:=Xb (ls.take k) (ls.drop k)
 rw [List.take_append_drop] at h
 unfold upto
 omega
structure Xc (ls:List ByteArray) (k:Nat) (r:Nb):Prop where
 here:lU ls yD 0=lU (ls.drop k) r k
 sz:Ad r.m≤8*upto ls k
 lens:Lens r.m k
theorem Xc.start (ls:List ByteArray):Xc ls 0 yD:=⟨rfl,Nat.zero_le _,⟨Nat.le_refl _,Nat.le_refl _,Nat.le_refl _,Nat.le_refl _,Nat.le_refl _,Nat.le_refl _,fun f hf=>by cases hf⟩⟩
theorem Xc.next {ls:List ByteArray} {k:Nat} {r r':Nb} {s:ByteArray} (h:Xc ls k r) (hs:ls[k]?=some s) (hr:TN r s=some r'):Xc ls (k+1) r':=by
 have hf:=nT hr
 have hz:=h.sz
 refine⟨h.here.trans (uF hs hr),?_,hf.2 _ h.lens⟩
 rw [nU hs]
 have:=hf.1
 omega
theorem Y7: ∀(k:Nat) (s:ByteArray),Io (Lib.splitB lT 0 k s)≤s.size+1
 | 0,s=>Nat.le_refl _
 | k+1,s=>by
  rcases Lib.indexB_cases s lT with hix | ⟨i,hix,hroom⟩
  ·rw [Lib.splitB_miss lT 0 _ s hix]
   exact Nat.le_refl _
  ·have hsz:lT.size=1:=rfl
   rw [Lib.splitB_hit lT 0 k s i hix]
   have:=Y7 k (s.extract (i+lT.size) s.size)
   show(s.extract 0 (i+0)).size+1+Io _≤_
   rw [ByteArray.size_extract] at this⊢
   omega
theorem R8 (s:ByteArray) (h:s.size≤1048576):Io (Em s)≤1048577:=by
 have:=Y7 (Lib.countB s lT) s
 unfold Em
 omega
theorem Xc.small {s:ByteArray} {k:Nat} {r:Nb} (h:Xc (Em s) k r) (hs:s.size≤1048576):Ad r.m≤2147483647:=by
 have h1:=h.sz
 have h2:=zD (Em s) k
 have h3:=R8 s hs
 omega
theorem nV {s x:ByteArray} {k:Nat} {r:Nb} (hs:s.size≤1048576) (h:Xc (Em s) k r) (hx:(Em s)[k]?=some x) (hr:TN r x=none):JC s=(Dn,22,k+1):=by
 unfold JC
 rw [if_neg (by omega),h.here,zB hx hr]
theorem nW {s:ByteArray} {k:Nat} {r:Nb} (hs:s.size≤1048576) (hk:(Em s).length=k) (h:Xc (Em s) k r):JC s=if r.st<5 then(Dn,22,k) else if FM r.m=0 then(r.m,0,0) else(Dn,FM r.m,0):=by
 unfold JC
 rw [if_neg (by omega),h.here,zC (by omega),hk]
theorem Y8 (v:Int) (h0: -9223372036854775808≤v) (h1:v<9223372036854775808) (w:World):
 Calls prog 118 #[.int .i64 v] w fun e w'=> ∃A c,e= .returned (.slice A (enc (folded v)).length c)∧w'.ownsRow w.heap.size 5 1 (.slice A (enc (folded v)).length c) (enc (folded v)).length ((enc (folded v)).map bv)∧Below w.heap.size w w':=by
 go_enter func118,ntmps118
 go_wp2_with fail
 rw [lN v h0 h1]
 refine(Nv (folded v) (MZ v h0 h1) w).mono ?_
 rintro e w1 ⟨A,c,rfl,h2,h3⟩
 have H2:=AA h2;clear h2
 have H3:=AA h3;clear h3
 go_wp2_with fail
 go_ret
 exact⟨A,c,rfl,H2.out,H3.out⟩
theorem nX (w:World) (e:TypeId) (s:ByteArray):Row (Lib.bytesWorld w e s) (w.heap.size+1) (some ⟨w.heap.size,0,none⟩) (s.data.toList.map bv):=by
 intro _
 refine⟨w.heap.size,0,rfl,Nat.lt_succ_self _,fun j u hu=> ?_⟩
 have hj:j<s.size:=by have:=(List.getElem?_eq_some_iff.1 hu).1;simpa using this
 rw [Nat.zero_add,Lib.bytesWorld_cell w e s j hj,←hu,List.getElem?_map]
 have hj':j<s.data.toList.length:=by simpa using hj
 rw [List.getElem?_eq_getElem hj',List.getD,List.getElem?_eq_getElem hj']
 rfl
theorem dR (w:World) (e:TypeId) (s:ByteArray):Below w.heap.size w (Lib.bytesWorld w e s):=
 ⟨rfl,rfl,rfl,by rw [Lib.bytesWorld_size];omega,fun k hk=>Lib.bytesWorld_at_old w e s k hk⟩
theorem Du {w w':World} {base:Nat} {e:TypeId} {v:Value} {n:Nat} {xs:List Value} (h:w.ownsRow base e 1 v n xs) (hb:Below w.heap.size w w'):w'.ownsRow base e 1 v n xs:=
 h.kept (row:=some w.heap.size) ⟨hb.os,hb.tape,hb.output,hb.size,fun k hk _=>hb.block k hk⟩ (by
  cases hv:v.ownBlock with
  | none=>exact .inl rfl
  | some k=>right;intro e;injection e with e;have:=(h.lt k hv).2;omega)
theorem nY (s:ByteArray) (h47:s.size≤70368744177664) (w:World):
 Calls prog 157 #[.string s] w fun e w'=> ∃A c,e= .returned (.slice A ((enc s.size).length+s.size) c)∧w'.ownsRow w.heap.size 5 1 (.slice A ((enc s.size).length+s.size) c) ((enc s.size).length+s.size) ((enc s.size++s.data.toList).map bv)∧Below w.heap.size w w':=by
 have hl:=Ag s.size (by omega)
 go_enter func157,ntmps157
 go_wp2_with fail
 refine(Nv s.size (by omega) w).mono ?_
 rintro e w1 ⟨A,c,rfl,h2,h3⟩
 have hcv:=Lib.run_convert_string_bytes (P:=prog) w1 9 41 5 s underlying9 underlying41 underlying5
 have H2:=AA h2;clear h2
 have H3:=AA h3;clear h3
 have HT:=AA (nX w1 5 s)
 have HB:=AA (dR w1 5 s)
 generalize hw2:Lib.bytesWorld w1 5 s=w2 at*
 clear hw2
 have hsz:w.heap.size≤w2.heap.size:=by have:=HB.out.size;have:=H3.out.size;omega
 go_wp2_with fail
 refine(XA A _ (enc s.size).length c s.size _ (w1.heap.size+1) w.heap.size w2 ((enc s.size).map bv) (s.data.toList.map bv) (Du H2.out HB.out) (by simp) HT.out (LC _) (by omega) hsz).mono ?_
 rintro e w3 ⟨A',c',rfl,h4,h5⟩
 have H4:=AA h4;clear h4
 have H5:Hid (Below w.heap.size w w3):=AA ((H3.out.trans (HB.out.mono (by have:=H3.out.size;omega))).trans (own_below (Du H2.out HB.out) h5 hsz))
 clear h5 hsz hcv
 go_wp2_with fail
 go_ret
 rw [List.map_append]
 exact⟨A',c',rfl,H4.out,H5.out⟩
theorem iH (w:World) {ops:Array Oper} {rest:List Oper} {o:Oper} {a:Act} {Q:Exit→Act→World→Prop} (hgd:o.guard=none) (s x:Operand)
 (ho:o.op= .call {callee:= .builtin .append,args:= #[s,x],argTypes:= #[41,9]}) (base:Nat)
 (A:Option Addr) (n c:Nat) (xs:List Value) (hs:a.eval s= .slice A n c) (hown:w.ownsRow base 5 1 (.slice A n c) n xs)
 (t:ByteArray) (hx:a.eval x= .string t) (h47:n+t.size≤140737488351232) (hbase:base≤w.heap.size)
 (h: ∀A' c' w',w'.ownsRow base 5 1 (.slice A' (n+t.size) c') (n+t.size) (xs++t.data.toList.map bv)→Below base w w'→wpList prog ops Q rest (a.put o.dst (.slice A' (n+t.size) c')) w'):wpList prog ops Q (o::rest) a w:=by
 obtain⟨i0,hi,hz,hs',hb⟩:=info_parts G8
 refine Lib.wpList_append_own_string (w:=w) hgd s x 41 9 ho base 5 i0 underlying41 underlying9 hi hz hs' hb _ n xs hs hown t hx (by unfold maxLen;omega) (by omega) hbase ?_
 intro v' w' h2 h3 _
 obtain⟨A',c',rfl⟩:=Si h2
 exact h A' c' w' h2 (own_below hown h3 hbase)
theorem Pg (v0:Nat) (hv0:v0<18446744073709551616) (w:World):
 Calls prog 209 #[.int .u64 v0] w fun e w'=> ∃A c,e= .returned (.slice A (enc v0).length c)∧w'.ownsRow w.heap.size 5 1 (.slice A (enc v0).length c) (enc v0).length ((enc v0).map bv)∧Below w.heap.size w w':=by
 have hl10:=Ag v0 hv0
 go_enter func209,ntmps209
 go_wp2_with fail
 go_loopw [3,0] (fun L V wr=>AAx v0 w L V wr) (fun _ V _=>(intOf V).toNat)
 case atStart=>exact⟨v0,[],none,0,rfl,rfl,hv0,rfl,World.ownsRow_nil _ _ _ _,Below.refl _ _⟩
 case round=>
  obtain⟨v,xs,A,c,rfl,rfl,hv,hR,hown,hbel⟩:=hrel
  have HR:=AA hR;clear hR
  have gL:=AA hown;clear hown
  have CF:=AA hbel;clear hbel
  have hxs:xs.length≤10:=by have:=congrArg List.length HR.out;rw [List.length_append] at this;omega
  by_cases hlt:v<128
  ·have hge: ¬(128:Int)≤v:=by omega
   have hm256:(v:Int)%256=v:=by omega
   have ABg:Hid (xs.map bv++ [.int .u8 (v:Int)]=(enc v0).map bv):=AA (by rw [←HR.out,Kt v hlt,List.map_append];simp [Oe v (by omega)])
   have Hlen:Hid (xs.length+1=(enc v0).length):=AA (by rw [←HR.out,Kt v hlt,List.length_append];rfl)
   go_wp2_with (at_builtin;refine I7 _ rfl (.tmp 15) (.tmp 18) rfl w.heap.size A xs.length c (xs.map bv) rfl (gL.out.alloc _) (wr.heap.size+1) _ 1 1 [.int .u8 (v:Int)] rfl rfl (by exact row_one _ _ _) (by simp [Value.oneCell']) (by omega) (by exact Nat.le_trans CF.out.size (by simp)) ?_;intro A' c' w1 h2 _ h3;have H2:=AA h2;have H3:=AA h3;clear h2 h3)
   go_ret
   rw [←Hlen.out,←ABg.out]
   exact⟨A',c',rfl,H2.out,((CF.out.alloc CF.out.size _)).trans H3.out⟩
  ·have hge:(128:Int)≤v:=by omega
   have hm0:0≤(v:Int)%128:=by omega
   have hm1:(v:Int)%128<128:=by omega
   have hm2:(v:Int)%128+128<256:=by omega
   have IX:((v:Int)%128+128)%256=(v:Int)%128+128:=by omega
   have rJ:Hid ((xs++ [UInt8.ofNat (v%128+128)])++enc (v/128)=enc v0):=AA (by rw [←HR.out,PK v hlt,List.append_assoc];rfl)
   go_wp2_with (at_builtin;refine I7 _ rfl (.tmp 6) (.tmp 11) rfl w.heap.size A xs.length c (xs.map bv) rfl (gL.out.alloc _) (wr.heap.size+1) _ 1 1 _ rfl rfl (by exact row_one _ _ _) (by simp [Value.oneCell']) (by omega) (by exact Nat.le_trans CF.out.size (by simp)) ?_;intro A' c' w1 h2 _ h3;have H2:=AA h2;have H3:=AA h3;clear h2 h3)
   refine⟨⟨v/128,xs++ [UInt8.ofNat (v%128+128)],A',c',by simp,by go_num,by omega,rJ.out,?_,(CF.out.alloc CF.out.size _).trans H3.out⟩,?_⟩
   ·have h4:=H2.out
    rw [show((v:Int)%128+128)=((v%128+128:Nat):Int)from by omega,←Oe _ (by omega),show [bv (UInt8.ofNat (v%128+128))]= [UInt8.ofNat (v%128+128)].map bv from rfl,←List.map_append] at h4
    simpa using h4
   ·simp [intOf];omega
theorem iI (v:Int) (h0: -9223372036854775808≤v) (h1:v<9223372036854775808) (w:World):
 Calls prog 210 #[.int .i64 v] w fun e w'=>e= .returned (.int .u64 (folded v))∧w'=w:=by
 go_enter func210,ntmps210
 by_cases hv:v<0
 ·have e1: -(v+1)%18446744073709551616= -(v+1):=by omega
  have e2:2* -(v+1)%18446744073709551616=2* -(v+1):=by omega
  have e3:(2* -(v+1)+1)%18446744073709551616=2* -(v+1)+1:=by omega
  have Hf:Hid (((folded v:Nat):Int)=2* -(v+1)+1):=AA (by unfold folded;rw [if_pos hv];omega)
  go_wp2_with fail
  go_ret
  rw [Hf.out]
  exact⟨rfl,rfl⟩
 ·have e1:v%18446744073709551616=v:=by omega
  have e2:2*v%18446744073709551616=2*v:=by omega
  have Hf:Hid (((folded v:Nat):Int)=2*v):=AA (by unfold folded;rw [if_neg hv];omega)
  go_wp2_with fail
  go_ret
  rw [Hf.out]
  exact⟨rfl,rfl⟩
theorem dS (v:Int) (h0: -9223372036854775808≤v) (h1:v<9223372036854775808) (w:World):
 Calls prog 179 #[.int .i64 v] w fun e w'=> ∃A c,e= .returned (.slice A (enc (folded v)).length c)∧w'.ownsRow w.heap.size 5 1 (.slice A (enc (folded v)).length c) (enc (folded v)).length ((enc (folded v)).map bv)∧Below w.heap.size w w':=by
 go_enter func179,ntmps179
 go_wp2_with fail
 refine(iI v h0 h1 w).mono ?_
 rintro e w1 ⟨rfl,rfl⟩
 go_wp2_with fail
 refine(Pg (folded v) (MZ v h0 h1) w1).mono ?_
 rintro e w1 ⟨A,c,rfl,h2,h3⟩
 have H2:=AA h2;clear h2
 have H3:=AA h3;clear h3
 go_wp2_with fail
 go_ret
 exact⟨A,c,rfl,H2.out,H3.out⟩
theorem Qx (s:ByteArray) (h47:s.size≤70368744177664) (w:World):
 Calls prog 178 #[.string s] w fun e w'=> ∃A c,e= .returned (.slice A ((enc s.size).length+s.size) c)∧w'.ownsRow w.heap.size 5 1 (.slice A ((enc s.size).length+s.size) c) ((enc s.size).length+s.size) ((enc s.size++s.data.toList).map bv)∧Below w.heap.size w w':=by
 have hl:=Ag s.size (by omega)
 go_enter func178,ntmps178
 go_wp2_with fail
 refine(Pg s.size (by omega) w).mono ?_
 rintro e w1 ⟨A,c,rfl,h2,h3⟩
 have H2:=AA h2;clear h2
 have H3:=AA h3;clear h3
 go_wp2_with (at_builtin;refine iH _ rfl (.tmp 8) (.tmp 9) rfl w.heap.size A (enc s.size).length c ((enc s.size).map bv) rfl H2.out s rfl (by omega) H3.out.size ?_;intro A' c' w2 h4 h5;have H4:=AA h4;have H5:=AA h5;clear h4 h5)
 go_ret
 rw [List.map_append]
 exact⟨A',c',rfl,H4.out,H3.out.trans H5.out⟩
end Go.Proofs.YtebgikflpgcnlaaGreatDoor
