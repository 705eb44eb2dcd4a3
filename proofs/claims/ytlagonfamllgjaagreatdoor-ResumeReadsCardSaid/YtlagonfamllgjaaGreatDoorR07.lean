/- Part 7 of the proof: CtlB -/
import Derived.WalkMore
import Derived.Deep.LoopGhost
import Derived.Deep.RegionHeld
import Derived.Test.YtlagonfamllgjaaGreatDoorR03
namespace Go.Proofs.YtlagonfamllgjaaGreatDoor
set_option linter.unusedVariables false
set_option linter.unusedSimpArgs false
set_option maxRecDepth 100000
set_option maxHeartbeats 4000000
open Go.RowKit Tryz
theorem Xu:(prog.info? 202).map (fun i=>(i.zero,i.size,i.bytes))=some (some (.agg #[.int .i64 0,.int .i64 0]),2,16):=by kernel_rfl
theorem A_ {w:World} {base size g n:Nat} {t e:TypeId} {xs ys:List Value} {v:Value} (h:w.ownsRow base e size v n ys) (h':AQ w g t xs) (hne:e≠t):v.ownBlock≠some g:=by
 intro hb
 rcases h.2 with⟨hv,_⟩ | ⟨g',cap,cur,hv,_,hg,_⟩
 ·rw [hv] at hb;cases hb
 ·rw [hv] at hb
  injection hb with hb
  have hb:g'=g:=hb
  subst hb
  unfold AQ at h'
  rw [hg] at h'
  injection h' with h'
  injection h' with h1 h2
  exact hne h2
def L9 (l:List Int) (p:Nat):List Value:= [iv p,iv (l.getD p (-1))]
theorem SE {α β:Type} {f g:α→List β}: ∀ {l:List α},(∀x∈l,f x=g x)→l.flatMap f=l.flatMap g
 | [],_=>rfl
 | a::l,h=>by rw [List.flatMap_cons,List.flatMap_cons,h a (List.mem_cons_self ..),SE fun x hx=>h x (List.mem_cons_of_mem _ hx)]
def Gi (st:Ai):List Value:= [iv (-1),iv (-1)]++st.op.reverse.flatMap (L9 st.AB)
theorem Pq (st:Ai):(Gi st).length=(st.op.length+1)*2:=by
 have: ∀l:List Nat,(l.flatMap (L9 st.AB)).length=l.length*2:=fun l=>by
  induction l with
  | nil=>rfl
  | cons a l ih=>rw [List.flatMap_cons,List.length_append,ih];simp [L9];omega
 unfold Gi
 rw [List.length_append,this]
 simp;omega
def Xv (st:Ai):Int:=match st.op with
 | []=> -1
 | p::_=>BJ st p
theorem Mh (st:Ai):(Gi st)[st.op.length*2]?=some (iv (EF st.op))∧(Gi st)[st.op.length*2+1]?=some (iv (Xv st)):=by
 unfold Gi Xv
 cases hop:st.op with
 | nil=>exact⟨rfl,rfl⟩
 | cons p r=>
  have hl:([iv (-1),iv (-1)]++r.reverse.flatMap (L9 st.AB)).length=(r.length+1)*2:=by
   have:=Pq {st with op:=r}
   exact this
  rw [List.reverse_cons,List.flatMap_append,←List.append_assoc]
  simp only [List.length_cons]
  constructor
  ·rw [List.getElem?_append_right (by omega),hl,Nat.sub_self];simp [L9,EF]
  ·rw [List.getElem?_append_right (by omega),hl,show(r.length+1)*2+1-(r.length+1)*2=1 from by omega];simp [L9,BJ]
theorem kQ (n p:Nat):(List.replicate n (-1:Int)).getD p (-1)= -1:=by
 rw [List.getD_eq_getElem?_getD,List.getElem?_replicate]
 split<;>rfl
def kR (l:List Nat):Prop:=l.Pairwise (fun a b=>b<a)
structure JH (w wr:World) (b1 b2 b3:Nat) (st:Ai) (A:Option Addr) (c:Nat):Prop where
 Ep:Below w.heap.size w wr
 e1:AQ wr b1 3 (st.ends.map iv)
 e2:AQ wr b2 3 (st.AB.map iv)
 e3:AQ wr b3 3 (st.BF.map iv)
 op:wr.ownsRow w.heap.size 202 2 (.slice A (st.op.length+1) c) (st.op.length+1) (Gi st)
 n12:b1≠b2
 n13:b1≠b3
 n23:b2≠b3
 l1:w.heap.size≤b1
 l2:w.heap.size≤b2
 l3:w.heap.size≤b3
structure Xw (w wr:World) (code:List Ad) (b1 b2 b3:Nat) (pc:Nat) (st:Ai) (A:Option Addr) (c:Nat):Prop where
 row:JH w wr b1 b2 b3 st A c
 ok:Lh code.length pc st
 desc:kR st.op
 fresh: ∀p,pc≤p→BJ st p= -1
 dn:st.done=false
 go:Gf code (code.length-pc) st=ctl code
section
variable {w wr w':World} {b1 b2 b3:Nat} {st:Ai} {A:Option Addr} {c:Nat}
theorem JH.below (h:JH w wr b1 b2 b3 st A c) (hb:Below wr.heap.size wr w'):JH w w' b1 b2 b3 st A c:=
 ⟨h.Ep.trans (hb.mono h.Ep.size),h.e1.below hb h.e1.lt,h.e2.below hb h.e2.lt,h.e3.below hb h.e3.lt,FD h.op hb,h.n12,h.n13,h.n23,h.l1,h.l2,h.l3⟩
theorem JH.block (h:JH w wr b1 b2 b3 st A c): ∃bo,A=some ⟨bo,0,none⟩∧w.heap.size≤bo∧bo≠b1∧bo≠b2∧bo≠b3∧bo<wr.heap.size∧st.op.length+1≤c:=by
 have ne: ∀ {b:Nat} {xs:List Value},AQ wr b 3 xs→(Value.slice A (st.op.length+1) c).ownBlock≠some b:=fun hb=>A_ h.op hb (by decide)
 have h1:=ne h.e1;have h2:=ne h.e2;have h3:=ne h.e3
 have hlt:=h.op.lt
 rcases h.op.2 with⟨_,h0⟩ | ⟨g,cap,cur,hv,hb,hg,hle,_⟩
 ·cases h0
 ·injection hv with e1 e2 e3
  subst e1 e3
  exact⟨g,rfl,hb,fun e=>h1 (by rw [e];rfl),fun e=>h2 (by rw [e];rfl),fun e=>h3 (by rw [e];rfl),(hlt g rfl).2,hle⟩
theorem JH.owned (h:JH w wr b1 b2 b3 st A c) (pc:Nat):JH w (wr.setCell ⟨b3,pc,none⟩ (iv (EF st.op))) b1 b2 b3 (Am st pc) A c:=by
 obtain⟨bo,rfl,hb,_,_,Us,_,_⟩:=h.block
 refine⟨h.Ep.setCell h.l3 _,h.e1.far (p:=⟨b3,pc,none⟩) h.n13 _,h.e2.far (p:=⟨b3,pc,none⟩) h.n23 _,?_,BH h.op (p:=⟨b3,pc,none⟩) (by intro e;injection e with e;exact Us e) _,h.n12,h.n13,h.n23,h.l1,h.l2,h.l3⟩
 have:=h.e3.set pc (iv (EF st.op))
 rwa [←List.map_set] at this
theorem JH.pushed {w2:World} (h:JH w wr b1 b2 b3 st A c) (pc:Nat) (hf:BJ st pc= -1) {A':Option Addr} {c':Nat} (hg:wr.grownBy w2 (Value.slice A (st.op.length+1) c).ownBlock)
 (ho:w2.ownsRow w.heap.size 202 2 (.slice A' (st.op.length+1+1) c') (st.op.length+1+1) (Gi st++ [iv pc,iv (-1)])):JH w w2 b1 b2 b3 {st with op:=pc::st.op} A' c':=by
 obtain⟨bo,rfl,hb,hn1,hn2,Us,_,_⟩:=h.block
 have hk: ∀b,b≠bo→(Value.slice (some ⟨bo,0,none⟩) (st.op.length+1) c).ownBlock≠some b:=fun b hb e=>by injection e with e;exact hb e.symm
 refine⟨h.Ep.trans ⟨hg.os,hg.tape,hg.output,hg.size,fun k h1=>hg.block k (by have:=h.Ep.size;omega) (fun e=>by injection e with e;have e:k=bo:=e;omega)⟩,Ay hg h.e1 (hk _ (Ne.symm hn1)),Ay hg h.e2 (hk _ (Ne.symm hn2)),Ay hg h.e3 (hk _ (Ne.symm Us)),?_,h.n12,h.n13,h.n23,h.l1,h.l2,h.l3⟩
 have he:Gi {st with op:=pc::st.op}=Gi st++ [iv pc,iv (-1)]:=by
  unfold BJ at hf
  unfold Gi
  simp only [List.reverse_cons,List.flatMap_append,←List.append_assoc,List.flatMap_cons,List.flatMap_nil,List.append_nil,L9,hf]
 rw [he]
 exact ho
end
theorem fQ (st:Ai) (p:Nat) (r:List Nat) (pc:Nat) (hop:st.op=p::r) (hd:kR st.op) (hl:p<st.AB.length):
 Gi {st with AB:=st.AB.set p (pc:Int)}=(Gi st).set (st.op.length*2+1) (iv pc):=by
 rw [hop] at hd
 have hne: ∀q∈r,q≠p:=fun q hq e=>by have:=(List.pairwise_cons.1 hd).1 q hq;omega
 have h1:(r.reverse.flatMap (L9 (st.AB.set p (pc:Int))))=r.reverse.flatMap (L9 st.AB):=by
  refine SE fun q hq=> ?_
  have hq':=hne q (List.mem_reverse.1 hq)
  show [iv q,iv ((st.AB.set p (pc:Int)).getD q (-1))]= [iv q,iv (st.AB.getD q (-1))]
  rw [List.getD_eq_getElem?_getD,List.getD_eq_getElem?_getD,List.getElem?_set_ne (Ne.symm hq')]
 have h2:(st.AB.set p (pc:Int)).getD p (-1)=pc:=by
  rw [List.getD_eq_getElem?_getD,List.getElem?_set_self hl];rfl
 have hlen:([iv (-1),iv (-1)]++r.reverse.flatMap (L9 st.AB)).length=(r.length+1)*2:=Pq {st with op:=r}
 unfold Gi
 simp only [hop,List.reverse_cons,List.flatMap_append,←List.append_assoc,List.flatMap_cons,List.flatMap_nil,List.append_nil,List.length_cons]
 rw [h1,List.set_append,hlen,if_neg (by omega),show(r.length+1)*2+1-(r.length+1)*2=1 from by omega]
 congr 1
 show [iv p,iv ((st.AB.set p (pc:Int)).getD p (-1))]=_
 rw [h2]
 rfl
section
variable {w wr w':World} {b1 b2 b3:Nat} {st:Ai} {A:Option Addr} {c:Nat}
theorem JH.ACJ (h:JH w wr b1 b2 b3 st A c) {bo p:Nat} {r:List Nat} (hA:A=some ⟨bo,0,none⟩) (pc:Nat) (hop:st.op=p::r) (hd:kR st.op) (hl:p<st.AB.length):
 JH w ((wr.setCell ⟨bo,st.op.length*2+1,none⟩ (iv pc)).setCell ⟨b2,p,none⟩ (iv pc)) b1 b2 b3 {st with AB:=st.AB.set p (pc:Int)} A c:=by
 obtain⟨bo',hA',hb,hn1,hn2,Us,_,_⟩:=h.block
 rw [hA] at hA';injection hA' with hA';injection hA' with hA';subst hA'
 subst hA
 have hst:=h.op.stored (g:=bo) (st.op.length*2+1) (iv pc)
 refine⟨(h.Ep.setCell hb _).setCell h.l2 _,(h.e1.far (p:=⟨bo,st.op.length*2+1,none⟩) (Ne.symm hn1) _).far (p:=⟨b2,p,none⟩) h.n12 _,?_,(h.e3.far (p:=⟨bo,st.op.length*2+1,none⟩) (Ne.symm Us) _).far (p:=⟨b2,p,none⟩) (Ne.symm h.n23) _,?_,h.n12,h.n13,h.n23,h.l1,h.l2,h.l3⟩
 ·have:=(h.e2.far (p:=⟨bo,st.op.length*2+1,none⟩) (Ne.symm hn2) (iv pc)).set p (iv pc)
  rwa [←List.map_set] at this
 ·rw [fQ st p r pc hop hd hl]
  exact BH hst.1 (p:=⟨b2,p,none⟩) (by intro e;injection e with e;exact hn2 e) _
theorem JH.ended (h:JH w wr b1 b2 b3 st A c) (p:Nat) (v:Int):JH w (wr.setCell ⟨b1,p,none⟩ (iv v)) b1 b2 b3 {st with ends:=st.ends.set p v} A c:=by
 obtain⟨bo,rfl,hb,hn1,_,_,_,_⟩:=h.block
 refine⟨h.Ep.setCell h.l1 _,?_,h.e2.far (p:=⟨b1,p,none⟩) (Ne.symm h.n12) _,h.e3.far (p:=⟨b1,p,none⟩) (Ne.symm h.n13) _,BH h.op (p:=⟨b1,p,none⟩) (by intro e;injection e with e;exact hn1 e) _,h.n12,h.n13,h.n23,h.l1,h.l2,h.l3⟩
 have:=h.e1.set p (iv v)
 rwa [←List.map_set] at this
theorem JH.popped (h:JH w wr b1 b2 b3 st A c) {p:Nat} {r:List Nat} (hop:st.op=p::r):JH w wr b1 b2 b3 {st with op:=r} A c:=by
 refine⟨h.Ep,h.e1,h.e2,h.e3,?_,h.n12,h.n13,h.n23,h.l1,h.l2,h.l3⟩
 have ho:=h.op
 have he:Gi st=Gi {st with op:=r}++L9 st.AB p:=by
  unfold Gi
  rw [hop,List.reverse_cons,List.flatMap_append,←List.append_assoc]
  congr 1
 have hlen:=Pq {st with op:=r}
 rw [hop] at ho
 refine⟨hlen,?_⟩
 rcases ho.2 with⟨_,h0⟩ | ⟨g,cap,cur,hv,hb,hg,hle,hm,hs,ht⟩
 ·cases h0
 ·injection hv with e1 e2 e3
  subst e1 e3
  simp only [List.length_cons] at hle ht
  refine .inr ⟨g,c,cur,rfl,hb,hg,by show r.length+1≤c;omega,hm,hs,?_⟩
  show cur.toList.take ((r.length+1)*2)=_
  have h3:(cur.toList.take ((r.length+1+1)*2)).take ((r.length+1)*2)=cur.toList.take ((r.length+1)*2):=by rw [List.take_take,Nat.min_eq_left (by omega)]
  rw [←h3,ht,he]
  have hl2:(Gi {st with op:=r}).length=(r.length+1)*2:=hlen
  rw [←hl2,List.take_left]
end
theorem Bv {fn:Func} {t u v x y:Tmp} (h:fn.results= #[.tmp t,.tmp u,.tmp v,.tmp x,.tmp y]) (tmps:Array Value) (P:Program) (w:World):
 (results fn tmps).run P w= .ok (.tuple #[tmps.getD t undef,tmps.getD u undef,tmps.getD v undef,tmps.getD x undef,tmps.getD y undef]) w:=by
 simp [results,h]
theorem Xw.stop {w wr:World} {code:List Ad} {b1 b2 b3 pc:Nat} {st:Ai} {A:Option Addr} {c:Nat} (h:Xw w wr code b1 b2 b3 pc st A c) (hlt:pc<code.length) {e:Int×Int} (hs:Ae code st pc= .inl e):ctl code= .inl e:=by
 rw [←h.go,Ke hlt hs]
theorem Xw.next {w wr w':World} {code:List Ad} {b1 b2 b3 pc:Nat} {st st':Ai} {A A':Option Addr} {c c':Nat} (h:Xw w wr code b1 b2 b3 pc st A c) (hlt:pc<code.length) (hs:Ae code st pc= .inr st')
 (hr:JH w w' b1 b2 b3 st' A' c') (hd:kR st'.op) (hf: ∀p,pc+1≤p→BJ st' p= -1) (hn:st'.done=false):Xw w w' code b1 b2 b3 (pc+1) st' A' c':=
 ⟨hr,Kc h.ok hs,hd,hf,hn,by rw [←I6 hlt hs];exact h.go⟩
theorem Vx {W:World} {b:Nat} {l:List Int} (h:AQ W b 3 (l.map iv)) {p:Nat} (hp:p<l.length): ∃v,W.cell? ⟨b,p,none⟩=some v:=by
 obtain⟨u,hu⟩: ∃u,(l.map iv)[p]?=some u:=⟨_,List.getElem?_eq_getElem (by rw [List.length_map];exact hp)⟩
 exact⟨u,by rw [h.cell p];exact hu⟩
theorem OX {code:List Ad} {st:Ai} {pc:Nat} (h:st.done=true):Ae code st pc= .inl (19,pc):=by
 unfold Ae;rw [h];rfl
def Ip (code:List Ad) (w:World) (e:Ending) (w':World):Prop:=match ctl code with
 | .inl x=>e= .returned (.tuple #[.slice none 0 0,.slice none 0 0,.slice none 0 0,.int .i64 x.1,.int .i64 x.2])
 | .inr c=> ∃b1 b2 b3,e= .returned (.tuple #[.slice (some ⟨b1,0,none⟩) code.length code.length,.slice (some ⟨b2,0,none⟩) code.length code.length,.slice (some ⟨b3,0,none⟩) code.length code.length,.int .i64 0,.int .i64 0])∧
  AQ w' b1 3 (c.ends.map iv)∧AQ w' b2 3 (c.AB.map iv)∧AQ w' b3 3 (c.BF.map iv)∧w.heap.size≤b1∧w.heap.size≤b2∧w.heap.size≤b3∧b1≠b2∧b1≠b3∧b2≠b3
theorem qw (A:Option Addr) (c hi:Nat) (code:List Ad) (w:World) (h:(Ga.sl false).R w 0 hi [.slice A code.length c] code) (hhi:hi≤w.heap.size) (hn:code.length≤1000000):
 Calls prog 108 #[.slice A code.length c] w fun e w'=>Below w.heap.size w w'∧Ip code w e w':=by
 have H:=AA h;clear h
 obtain⟨i0,hi0,hz0,hs0,Xx⟩:=info_parts Xu
 have HI:=AA hi0;have HZ:=AA hz0;have HS:=AA hs0;have bC:=AA Xx
 clear hi0 hz0 hs0 Xx
 go_enter func108,ntmps108
 go_wp2_with fail
 go_step3
 go_wp2_with fail
 refine(Np code.length (by omega) _).mono ?_
 rintro e w1 ⟨h1,rfl,h2⟩
 have H1:=AA h1;have H2:=AA h2;clear h1 h2
 go_wp2_with fail
 refine(Np code.length (by omega) _).mono ?_
 rintro e w2 ⟨h1,rfl,h2⟩
 have H3:=AA h1;have H4:=AA h2;clear h1 h2
 go_wp2_with fail
 refine(Np code.length (by omega) _).mono ?_
 rintro e w3 ⟨h1,rfl,h2⟩
 have H5:=AA h1;have H6:=AA h2;clear h1 h2
 go_wp2_with fail
 go_step3
 go_wp2_with fail
 generalize hw4:w3.alloc _=w4
 have HM:Hid (Xw w w4 code w.heap.size w1.heap.size w2.heap.size 0 (Ck code.length) (some ⟨w3.heap.size,0,none⟩) 1):=AA (by
  have a1:=H2.out.lt
  have a2:=H4.out.lt
  have a3:=H6.out.lt
  have c2:=H3.out.size
  have c3:=H5.out.size
  have e1:=(H2.out.below H3.out a1).below H5.out (by omega)
  have e2:=H4.out.below H5.out a2
  have hs:=H1.out.trans ((H3.out.mono H1.out.size).trans (H5.out.mono (by have:=H1.out.size;omega)))
  have hnew:=AQ.new w3 202 [iv (-1),iv (-1)]
  rw [←hw4]
  refine⟨⟨hs.alloc (by have:=hs.size;omega) _,e1.alloc _,e2.alloc _,H6.out.alloc _,?_,by omega,by omega,by omega,Nat.le_refl _,by omega,by omega⟩,JW _,List.Pairwise.nil,fun p _=>kQ _ _,rfl,by rw [Nat.sub_zero];rfl⟩
  refine⟨rfl,.inr ⟨w3.heap.size,1,#[iv (-1),iv (-1)],rfl,by have:=hs.size;omega,hnew,Nat.le_refl _,by decide,rfl,rfl⟩⟩)
 clear hw4 H1 H2 H3 H4 H5 H6
 have Ct:Hid (∃b1 b2 b3,Xw w w4 code b1 b2 b3 0 (Ck code.length) (some ⟨w3.heap.size,0,none⟩) 1∧b1=w.heap.size∧b2=w1.heap.size∧b3=w2.heap.size):=AA ⟨_,_,_,HM.out,rfl,rfl,rfl⟩
 clear HM
 obtain⟨b1,b2,b3,HM,e1,e2,e3⟩:=Ct.out
 rw [←e1,←e2,←e3]
 have HM:=AA HM
 clear e1 e2 e3 Ct
 go_loopw [2,3,4,7,24] (fun v2 v3 v4 vo i wr=> ∃(pc:Nat) (st:Ai) (Ao:Option Addr) (co:Nat),i= .int .i64 pc∧vo= .slice Ao (st.op.length+1) co∧v2= .slice (some ⟨b1,0,none⟩) code.length code.length∧v3= .slice (some ⟨b2,0,none⟩) code.length code.length∧v4= .slice (some ⟨b3,0,none⟩) code.length code.length∧Xw w wr code b1 b2 b3 pc st Ao co)
  (fun _ _ _ _ i _=>code.length-(intOf i).toNat)
 case atStart=>exact⟨0,Ck code.length,_,1,rfl,rfl,rfl,rfl,rfl,HM.out⟩
 case round=>
  obtain⟨pc,st,Ao,co,rfl,rfl,rfl,rfl,rfl,hm⟩:=hrel
  have HM:=AA hm
  have ACK:(0:Int)≤pc:=by omega
  have hle:=hm.ok.le
  have J_:=hm.ok.few
  have hwl:wrap64 (st.op.length:Int)=(st.op.length:Int):=by unfold wrap64;omega
  clear hm
  by_cases hlt:pc<code.length
  ·obtain⟨x,hx⟩: ∃x,code[pc]?=some x:=⟨_,List.getElem?_eq_getElem hlt⟩
   obtain⟨b,o,Gb,GH,rfl,_,N7,hc0,hc1,hc2,_,_⟩:=EP (Rd.below H.out HM.out.row.Ep hhi) hx
   obtain⟨bo,rfl,hbo,hn1,hn2,Us,hbl,hcap⟩:=HM.out.row.block
   have Hx:=AA hx
   clear hx
   go_upto_region 6 with fail
   generalize Pn:wr.alloc _=w5
   have hb5:Below wr.heap.size wr w5:=by rw [←Pn];exact(Below.refl _ _).alloc (Nat.le_refl _) _
   have hbx:AQ w5 wr.heap.size 122 [.int .u8 (x.op.toNat:Int),.int .i64 x.a,.slice Gb x.l.length GH]:=by rw [←Pn];exact AQ.new wr 122 _
   have kS:=hbx.q 0 rfl
   have N_:=AA (HM.out.row.below hb5)
   have FQ:=AA hbx
   have hl5:bo<w5.heap.size:=Nat.lt_of_lt_of_le hbl hb5.size
   have hbw:wr.heap.size<w5.heap.size:=hbx.lt
   have h3l:=N_.out.e3.lt
   have h3f:=N_.out.e3.frozen pc
   have htop:w5.cell? ⟨bo,st.op.length*2,none⟩=some (iv (EF st.op)):=by
    have:=N_.out.op.cellAt (st.op.length*2) (by omega)
    rw [this];exact(Mh st).1
   have hoth:w5.cell? ⟨bo,st.op.length*2+1,none⟩=some (iv (Xv st)):=by
    have:=N_.out.op.cellAt (st.op.length*2+1) (by omega)
    rw [this];exact(Mh st).2
   obtain⟨u3,h3c⟩: ∃u,w5.cell? ⟨b3,pc,none⟩=some u:=by
    obtain⟨u,hu⟩: ∃u,(st.BF.map iv)[pc]?=some u:=⟨_,List.getElem?_eq_getElem (by rw [List.length_map,HM.out.ok.BF];exact hlt)⟩
    exact⟨u,by rw [N_.out.e3.cell pc];exact hu⟩
   unfold iv at htop hoth
   clear Pn hb5 hbx hc0 hc1 hc2 hbl
   go_upto_region 8 with fail
   generalize Xy:w5.setCell _ _=w6
   have h3w:wr.heap.size≠b3:=by have:=HM.out.row.e3.lt;omega
   have IV:Hid (JH w w6 b1 b2 b3 (Am st pc) (some ⟨bo,0,none⟩) co):=AA (by rw [←Xy];exact N_.out.owned pc)
   have yU:AQ w6 wr.heap.size 122 [.int .u8 (x.op.toNat:Int),.int .i64 x.a,.slice Gb x.l.length GH]:=by rw [←Xy];exact FQ.out.far (p:=⟨b3,pc,none⟩) h3w _
   have kS:=yU.q 0 rfl
   have htop:w6.cell? ⟨bo,st.op.length*2,none⟩=some (.int .i64 (EF st.op)):=by
    have:=IV.out.op.cellAt (st.op.length*2) (by show _<(st.op.length+1)*2;omega)
    rw [this];exact(Mh st).1
   have hoth:w6.cell? ⟨bo,st.op.length*2+1,none⟩=some (.int .i64 (Xv st)):=by
    have:=IV.out.op.cellAt (st.op.length*2+1) (by show _<(st.op.length+1)*2;omega)
    rw [this];exact(Mh st).2
   have hbw6:wr.heap.size<w6.heap.size:=yU.lt
   have ACN:bo<w6.heap.size:=(IV.out.op.lt bo rfl).2
   have hfo6:=IV.out.op.frozenAt (st.op.length*2+1)
   have hdn:=HM.out.dn
   clear Xy N_ FQ yU h3c h3f h3l hl5 hbw
   by_cases ho:BD x.op=true
   ·have ZV:x.op.toNat=2∨x.op.toNat=3∨x.op.toNat=4:=of_decide_eq_true ho
    by_cases LA:32≤st.op.length
    ·have hs:Ae code st pc= .inl (35,pc):=by
      unfold Ae;rw [hdn,Hx.out];simp only [Bool.false_eq_true,if_false];rw [if_pos ho,if_pos LA]
     have HC:=AA (HM.out.stop hlt hs)
     have hgt:decide ((32:Int)<(st.op.length:Int)+1)=true:=decide_eq_true (by omega)
     clear hs ho LA htop hoth
     rcases ZV with h | h | h<;>rw [h] at kS<;>clear h
     all_goals
      go_wp2_with fail
      try rw [Exit.noGoto_ret]
      (try simp only [Exit.inBlock,Exit.then]);refine bodyPost_ret (Bv rfl _ _ _) rfl ?_
      refine⟨IV.out.Ep,?_⟩
      unfold Ip
      rw [HC.out]
      exact rfl
    ·have hs:Ae code st pc= .inr {Am st pc with op:=pc::st.op}:=by
      unfold Ae;rw [hdn,Hx.out];simp only [Bool.false_eq_true,if_false];rw [if_pos ho,if_neg LA]
     have hgt:decide ((32:Int)<(st.op.length:Int)+1)=false:=decide_eq_false (by omega)
     have Hs:=AA hs
     have GL:=AA (dR w6 [iv pc,iv (-1)] 202)
     have ZT:w.heap.size≤w6.heap.size:=IV.out.Ep.size
     have hba:Below w6.heap.size w6 (w6.alloc (.cells #[iv pc,iv (-1)] 202)):=(Below.refl _ _).alloc (Nat.le_refl _) _
     have wH:=AA (IV.out.below hba)
     clear hs ho htop hoth hba
     rcases ZV with h | h | h<;>rw [h] at kS<;>clear h
     all_goals
      go_wp2_with (at_builtin;refine BL _ rfl (.tmp 51) (.tmp 54) 203 rfl w.heap.size 202 i0 _ 2 16 underlying203 HI.out HZ.out HS.out bC.out rfl (by omega) _ (st.op.length+1) (Gi (Am st pc)) rfl (by exact wH.out.op) (w6.heap.size+1) _ 1 1 [iv pc,iv (-1)] rfl rfl (by exact GL.out) (by intro u hu;simp at hu;rcases hu with rfl | rfl<;>rfl) (by unfold maxLen;omega) (by omega) (by simp;omega) ?_;intro A3 c3 w7 h2 h3 h4;have H2:=AA h2;have H3:=AA h3;clear h2 h3 h4)
      refine⟨⟨pc+1,_,A3,c3,by go_num,rfl,rfl,rfl,rfl,HM.out.next hlt Hs.out (wH.out.pushed pc (HM.out.fresh pc (Nat.le_refl _)) H3.out H2.out) (List.pairwise_cons.2 ⟨fun q hq=>HM.out.ok.low q hq,HM.out.desc⟩) (fun p hp=>HM.out.fresh p (by omega)) hdn⟩,by simp [intOf];omega⟩
   ·have ho:BD x.op=false:=by simpa using ho
    have hno:x.op.toNat≠2∧x.op.toNat≠3∧x.op.toNat≠4:=by have:=of_decide_eq_false ho;omega
    have g2:((x.op.toNat:Int)==2)=false:=by simp;omega
    have g3:((x.op.toNat:Int)==3)=false:=by simp;omega
    have g4:((x.op.toNat:Int)==4)=false:=by simp;omega
    have hlow:=HM.out.ok.low
    by_cases h5:x.op.toNat=5
    ·rw [h5] at kS
     clear g2 g3 g4
     rcases(show st.op= []∨ ∃p r,st.op=p::r from by cases st.op with | nil=>exact .inl rfl | cons p r=>exact .inr ⟨p,r,rfl⟩)with hop | ⟨p,r,hop⟩
     ·have hs:Ae code st pc= .inl (37,pc):=by
       unfold Ae;rw [hdn,Hx.out];simp only [Bool.false_eq_true,if_false];rw [if_neg (by rw [ho];decide),if_pos h5,hop]
      have HC:=AA (HM.out.stop hlt hs)
      rw [show EF st.op= -1 from by rw [hop];rfl] at htop
      clear hs hoth h5 hno ho hlow hop
      go_wp2_with fail
      try rw [Exit.noGoto_ret]
      (try simp only [Exit.inBlock,Exit.then]);refine bodyPost_ret (Bv rfl _ _ _) rfl ?_
      refine⟨IV.out.Ep,?_⟩
      unfold Ip
      rw [HC.out]
      exact rfl
     ·have hp:p<pc:=hlow p (by rw [hop];exact List.mem_cons_self ..)
      obtain⟨y,hy⟩: ∃y,code[p]?=some y:=⟨_,List.getElem?_eq_getElem (by omega)⟩
      obtain⟨b',o',A_l',c_l',he,_,hbh',hd0,_,_,_,_⟩:=EP (Rd.below H.out IV.out.Ep hhi) hy
      injection he with he
      injection he with he1 he2 _
      subst he1 he2
      have hb6:b<w6.heap.size:=by have:=IV.out.Ep.size;omega
      have wI:opAt code p=y.op.toNat:=by unfold opAt;rw [hy]
      have htp:EF st.op=(p:Int):=by rw [hop];rfl
      have hot:Xv st=BJ st p:=by unfold Xv;rw [hop]
      rw [htp] at htop
      rw [hot] at hoth
      have hp0:(0:Int)≤p:=by omega
      have hpl:decide ((p:Int)<0)=false:=decide_eq_false (by omega)
      have hpn:p<code.length:=by omega
      by_cases hok:y.op.toNat=4∧BJ st p<0
      ·have hs:Ae code st pc= .inr {Am st pc with AB:=st.AB.set p (pc:Int)}:=by
        unfold Ae;rw [hdn,Hx.out];simp only [Bool.false_eq_true,if_false];rw [if_neg (by rw [ho];decide),if_pos h5,hop];dsimp only;rw [if_pos (by rw [wI];exact hok)]
       have Hs:=AA hs
       have q4:((y.op.toNat:Int) !=4)=false:=by simp;omega
       have qe:decide ((0:Int)≤BJ st p)=false:=decide_eq_false (by omega)
       have hlE:p<st.AB.length:=by rw [HM.out.ok.AB];exact hpn
       have HE:=AA (IV.out.ACJ rfl pc (show(Am st pc).op=p::r from hop) HM.out.desc (show p<(Am st pc).AB.length from hlE))
       have h2f:=IV.out.e2.frozen p
       have h2l:=IV.out.e2.lt
       obtain⟨u2,h2c⟩:=Vx IV.out.e2 (show p<(Am st pc).AB.length from hlE)
       have hHF:Hid (∀q,pc+1≤q→BJ {Am st pc with AB:=st.AB.set p (pc:Int)} q= -1):=AA (fun q hq=>by
        show(st.AB.set p (pc:Int)).getD q (-1)= -1
        rw [List.getD_eq_getElem?_getD,List.getElem?_set_ne (by omega),←List.getD_eq_getElem?_getD]
        exact HM.out.fresh q (by omega))
       have h2b:(⟨bo,st.op.length*2+1,none⟩:Addr).block≠b2:=hn2
       have hcf:(w6.setCell ⟨bo,st.op.length*2+1,none⟩ (.int .i64 pc)).cell? ⟨b2,p,none⟩=some u2:=by
        rw [←h2c]
        have:=(IV.out.e2.far (p:=⟨bo,st.op.length*2+1,none⟩) (Ne.symm hn2) (.int .i64 pc)).cell p
        rw [this,IV.out.e2.cell p]
       have hff:=(IV.out.e2.far (p:=⟨bo,st.op.length*2+1,none⟩) (Ne.symm hn2) (.int .i64 pc)).frozen p
       have hll:b2<(w6.setCell ⟨bo,st.op.length*2+1,none⟩ (.int .i64 pc)).heap.size:=by simp [World.setCell];exact h2l
       clear hs h5 hno ho hlow hok wI htp hot hy hop
       go_wp2_with fail
       exact⟨⟨pc+1,{Am st pc with AB:=st.AB.set p (pc:Int)},some ⟨bo,0,none⟩,co,by go_num,rfl,rfl,rfl,rfl,HM.out.next hlt Hs.out HE.out HM.out.desc hHF.out hdn⟩,by simp [intOf];omega⟩
      ·have hs:Ae code st pc= .inl (37,pc):=by
        unfold Ae;rw [hdn,Hx.out];simp only [Bool.false_eq_true,if_false];rw [if_neg (by rw [ho];decide),if_pos h5,hop];dsimp only;rw [if_neg (by rw [wI];exact hok)]
       have HC:=AA (HM.out.stop hlt hs)
       by_cases h4:y.op.toNat=4
       ·have q4:((y.op.toNat:Int) !=4)=false:=by simp;omega
        have qe:decide ((0:Int)≤BJ st p)=true:=decide_eq_true (by omega)
        clear hs h5 hno ho hlow hok wI htp hot hy h4 hop
        go_wp2_with fail
        try rw [Exit.noGoto_ret]
        (try simp only [Exit.inBlock,Exit.then]);refine bodyPost_ret (Bv rfl _ _ _) rfl ?_
        refine⟨IV.out.Ep,?_⟩
        unfold Ip
        rw [HC.out]
        exact rfl
       ·have q4:((y.op.toNat:Int) !=4)=true:=by simp;omega
        clear hs h5 hno ho hlow hok wI htp hot hy h4 hop
        go_wp2_with fail
        try rw [Exit.noGoto_ret]
        (try simp only [Exit.inBlock,Exit.then]);refine bodyPost_ret (Bv rfl _ _ _) rfl ?_
        refine⟨IV.out.Ep,?_⟩
        unfold Ip
        rw [HC.out]
        exact rfl
    ·have g5:((x.op.toNat:Int)==5)=false:=by simp;omega
     by_cases h6:x.op.toNat=6
     ·rw [h6] at kS
      clear g2 g3 g4 g5
      rcases(show st.op= []∨ ∃p r,st.op=p::r from by cases st.op with | nil=>exact .inl rfl | cons p r=>exact .inr ⟨p,r,rfl⟩)with hop | ⟨p,r,hop⟩
      ·have hs:Ae code st pc= .inr {Am st pc with done:=true}:=by
        unfold Ae;rw [hdn,Hx.out];simp only [Bool.false_eq_true,if_false];rw [if_neg (by rw [ho];decide),if_neg h5,if_pos h6,hop]
       have hgo:=HM.out.go
       rw [I6 hlt hs] at hgo
       rw [show EF st.op= -1 from by rw [hop];rfl] at htop
       by_cases hlast:pc+1<code.length
       ·rw [Ke hlast (OX rfl)] at hgo
        have HC:=AA hgo.symm
        have q1:decide ((pc:Int)+1<code.length)=true:=decide_eq_true (by omega)
        clear hs hoth h5 h6 hno ho hlow hop hgo
        go_wp2_with fail
        try rw [Exit.noGoto_ret]
        (try simp only [Exit.inBlock,Exit.then]);refine bodyPost_ret (Bv rfl _ _ _) rfl ?_
        refine⟨IV.out.Ep,?_⟩
        unfold Ip
        rw [HC.out]
        exact rfl
       ·have he:pc+1=code.length:=by omega
        rw [PO he] at hgo
        have HC:Hid (ctl code= .inr {Am st pc with done:=true}):=AA hgo.symm
        have q1:decide ((pc:Int)+1<code.length)=false:=decide_eq_false (by omega)
        clear hs hoth h5 h6 hno ho hlow hop hgo he
        go_wp2_with fail
        try rw [Exit.noGoto_ret]
        (try simp only [Exit.inBlock,Exit.then]);refine bodyPost_ret (Bv rfl _ _ _) rfl ?_
        refine⟨IV.out.Ep,?_⟩
        unfold Ip
        rw [HC.out]
        exact⟨b1,b2,b3,rfl,IV.out.e1,IV.out.e2,IV.out.e3,IV.out.l1,IV.out.l2,IV.out.l3,IV.out.n12,IV.out.n13,IV.out.n23⟩
      ·have hp:p<pc:=hlow p (by rw [hop];exact List.mem_cons_self ..)
       have hpn:p<code.length:=by omega
       have htp:EF st.op=(p:Int):=by rw [hop];rfl
       have hot:Xv st=BJ st p:=by unfold Xv;rw [hop]
       rw [htp] at htop
       rw [hot] at hoth
       have hp0:(0:Int)≤p:=by omega
       have hpl:decide ((p:Int)<0)=false:=decide_eq_false (by omega)
       have hs:Ae code st pc= .inr (ER (Am st pc) p r pc):=by
        unfold Ae;rw [hdn,Hx.out];simp only [Bool.false_eq_true,if_false];rw [if_neg (by rw [ho];decide),if_neg h5,if_pos h6,hop]
       have Hs:=AA hs
       have wJ:r.length+1≤32:=by have:=J_;rw [hop] at this;simpa using this
       have hdr:kR r:=by have:=HM.out.desc;rw [hop] at this;exact(List.pairwise_cons.1 this).2
       have hlr:st.op.length=r.length+1:=by rw [hop];rfl
       have h1n:p<(Am st pc).ends.length:=by show p<st.ends.length;rw [HM.out.ok.ends];exact hpn
       have h1f:=IV.out.e1.frozen p
       have h1l:=IV.out.e1.lt
       obtain⟨u1,h1c⟩:=Vx IV.out.e1 h1n
       have hE1:=IV.out.ended p (pc:Int)
       have hHF:Hid (∀q,pc+1≤q→BJ (ER (Am st pc) p r pc) q= -1):=AA (fun q hq=>HM.out.fresh q (by omega))
       have Hop:=AA hop
       have hwr:wrap64 ((r.length:Int)+1)=(r.length:Int)+1:=by unfold wrap64;omega
       have hcapr:r.length+1≤co:=by rw [←hlr];exact Nat.le_of_succ_le hcap
       have Hot:=AA hot
       have ACQ: ∀(st2:Ai),st2.op=st.op→(Value.slice (some ⟨bo,0,none⟩) st.op.length co)= .slice (some ⟨bo,0,none⟩) (r.length+1) co:=fun _ _=>by rw [hlr]
       have Hlr:=AA hlr
       by_cases hel:BJ st p<0
       ·have qe:decide ((0:Int)≤BJ st p)=false:=decide_eq_false (by omega)
        have hst':ER (Am st pc) p r pc= {({Am st pc with ends:=(Am st pc).ends.set p (pc:Int)}:Ai)with op:=r}:=by
         unfold ER;rw [if_pos (show BJ (Am st pc) p<0 from hel)]
        have HE:=AA (hE1.popped (p:=p) (r:=r) hop)
        have hsz:bo<(w6.setCell ⟨b1,p,none⟩ (.int .i64 pc)).heap.size:=by simp [World.setCell];exact ACN
        have wK:(w6.setCell ⟨b1,p,none⟩ (.int .i64 pc)).cell? ⟨bo,st.op.length*2+1,none⟩=some (.int .i64 (BJ st p)):=by
         rw [World.cell?_setCell_far _ _ _ _ (by show b1≠bo;exact Ne.symm hn1)];exact hoth
        have qx:=AA hst'
        clear hs hE1 h5 h6 hno ho hlow hop hot htp hst' wJ ACQ hel hlr
        go_wp2_with fail
        exact⟨⟨pc+1,ER (Am st pc) p r pc,some ⟨bo,0,none⟩,co,by go_num,by rw [Hlr.out];rfl,rfl,rfl,rfl,HM.out.next hlt Hs.out (by rw [qx.out];exact HE.out) hdr hHF.out hdn⟩,by simp [intOf];omega⟩
       ·have qe:decide ((0:Int)≤BJ st p)=true:=decide_eq_true (by omega)
        have hst':ER (Am st pc) p r pc= {({Am st pc with ends:=((Am st pc).ends.set p (pc:Int)).set (BJ st p).toNat (pc:Int)}:Ai)with op:=r}:=by
         unfold ER;rw [if_neg (show ¬BJ (Am st pc) p<0 from hel)];rfl
        have wK:(w6.setCell ⟨b1,p,none⟩ (.int .i64 pc)).cell? ⟨bo,st.op.length*2+1,none⟩=some (.int .i64 (BJ st p)):=by
         rw [World.cell?_setCell_far _ _ _ _ (by show b1≠bo;exact Ne.symm hn1)];exact hoth
        have hsz:bo<(w6.setCell ⟨b1,p,none⟩ (.int .i64 pc)).heap.size:=by simp [World.setCell];exact ACN
        have hev:=HM.out.ok.bL (BJ st p) (by
         unfold BJ
         rw [List.getD_eq_getElem?_getD,List.getElem?_eq_getElem (by rw [HM.out.ok.AB];exact hpn)]
         exact List.getElem_mem _)
        obtain⟨q,hq⟩: ∃q:Nat,BJ st p=q:=⟨(BJ st p).toNat,by omega⟩
        have hqn:q<((Am st pc).ends.set p (pc:Int)).length:=by
         have:=HM.out.ok.ends
         rw [List.length_set];show q<st.ends.length;omega
        have HE:=AA ((hE1.ended q (pc:Int)).popped (p:=p) (r:=r) hop)
        rw [hq,Int.toNat_natCast] at hst'
        have qx:=AA hst'
        rw [hq] at wK qe hev
        have hq0:(0:Int)≤q:=by omega
        have hqc:q<code.length:=by omega
        have h2l:=hE1.e1.lt
        have h2f:=hE1.e1.frozen q
        obtain⟨u2,h2c⟩:=Vx hE1.e1 hqn
        unfold iv at h2c h2l h2f
        clear hs hE1 h5 h6 hno ho hlow hop hot htp hst' wJ ACQ hel hlr hq hqn
        go_wp2_with fail
        exact⟨⟨pc+1,ER (Am st pc) p r pc,some ⟨bo,0,none⟩,co,by go_num,by rw [Hlr.out];rfl,rfl,rfl,rfl,HM.out.next hlt Hs.out (by rw [qx.out];exact HE.out) hdr hHF.out hdn⟩,by simp [intOf];omega⟩
     ·have g6:((x.op.toNat:Int)==6)=false:=by simp;omega
      have hs:Ae code st pc= .inr (Am st pc):=by
       unfold Ae;rw [hdn,Hx.out];simp only [Bool.false_eq_true,if_false];rw [if_neg (by rw [ho];decide),if_neg h5,if_neg h6]
      have Hs:=AA hs
      clear hs hno ho hlow h5 h6 htop hoth
      go_wp2_with fail
      exact⟨⟨pc+1,Am st pc,some ⟨bo,0,none⟩,co,by go_num,rfl,rfl,rfl,rfl,HM.out.next hlt Hs.out IV.out HM.out.desc (fun q hq=>HM.out.fresh q (by omega)) hdn⟩,by simp [intOf];omega⟩
  ·obtain rfl:pc=code.length:=by omega
   have hgt:decide ((0:Int)<(st.op.length:Int)+1)=true:=decide_eq_true (by omega)
   have hctl:Hid (ctl code= .inl (38,code.length)):=AA (by have:=HM.out.go;rw [PO rfl,HM.out.dn] at this;exact this.symm)
   go_wp2_with fail
   try rw [Exit.noGoto_ret]
   (try simp only [Exit.inBlock,Exit.then]);refine bodyPost_ret (Bv rfl _ _ _) rfl ?_
   refine⟨HM.out.row.Ep,?_⟩
   unfold Ip
   rw [hctl.out]
   exact rfl
end Go.Proofs.YtlagonfamllgjaaGreatDoor
