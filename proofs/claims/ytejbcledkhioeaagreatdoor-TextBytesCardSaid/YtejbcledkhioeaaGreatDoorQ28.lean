/- Part 28 of the proof: DecD DecE DecJ -/
import Derived.Test.YtejbcledkhioeaaGreatDoorQ15
import Derived.Test.YtejbcledkhioeaaGreatDoorQ26
namespace Go.Proofs.YtejbcledkhioeaaGreatDoor
set_option linter.unusedVariables false
set_option linter.unusedSimpArgs false
set_option maxRecDepth 100000
set_option maxHeartbeats 4000000
open Go.RowKit Tryz
section
variable {l:List UInt8} {A:Option Addr} {n c B rg og:Nat} {all:Int} {p:Nat} {w:World}
theorem kX.map {R R':Value→List UInt8→Prop} {e:Ending} {w':World} (h:kX l w rg og all A n c p R e w') (hr: ∀v bs,R v bs→R' v bs):kX l w rg og all A n c p R' e w':=by
 obtain⟨hk,⟨v,bs,q,h1,h2,h3⟩ | h⟩:=h
 ·exact⟨hk,.inl ⟨v,bs,q,h1,hr v bs h2,h3⟩⟩
 ·exact⟨hk,.inr h⟩
theorem Xw (most:Int) (hm:most<9223372036854775808) (hI:UJ w B l A n c) (hb:Rg w rg og all A n c p):
 Calls prog 111 #[.pointer (some ⟨rg,0,none⟩),.int .i64 most] w (kX l w rg og all A n c p fun v bs=> ∃s:ByteArray,v= .tuple #[.string s,.int .i64 p]∧bs=EX s∧(s.size:Int)≤most∧s.size≤65536):=by
 have HC:=AA (fun W (hr:Row W B A (l.map bv))=>V5 A n c B p most W l hI.len hI.cap (by have:=hI.le;have:=hI.len;omega) hr hm)
 have HR:=AA hI.row;have HB:=AA hb
 have Qv:=AA hI.le
 have c2:w.cell? ⟨rg,2,none⟩=some (.slice A n c):=AL.cell hb 2
 have c3:w.cell? ⟨rg,3,none⟩=some (.int .i64 p):=AL.cell hb 3
 have f3:=AL.frozen hb 3
 clear hI hb
 generalize htx:txt l p most=tx at HC⊢
 obtain⟨bs,q,en⟩:=tx
 have Htx:=AA htx;clear htx
 simp only at HC
 go_enter func111,ntmps111
 go_wp2_with fail
 go_region_held3 (fun w'=>w'.cell? ⟨rg,2,none⟩=some (.slice A n c)∧w'.cell? ⟨rg,3,none⟩=some (.int .i64 p)) (first | exact⟨c2,c3⟩)
  (first | (go_at_call 155;refine(HC.out w.drew HR.out).mono ?_;rintro e w' ⟨rfl,rfl⟩))
 by_cases hen:en=0
 case neg=>
  have hd:((en:Int)==0)=false:=beq_eq_false_iff_ne.2 (by omega)
  have Z9:Hid ((en:Int)≠0):=AA (by omega)
  clear hen
  go_wp2_with fail
  refine(Ah _ _ _).mono ?_
  rintro e w' ⟨rfl,rfl⟩
  go_wp2_with fail
  exact⟨rfl,(Keep.refl _ _).drew,.inr ⟨_,_,Z9.out,rfl⟩⟩
 subst hen
 have hd:(((0:Nat):Int)==0)=true:=rfl
 have HA:=AA (uz Htx.out)
 have HZ:Hid ((⟨bs.toArray⟩:ByteArray).size≤65536):=AA (by
  have h1:=HA.out.1.len
  have h2:=HA.out.1.le
  have h3:=Qv.out
  unfold EX at h1
  rw [List.length_append] at h1
  have h4:(⟨bs.toArray⟩:ByteArray).size=bs.length:=by simp [ByteArray.size]
  have h5:(⟨bs.toArray⟩:ByteArray).data.toList.length=bs.length:=by simp
  omega)
 have HZ2:Hid (((⟨bs.toArray⟩:ByteArray).size:Int)≤most):=AA (by
  have h4:(⟨bs.toArray⟩:ByteArray).size=bs.length:=by simp [ByteArray.size]
  have:=HA.out.2
  omega)
 clear Htx
 generalize (⟨bs.toArray⟩:ByteArray)=s at*
 go_wp2_with fail
 refine(Af _ _ _).mono ?_
 rintro e w' ⟨rfl,rfl⟩
 go_wp2_with fail
 go_ret2
 exact⟨((Keep.refl _ _).drew).setCell (fun h=>h rfl) _,.inl ⟨_,EX s,q,rfl,⟨s,rfl,rfl,HZ2.out,HZ.out⟩,HA.out.1,Rg.go (w:=w.drew) HB.out q⟩⟩
theorem PG (most:Int) (hm:most<9223372036854775808) (hI:UJ w B l A n c) (hb:Rg w rg og all A n c p) (hB:B≤rg):
 Calls prog 101 #[.pointer (some ⟨rg,0,none⟩),.int .i64 most] w (kX l w rg og all A n c p fun v bs=> ∃s:ByteArray,v= .string s∧bs=EX s∧Bq s most=0∧s.size≤65536):=by
 have HI:=AA hI;have HB:=AA hb;have hlt:=AL.lt hb;have HT:=AA (Xw most hm hI hb);clear hI hb
 go_enter func101,ntmps101
 go_wp2_with fail
 refine HT.out.mono ?_
 rintro e w1 ⟨hk,⟨v,bs,q,rfl,⟨s,rfl,rfl,h2,h3⟩,ha,hr⟩ | ⟨e1,a1,h1,rfl⟩⟩
 case inr=>
  have H1:=AA h1;have HK:=AA hk;clear h1 hk
  go_wp2_with fail
  exact⟨rfl,HK.out,.inr ⟨_,_,H1.out,rfl⟩⟩
 have HK:=AA hk;have HA:=AA ha;have HR:=AA hr;have H3:=AA h3
 clear hk ha hr h2 h3
 go_wp2_with fail
 refine(bn _ s most (by have:=H3.out;omega) p w1).mono ?_
 rintro e w2 ⟨hb2,⟨h0,rfl⟩ | ⟨h0,rfl⟩⟩
 ·have H0:=AA h0;have HB2:=AA hb2;clear h0 hb2
  go_wp2_with fail
  go_ret
  exact⟨HK.out.all HB2.out,.inl ⟨_,EX s,q,rfl,⟨s,rfl,rfl,H0.out,H3.out⟩,HA.out,HR.out.Ej HB2.out⟩⟩
 ·have H0:=AA h0;have HB2:=AA hb2;clear h0 hb2
  go_wp2_with fail
  exact⟨rfl,HK.out.all HB2.out,.inr ⟨_,_,H0.out,rfl⟩⟩
theorem Zo (hI:UJ w B l A n c) (hb:Rg w rg og all A n c p) (hp:p≤l.length) (hB:B≤rg):
 Calls prog 104 #[.pointer (some ⟨rg,0,none⟩)] w (kX l w rg og all A n c p fun v bs=> ∃x:UInt8,v= .int .u8 (x.toNat:Int)∧bs= [x]):=by
 have HI:=AA hI;have HB:=AA hb;have hlt:=AL.lt hb
 have c2:w.cell? ⟨rg,2,none⟩=some (.slice A n c):=AL.cell hb 2
 have c3:w.cell? ⟨rg,3,none⟩=some (.int .i64 p):=AL.cell hb 3
 have f3:=AL.frozen hb 3
 by_cases hpl:p<l.length
 case neg=>
  have hd:decide (p<n)=false:=decide_eq_false (by have:=hI.len;omega)
  clear hI hb hp hpl
  go_enter func104,ntmps104
  go_wp2_with fail
  refine wp_region_held_drew (S:=fun W=>W.cell? ⟨rg,2,none⟩=some (.slice A n c)∧W.cell? ⟨rg,3,none⟩=some (.int .i64 p)) (by kernel_rfl) ⟨c2,c3⟩ (fun hHeld=> ?_)
  refine AB (i:=0) (v:= ?_) rfl (by kernel_rfl) (fun _ _ _ h=>h) (by intro w hSw;(try dsimp only at hSw);go_simp;try with_reducible rfl) hHeld ?_
  refine AB (i:=1) (v:= ?_) rfl (by kernel_rfl) (fun _ _ _ h=>h) (by intro w hSw;(try dsimp only at hSw);go_simp;try with_reducible rfl) hHeld ?_
  refine AB (i:=2) (v:= ?_) rfl (by kernel_rfl) (fun _ _ _ h=>h) (by intro w hSw;(try dsimp only at hSw);go_simp;try with_reducible rfl) hHeld ?_
  refine AB (i:=3) (v:= ?_) rfl (by kernel_rfl) (fun _ _ _ h=>h) (by intro w hSw;(try dsimp only at hSw);go_simp;try with_reducible rfl) hHeld ?_
  refine AB (i:=4) (v:= ?_) rfl (by kernel_rfl) (fun _ _ _ h=>h) (by intro w hSw;(try dsimp only at hSw);go_simp;try with_reducible rfl) hHeld ?_
  refine AB (i:=5) (v:= ?_) rfl (by kernel_rfl) (fun _ _ _ h=>h) (by intro w hSw;(try dsimp only at hSw);go_simp;try with_reducible rfl) hHeld ?_
  refine AB (i:=6) (v:= ?_) rfl (by kernel_rfl) (fun _ _ _ h=>h) (by intro w hSw;(try dsimp only at hSw);go_simp;try with_reducible rfl) hHeld ?_
  refine AB (i:=7) (v:= ?_) rfl (by kernel_rfl) (fun _ _ _ h=>h) (by intro w hSw;(try dsimp only at hSw);go_simp;try with_reducible rfl) hHeld ?_
  refine AB (i:=8) (v:= ?_) rfl (by kernel_rfl) (fun _ _ _ h=>h) (by intro w hSw;(try dsimp only at hSw);go_simp;try with_reducible rfl) hHeld ?_
  refine AB (i:=9) (v:= ?_) rfl (by kernel_rfl) (fun _ _ _ h=>h) (by intro w hSw;(try dsimp only at hSw);go_simp;try with_reducible rfl) hHeld ?_
  refine AB (i:=10) (v:= ?_) rfl (by kernel_rfl) (fun _ _ _ h=>h) (by intro w hSw;(try dsimp only at hSw);go_simp;try with_reducible rfl) hHeld ?_
  refine AB (i:=11) (v:= ?_) rfl (by kernel_rfl) (fun _ _ _ h=>h) (by intro w hSw;(try dsimp only at hSw);go_simp;try with_reducible rfl) hHeld ?_
  refine AB (i:=12) (v:= ?_) rfl (by kernel_rfl) (fun _ _ _ h=>h) (by intro w hSw;(try dsimp only at hSw);go_simp;try with_reducible rfl) hHeld ?_
  refine AB (i:=13) (v:= ?_) rfl (by kernel_rfl) (fun _ _ _ h=>h) (by intro w hSw;(try dsimp only at hSw);go_simp;try with_reducible rfl) hHeld ?_
  refine wpAnyH_ready (rs:= [14]) (by kernel_rfl) (by simp) ?_
  refine AllReadyH.cons rfl (fun K hK=> ?_) AllReadyH.nil
  go_simp
  go_at_call 68
  refine(Ah _ _ _).mono ?_
  rintro e w' ⟨rfl,rfl⟩
  exact⟨rfl,(Keep.refl _ _).drewN 1,.inr ⟨_,_,by decide,rfl⟩⟩
 obtain⟨x,hx⟩: ∃x,l[p]?=some x:=⟨_,List.getElem?_eq_getElem hpl⟩
 have hd:decide (p<n)=true:=decide_eq_true (by have:=hI.len;omega)
 have HX:=AA (Zm hx)
 obtain⟨g,o,rfl,hg,hc⟩: ∃g o,A=some ⟨g,o,none⟩∧g<B∧w.cell? ⟨g,o+p,none⟩=some (.int .u8 (x.toNat:Int)):=by
  obtain⟨g,o,h1,h2,h3⟩:=Row.at hI.row (j:=p) (u:=bv x) (by rw [List.getElem?_map,hx];rfl)
  exact⟨g,o,h1,h2,h3⟩
 have hpn:(p:Int)<n:=by have:=hI.len;omega
 have hp0:(0:Int)≤p:=by omega
 have zL:p<65536:=by have:=hI.le;omega
 have hw1:IntKind.i64.wrap ((p:Int)+1)=((p+1:Nat):Int):=by have:=hI.len;have:=hI.le;rw [IntKind.wrap_i64];omega
 clear hI hb hp hpl hx
 go_enter func104,ntmps104
 go_wp2_with fail
 go_region_held3 (fun w'=>w'.cell? ⟨rg,2,none⟩=some (.slice (some ⟨g,o,none⟩) n c)∧w'.cell? ⟨rg,3,none⟩=some (.int .i64 p)) (first | exact⟨c2,c3⟩)
  (first | (go_at_call 68;refine(Af _ _ _).mono ?_;rintro e w' ⟨rfl,rfl⟩))
 go_wp2_with fail
 generalize hw2:w.setCell _ _=w2
 have HK:Hid (Keep (fun k=>k≠rg) w w2):=AA (by rw [←hw2];exact(Keep.refl _ _).setCell (fun h=>h rfl) _)
 have HG:Hid (Rg w2 rg og all (some ⟨g,o,none⟩) n c ((p+1:Nat):Int)):=AA (by rw [←hw2];exact HB.out.go (p+1))
 have d2:w2.cell? ⟨rg,2,none⟩=some (.slice (some ⟨g,o,none⟩) n c):=AL.cell HG.out 2
 have d3:w2.cell? ⟨rg,3,none⟩=some (.int .i64 ((p:Int)+1)):=AL.cell HG.out 3
 have dg:w2.cell? ⟨g,o+p,none⟩=some (.int .u8 (x.toNat:Int)):=by rw [←hw2,cell_far w _ (show g≠rg by omega)];exact hc
 have hw3:IntKind.i64.wrap ((p:Int)+1-1)=(p:Int):=by rw [IntKind.wrap_i64];omega
 have hw4:IntKind.i64.wrap (p:Int)=(p:Int):=by rw [IntKind.wrap_i64];omega
 clear hw2 c2 c3 f3 hc
 go_region_held3 (fun w'=>w'.cell? ⟨rg,2,none⟩=some (.slice (some ⟨g,o,none⟩) n c)∧w'.cell? ⟨rg,3,none⟩=some (.int .i64 ((p:Int)+1))∧w'.cell? ⟨g,o+p,none⟩=some (.int .u8 (x.toNat:Int))) (first | exact⟨d2,d3,dg⟩) (fail)
 go_wp2_with fail
 go_ret
 exact⟨HK.out.drew.drew,.inl ⟨_,[x],p+1,rfl,⟨x,rfl,rfl⟩,HX.out,HG.out⟩⟩
end
theorem Gc.Vd {α:Type} {r:Rd α} {e:TypeId} {B:Nat} {S S':Nat→Prop} {A:Option Addr} {n c:Nat} {cells:List Value} {xs:List α} {w0 w3 w4:World} {rg:Nat} (h:Gc r e B S w0 A n c cells xs) (hb:Keep (fun k=>k≠rg) w0 w3) (hrg:rg<B) (hB:B≤w0.heap.size) {A':Option Addr} {c' lo hi:Nat} {cs:List Value} {x:α} (hr:r.R w3 lo hi cs x) (hlo:w0.heap.size≤lo) (hhi:hi≤w3.heap.size)
 (ho:w4.ownsRow B e r.z (.slice A' (n+1) c') (n+1) (cells++cs)) (hg:w3.grownBy w4 (Value.slice A n c).ownBlock) (hat:(Value.slice A' (n+1) c').ownBlock=(Value.slice A n c).ownBlock∨(Value.slice A' (n+1) c').ownBlock=some w3.heap.size)
 (hS: ∀k,k<w0.heap.size→S k→S' k) (hnew: ∀k,w0.heap.size≤k→S' k):Gc r e B S' w4 A' (n+1) c' (cells++cs) (xs++ [x]):=by
 have hl:cells.length=n*r.z:=h.own.1
 have hcs:cs.length=r.z:=r.len hr
 have mW: ∀ {lo hi:Nat},hi≤w3.heap.size→(∀g,(Value.slice A n c).ownBlock=some g→g<lo∨hi≤g)→ ∀g,(Value.slice A' (n+1) c').ownBlock=some g→g<lo∨hi≤g:=fun hh ha g hg'=>by
  rcases hat with h1 | h1
  ·exact ha g (h1▸hg')
  ·rw [h1] at hg';injection hg' with hg';right;omega
 refine⟨ho,by rw [List.length_append,←h.len];rfl,fun g hg'=> ?_,fun k y hk=> ?_⟩
 ·rcases hat with h1 | h1
  ·have h2:=h1▸hg'
   exact hS g (h.lt g h2).2 (h.at_ g h2)
  ·rw [h1] at hg';injection hg' with hg'
   exact hnew g (by have:=hb.size;omega)
 rw [List.getElem?_append] at hk
 split at hk
 ·rename_i hlt
  obtain⟨l1,h1,g1,g2,g3,g5,g4⟩:=h.els k y hk
  have g2':h1≤w3.heap.size:=Nat.le_trans g2 hb.size
  refine⟨l1,h1,g1,Nat.le_trans g2' hg.size,mW g2' g3,fun g ha hb'=>hS g (by omega) (g5 g ha hb'),?_⟩
  have hkn:k*r.z+r.z≤cells.length:=by
   rw [hl,←Nat.succ_mul]
   exact Nat.mul_le_mul_right _ (by rw [h.len];exact hlt)
  rw [List.drop_append_of_le_length (by omega),List.take_append_of_le_length (by rw [List.length_drop];omega)]
  exact r.grown (Rd.GX g4 hb g2 (fun k h1 h2=>by omega)) hg g2' g3
 ·rename_i hge
  have hk0:k=xs.length:=by
   have:=(List.getElem?_eq_some_iff.1 hk).1
   simp at this;omega
  subst hk0
  rw [Nat.sub_self] at hk
  simp at hk
  subst hk
  have hown: ∀g,(Value.slice A n c).ownBlock=some g→g<lo∨hi≤g:=fun g hg'=> .inl (by have:=(h.lt g hg').2;omega)
  refine⟨lo,hi,by omega,Nat.le_trans hhi hg.size,mW hhi hown,fun g ha hb'=>hnew g (by omega),?_⟩
  rw [←h.len,←hl,List.drop_left' rfl,←hcs,List.take_length]
  exact r.grown hr hg hhi hown
structure DS (B og rg:Nat) (Z:Nat→Prop) (W:World) (col:Nat→Nat) (v1 v2 v3 v6 v7 v8:Value) (m:AP) (all:Int) (A:Option Addr) (n c p:Nat):Prop where
 out:AL W og 29 [v1,v2,v3,.int .i64 m.first,.int .i64 m.most,v6,v7,v8]
 rd:Rg W rg og all A n c p
 six:Ur B col W v1 v2 v3 v6 v7 v8 m
 l1:og<B
 l2:rg<B
 ne:og≠rg
 top:B≤W.heap.size
 zz: ∀k,Z k→B≤k→col k=0
 zl: ∀k,Z k→k<W.heap.size
def KD (B og rg:Nat) (Z:Nat→Prop) (k:Nat):Prop:=(k<B∨Z k)∧k≠og∧k≠rg
section
variable {B og rg:Nat} {Z:Nat→Prop} {w w3 w4:World} {col:Nat→Nat} {v1 v2 v3 v6 v7 v8:Value} {m:AP} {all:Int} {n c p:Nat} {A:Option Addr}
theorem DS.read (h:DS B og rg Z w col v1 v2 v3 v6 v7 v8 m all A n c p) (hk:Keep (fun k=>k≠rg) w w3) {all':Int} {q:Nat} (hr:Rg w3 rg og all' A n c q) (Z':Nat→Prop) (hz: ∀k,Z' k→Z k∨(w.heap.size≤k∧k<w3.heap.size)):
 DS B og rg Z' w3 (Dy w col 0) v1 v2 v3 v6 v7 v8 m all' A n c q:=
 ⟨h.out.keep hk h.ne,hr,h.six.keep hk (fun k hB _ _=>by have:=h.l2;omega) _ (fun k hk _=>AV hk rfl),h.l1,h.l2,h.ne,Nat.le_trans h.top hk.size,
  fun k hZ hB=>by
   rcases hz k hZ with h1 | h1
   ·exact AV (h.zl k h1) (h.zz k h1 hB)
   ·exact EY h1.1,
  fun k hZ=>by
   rcases hz k hZ with h1 | h1
   ·exact Nat.lt_of_lt_of_le (h.zl k h1) hk.size
   ·exact h1.2⟩
theorem DS.below (h:DS B og rg Z w col v1 v2 v3 v6 v7 v8 m all A n c p) (hb:Below w.heap.size w w3):DS B og rg Z w3 (Dy w col 0) v1 v2 v3 v6 v7 v8 m all A n c p:=
 h.read (Keep.Aq hb) (h.rd.Ej hb) Z (fun k h=> .inl h)
theorem DS.less {Z':Nat→Prop} (h:DS B og rg Z w col v1 v2 v3 v6 v7 v8 m all A n c p) (hz: ∀k,Z' k→Z k):DS B og rg Z' w col v1 v2 v3 v6 v7 v8 m all A n c p:=
 ⟨h.out,h.rd,h.six,h.l1,h.l2,h.ne,h.top,fun k hk=>h.zz k (hz k hk),fun k hk=>h.zl k (hz k hk)⟩
theorem Keep.kd {Z:Nat→Prop} {w w':World} (h:Keep (fun k=>k≠rg) w w'):Keep (KD B og rg Z) w w':=h.mono fun k hk=>hk.2.2
theorem DS.first (h:DS B og rg Z w col v1 v2 v3 v6 v7 v8 m all A n c p) (x:Int):Keep (KD B og rg Z) w (w.setCell ⟨og,3,none⟩ (.int .i64 x))∧DS B og rg Z (w.setCell ⟨og,3,none⟩ (.int .i64 x)) col v1 v2 v3 v6 v7 v8 {m with first:=x} all A n c p:=by
 have hk:Keep (fun k=>k≠og) w (w.setCell ⟨og,3,none⟩ (.int .i64 x)):=(Keep.refl _ _).setCell (fun e=>e rfl) _
 have:=h.l1
 exact⟨hk.mono fun k h=>h.2.1,h.out.set 3 _,AL.keep h.rd hk (fun e=>h.ne e.symm),let s:=h.six.keep hk (fun k hB _ _=>by omega) col (fun k _ _=>rfl);⟨s.p1,s.p2,s.p3,s.p6,s.p7,s.p8⟩,h.l1,h.l2,h.ne,Nat.le_trans h.top hk.size,h.zz,fun k hk'=>Nat.lt_of_lt_of_le (h.zl k hk') hk.size⟩
theorem DS.most (h:DS B og rg Z w col v1 v2 v3 v6 v7 v8 m all A n c p) (x:Int):Keep (KD B og rg Z) w (w.setCell ⟨og,4,none⟩ (.int .i64 x))∧DS B og rg Z (w.setCell ⟨og,4,none⟩ (.int .i64 x)) col v1 v2 v3 v6 v7 v8 {m with most:=x} all A n c p:=by
 have hk:Keep (fun k=>k≠og) w (w.setCell ⟨og,4,none⟩ (.int .i64 x)):=(Keep.refl _ _).setCell (fun e=>e rfl) _
 have:=h.l1
 exact⟨hk.mono fun k h=>h.2.1,h.out.set 4 _,AL.keep h.rd hk (fun e=>h.ne e.symm),let s:=h.six.keep hk (fun k hB _ _=>by omega) col (fun k _ _=>rfl);⟨s.p1,s.p2,s.p3,s.p6,s.p7,s.p8⟩,h.l1,h.l2,h.ne,Nat.le_trans h.top hk.size,h.zz,fun k hk'=>Nat.lt_of_lt_of_le (h.zl k hk') hk.size⟩
theorem KC {b rg:Nat} {w w3 w4:World} {v:Value} (hb:Keep (fun k=>k≠rg) w w3) (hv: ∀k,v.ownBlock=some k→k<w.heap.size) (hg:w3.grownBy w4 v.ownBlock) (p:Nat) (u:Value):Keep (fun k=>k≠b∧k≠rg∧v.ownBlock≠some k) w (w4.setCell ⟨b,p,none⟩ u):=
 ((hb.mono (K':=fun k=>k≠b∧k≠rg∧v.ownBlock≠some k) (fun k h=>h.2.1)).grown hg (fun k hk h=>h.2.2 hk)).setCell (p:=⟨b,p,none⟩) (fun h=>h.1 rfl) u
theorem DS.eF {A0:Option Addr} {c0:Nat} {cells:List Value} (h:DS B og rg Z w col (.slice A0 m.types.length c0) v2 v3 v6 v7 v8 m all A n c p) (hP:Gc LD 51 B (fun k=>col k=1) w A0 m.types.length c0 cells m.types)
 (hb:Keep (fun k=>k≠rg) w w3) {all':Int} {q:Nat} (hr3:Rg w3 rg og all' A n c q) {A':Option Addr} {c' lo hi:Nat} {cs:List Value} {x:DI} (hr:LD.R w3 lo hi cs x) (hlo:w.heap.size≤lo) (hhi:hi≤w3.heap.size)
 (ho:w4.ownsRow B 51 LD.z (.slice A' (m.types.length+1) c') (m.types.length+1) (cells++cs)) (hg:w3.grownBy w4 (Value.slice A0 m.types.length c0).ownBlock) (hat:(Value.slice A' (m.types.length+1) c').ownBlock=(Value.slice A0 m.types.length c0).ownBlock∨(Value.slice A' (m.types.length+1) c').ownBlock=some w3.heap.size):
 Keep (KD B og rg Z) w (w4.setCell ⟨og,0,none⟩ (.slice A' (m.types.length+1) c'))∧DS B og rg Z (w4.setCell ⟨og,0,none⟩ (.slice A' (m.types.length+1) c')) (Dy w col 1) (.slice A' (m.types.length+1) c') v2 v3 v6 v7 v8 {m with types:=m.types++ [x]} all' A n c q:=by
 have hown:=hP.lt
 have hB:=h.top
 have hl1:=h.l1
 have hl2:=h.l2
 have hK:=KC (b:=og) hb (fun k hk=>(hown k hk).2) hg 0 (.slice A' (m.types.length+1) c')
 have hsn:=hP.Vd hb hl2 hB hr hlo hhi ho hg hat (S':=fun k=>Dy w col 1 k=1) (fun k hk e=>AV hk e) (fun k hk=>EY hk)
 have h5:Keep (fun k=>k≠og) w4 (w4.setCell ⟨og,0,none⟩ (.slice A' (m.types.length+1) c')):=(Keep.refl _ w4).setCell (p:=⟨og,0,none⟩) (fun e=>e rfl) _
 have hl:(m.types++ [x]).length=m.types.length+1:=by rw [List.length_append];rfl
 have Ml:J6 LD 51 B (fun k=>Dy w col 1 k=1) (w4.setCell ⟨og,0,none⟩ (.slice A' (m.types.length+1) c')) (.slice A' (m.types.length+1) c') (m.types++ [x]):=
  ⟨A',c',_,by rw [hl],by rw [hl];exact hsn.keep h5 (fun k hk _ _=>by omega) (fun k _ e=>e)⟩
 have Mq:=h.six.AAs hK (fun k UA hk h1 _=>⟨by omega,by omega,fun e=>h1 (hP.at_ k e)⟩) Ml
 have hbl:AL w4 og 29 [.slice A0 m.types.length c0,v2,v3,.int .i64 m.first,.int .i64 m.most,v6,v7,v8]:=(hg.block og (Nat.lt_of_lt_of_le h.out.lt hb.size) (fun e=>by have:=(hown og e.symm).1;omega)).trans (h.out.keep hb h.ne)
 have hrg:Rg w4 rg og all' A n c q:=(hg.block rg hr3.lt (fun e=>by have:=(hown rg e.symm).1;omega)).trans hr3
 refine⟨hK.mono fun k hk=>⟨hk.2.1,hk.2.2,fun e=> ?_⟩,hbl.set 0 _,AL.keep hrg h5 (fun e=>h.ne e.symm),Mq,hl1,hl2,h.ne,Nat.le_trans hB hK.size,fun k hZ UA=>AV (h.zl k hZ) (h.zz k hZ UA),fun k hZ=>Nat.lt_of_lt_of_le (h.zl k hZ) hK.size⟩
 have h1:=hP.at_ k e
 have h2:=(hown k e).1
 rcases hk.1 with h3 | h3
 ·omega
 ·have h4:=h.zz k h3 h2
  rw [h4] at h1
  cases h1
theorem DS.Y3 {A0:Option Addr} {c0:Nat} {cells:List Value} (h:DS B og rg Z w col v1 (.slice A0 m.hosts.length c0) v3 v6 v7 v8 m all A n c p) (hP:Gc Rd.i64 3 B (fun k=>col k=2) w A0 m.hosts.length c0 cells m.hosts)
 (hb:Keep (fun k=>k≠rg) w w3) {all':Int} {q:Nat} (hr3:Rg w3 rg og all' A n c q) {A':Option Addr} {c' lo hi:Nat} {cs:List Value} {x:Int} (hr:Rd.i64.R w3 lo hi cs x) (hlo:w.heap.size≤lo) (hhi:hi≤w3.heap.size)
 (ho:w4.ownsRow B 3 Rd.i64.z (.slice A' (m.hosts.length+1) c') (m.hosts.length+1) (cells++cs)) (hg:w3.grownBy w4 (Value.slice A0 m.hosts.length c0).ownBlock) (hat:(Value.slice A' (m.hosts.length+1) c').ownBlock=(Value.slice A0 m.hosts.length c0).ownBlock∨(Value.slice A' (m.hosts.length+1) c').ownBlock=some w3.heap.size):
 Keep (KD B og rg Z) w (w4.setCell ⟨og,1,none⟩ (.slice A' (m.hosts.length+1) c'))∧DS B og rg Z (w4.setCell ⟨og,1,none⟩ (.slice A' (m.hosts.length+1) c')) (Dy w col 2) v1 (.slice A' (m.hosts.length+1) c') v3 v6 v7 v8 {m with hosts:=m.hosts++ [x]} all' A n c q:=by
 have hown:=hP.lt
 have hB:=h.top
 have hl1:=h.l1
 have hl2:=h.l2
 have hK:=KC (b:=og) hb (fun k hk=>(hown k hk).2) hg 1 (.slice A' (m.hosts.length+1) c')
 have hsn:=hP.Vd hb hl2 hB hr hlo hhi ho hg hat (S':=fun k=>Dy w col 2 k=2) (fun k hk e=>AV hk e) (fun k hk=>EY hk)
 have h5:Keep (fun k=>k≠og) w4 (w4.setCell ⟨og,1,none⟩ (.slice A' (m.hosts.length+1) c')):=(Keep.refl _ w4).setCell (p:=⟨og,1,none⟩) (fun e=>e rfl) _
 have hl:(m.hosts++ [x]).length=m.hosts.length+1:=by rw [List.length_append];rfl
 have Ml:J6 Rd.i64 3 B (fun k=>Dy w col 2 k=2) (w4.setCell ⟨og,1,none⟩ (.slice A' (m.hosts.length+1) c')) (.slice A' (m.hosts.length+1) c') (m.hosts++ [x]):=
  ⟨A',c',_,by rw [hl],by rw [hl];exact hsn.keep h5 (fun k hk _ _=>by omega) (fun k _ e=>e)⟩
 have Mq:=h.six.AAt hK (fun k UA hk h1 _=>⟨by omega,by omega,fun e=>h1 (hP.at_ k e)⟩) Ml
 have hbl:AL w4 og 29 [v1,.slice A0 m.hosts.length c0,v3,.int .i64 m.first,.int .i64 m.most,v6,v7,v8]:=(hg.block og (Nat.lt_of_lt_of_le h.out.lt hb.size) (fun e=>by have:=(hown og e.symm).1;omega)).trans (h.out.keep hb h.ne)
 have hrg:Rg w4 rg og all' A n c q:=(hg.block rg hr3.lt (fun e=>by have:=(hown rg e.symm).1;omega)).trans hr3
 refine⟨hK.mono fun k hk=>⟨hk.2.1,hk.2.2,fun e=> ?_⟩,hbl.set 1 _,AL.keep hrg h5 (fun e=>h.ne e.symm),Mq,hl1,hl2,h.ne,Nat.le_trans hB hK.size,fun k hZ UA=>AV (h.zl k hZ) (h.zz k hZ UA),fun k hZ=>Nat.lt_of_lt_of_le (h.zl k hZ) hK.size⟩
 have h1:=hP.at_ k e
 have h2:=(hown k e).1
 rcases hk.1 with h3 | h3
 ·omega
 ·have h4:=h.zz k h3 h2
  rw [h4] at h1
  cases h1
theorem DS.Uu {A0:Option Addr} {c0:Nat} {cells:List Value} (h:DS B og rg Z w col v1 v2 (.slice A0 m.globs.length c0) v6 v7 v8 m all A n c p) (hP:Gc Jf 82 B (fun k=>col k=3) w A0 m.globs.length c0 cells m.globs)
 (hb:Keep (fun k=>k≠rg) w w3) {all':Int} {q:Nat} (hr3:Rg w3 rg og all' A n c q) {A':Option Addr} {c' lo hi:Nat} {cs:List Value} {x:EJ} (hr:Jf.R w3 lo hi cs x) (hlo:w.heap.size≤lo) (hhi:hi≤w3.heap.size)
 (ho:w4.ownsRow B 82 Jf.z (.slice A' (m.globs.length+1) c') (m.globs.length+1) (cells++cs)) (hg:w3.grownBy w4 (Value.slice A0 m.globs.length c0).ownBlock) (hat:(Value.slice A' (m.globs.length+1) c').ownBlock=(Value.slice A0 m.globs.length c0).ownBlock∨(Value.slice A' (m.globs.length+1) c').ownBlock=some w3.heap.size):
 Keep (KD B og rg Z) w (w4.setCell ⟨og,2,none⟩ (.slice A' (m.globs.length+1) c'))∧DS B og rg Z (w4.setCell ⟨og,2,none⟩ (.slice A' (m.globs.length+1) c')) (Dy w col 3) v1 v2 (.slice A' (m.globs.length+1) c') v6 v7 v8 {m with globs:=m.globs++ [x]} all' A n c q:=by
 have hown:=hP.lt
 have hB:=h.top
 have hl1:=h.l1
 have hl2:=h.l2
 have hK:=KC (b:=og) hb (fun k hk=>(hown k hk).2) hg 2 (.slice A' (m.globs.length+1) c')
 have hsn:=hP.Vd hb hl2 hB hr hlo hhi ho hg hat (S':=fun k=>Dy w col 3 k=3) (fun k hk e=>AV hk e) (fun k hk=>EY hk)
 have h5:Keep (fun k=>k≠og) w4 (w4.setCell ⟨og,2,none⟩ (.slice A' (m.globs.length+1) c')):=(Keep.refl _ w4).setCell (p:=⟨og,2,none⟩) (fun e=>e rfl) _
 have hl:(m.globs++ [x]).length=m.globs.length+1:=by rw [List.length_append];rfl
 have Ml:J6 Jf 82 B (fun k=>Dy w col 3 k=3) (w4.setCell ⟨og,2,none⟩ (.slice A' (m.globs.length+1) c')) (.slice A' (m.globs.length+1) c') (m.globs++ [x]):=
  ⟨A',c',_,by rw [hl],by rw [hl];exact hsn.keep h5 (fun k hk _ _=>by omega) (fun k _ e=>e)⟩
 have Mq:=h.six.AAu hK (fun k UA hk h1 _=>⟨by omega,by omega,fun e=>h1 (hP.at_ k e)⟩) Ml
 have hbl:AL w4 og 29 [v1,v2,.slice A0 m.globs.length c0,.int .i64 m.first,.int .i64 m.most,v6,v7,v8]:=(hg.block og (Nat.lt_of_lt_of_le h.out.lt hb.size) (fun e=>by have:=(hown og e.symm).1;omega)).trans (h.out.keep hb h.ne)
 have hrg:Rg w4 rg og all' A n c q:=(hg.block rg hr3.lt (fun e=>by have:=(hown rg e.symm).1;omega)).trans hr3
 refine⟨hK.mono fun k hk=>⟨hk.2.1,hk.2.2,fun e=> ?_⟩,hbl.set 2 _,AL.keep hrg h5 (fun e=>h.ne e.symm),Mq,hl1,hl2,h.ne,Nat.le_trans hB hK.size,fun k hZ UA=>AV (h.zl k hZ) (h.zz k hZ UA),fun k hZ=>Nat.lt_of_lt_of_le (h.zl k hZ) hK.size⟩
 have h1:=hP.at_ k e
 have h2:=(hown k e).1
 rcases hk.1 with h3 | h3
 ·omega
 ·have h4:=h.zz k h3 h2
  rw [h4] at h1
  cases h1
theorem DS.eG {A0:Option Addr} {c0:Nat} {cells:List Value} (h:DS B og rg Z w col v1 v2 v3 (.slice A0 m.fns.length c0) v7 v8 m all A n c p) (hP:Gc Rt 56 B (fun k=>col k=6) w A0 m.fns.length c0 cells m.fns)
 (hb:Keep (fun k=>k≠rg) w w3) {all':Int} {q:Nat} (hr3:Rg w3 rg og all' A n c q) {A':Option Addr} {c' lo hi:Nat} {cs:List Value} {x:GR} (hr:Rt.R w3 lo hi cs x) (hlo:w.heap.size≤lo) (hhi:hi≤w3.heap.size)
 (ho:w4.ownsRow B 56 Rt.z (.slice A' (m.fns.length+1) c') (m.fns.length+1) (cells++cs)) (hg:w3.grownBy w4 (Value.slice A0 m.fns.length c0).ownBlock) (hat:(Value.slice A' (m.fns.length+1) c').ownBlock=(Value.slice A0 m.fns.length c0).ownBlock∨(Value.slice A' (m.fns.length+1) c').ownBlock=some w3.heap.size):
 Keep (KD B og rg Z) w (w4.setCell ⟨og,5,none⟩ (.slice A' (m.fns.length+1) c'))∧DS B og rg Z (w4.setCell ⟨og,5,none⟩ (.slice A' (m.fns.length+1) c')) (Dy w col 6) v1 v2 v3 (.slice A' (m.fns.length+1) c') v7 v8 {m with fns:=m.fns++ [x]} all' A n c q:=by
 have hown:=hP.lt
 have hB:=h.top
 have hl1:=h.l1
 have hl2:=h.l2
 have hK:=KC (b:=og) hb (fun k hk=>(hown k hk).2) hg 5 (.slice A' (m.fns.length+1) c')
 have hsn:=hP.Vd hb hl2 hB hr hlo hhi ho hg hat (S':=fun k=>Dy w col 6 k=6) (fun k hk e=>AV hk e) (fun k hk=>EY hk)
 have h5:Keep (fun k=>k≠og) w4 (w4.setCell ⟨og,5,none⟩ (.slice A' (m.fns.length+1) c')):=(Keep.refl _ w4).setCell (p:=⟨og,5,none⟩) (fun e=>e rfl) _
 have hl:(m.fns++ [x]).length=m.fns.length+1:=by rw [List.length_append];rfl
 have Ml:J6 Rt 56 B (fun k=>Dy w col 6 k=6) (w4.setCell ⟨og,5,none⟩ (.slice A' (m.fns.length+1) c')) (.slice A' (m.fns.length+1) c') (m.fns++ [x]):=
  ⟨A',c',_,by rw [hl],by rw [hl];exact hsn.keep h5 (fun k hk _ _=>by omega) (fun k _ e=>e)⟩
 have Mq:=h.six.put6 hK (fun k UA hk h1 _=>⟨by omega,by omega,fun e=>h1 (hP.at_ k e)⟩) Ml
 have hbl:AL w4 og 29 [v1,v2,v3,.int .i64 m.first,.int .i64 m.most,.slice A0 m.fns.length c0,v7,v8]:=(hg.block og (Nat.lt_of_lt_of_le h.out.lt hb.size) (fun e=>by have:=(hown og e.symm).1;omega)).trans (h.out.keep hb h.ne)
 have hrg:Rg w4 rg og all' A n c q:=(hg.block rg hr3.lt (fun e=>by have:=(hown rg e.symm).1;omega)).trans hr3
 refine⟨hK.mono fun k hk=>⟨hk.2.1,hk.2.2,fun e=> ?_⟩,hbl.set 5 _,AL.keep hrg h5 (fun e=>h.ne e.symm),Mq,hl1,hl2,h.ne,Nat.le_trans hB hK.size,fun k hZ UA=>AV (h.zl k hZ) (h.zz k hZ UA),fun k hZ=>Nat.lt_of_lt_of_le (h.zl k hZ) hK.size⟩
 have h1:=hP.at_ k e
 have h2:=(hown k e).1
 rcases hk.1 with h3 | h3
 ·omega
 ·have h4:=h.zz k h3 h2
  rw [h4] at h1
  cases h1
theorem DS.Y4 {A0:Option Addr} {c0:Nat} {cells:List Value} (h:DS B og rg Z w col v1 v2 v3 v6 (.slice A0 m.dat.length c0) v8 m all A n c p) (hP:Gc JC 59 B (fun k=>col k=7) w A0 m.dat.length c0 cells m.dat)
 (hb:Keep (fun k=>k≠rg) w w3) {all':Int} {q:Nat} (hr3:Rg w3 rg og all' A n c q) {A':Option Addr} {c' lo hi:Nat} {cs:List Value} {x:EU} (hr:JC.R w3 lo hi cs x) (hlo:w.heap.size≤lo) (hhi:hi≤w3.heap.size)
 (ho:w4.ownsRow B 59 JC.z (.slice A' (m.dat.length+1) c') (m.dat.length+1) (cells++cs)) (hg:w3.grownBy w4 (Value.slice A0 m.dat.length c0).ownBlock) (hat:(Value.slice A' (m.dat.length+1) c').ownBlock=(Value.slice A0 m.dat.length c0).ownBlock∨(Value.slice A' (m.dat.length+1) c').ownBlock=some w3.heap.size):
 Keep (KD B og rg Z) w (w4.setCell ⟨og,6,none⟩ (.slice A' (m.dat.length+1) c'))∧DS B og rg Z (w4.setCell ⟨og,6,none⟩ (.slice A' (m.dat.length+1) c')) (Dy w col 7) v1 v2 v3 v6 (.slice A' (m.dat.length+1) c') v8 {m with dat:=m.dat++ [x]} all' A n c q:=by
 have hown:=hP.lt
 have hB:=h.top
 have hl1:=h.l1
 have hl2:=h.l2
 have hK:=KC (b:=og) hb (fun k hk=>(hown k hk).2) hg 6 (.slice A' (m.dat.length+1) c')
 have hsn:=hP.Vd hb hl2 hB hr hlo hhi ho hg hat (S':=fun k=>Dy w col 7 k=7) (fun k hk e=>AV hk e) (fun k hk=>EY hk)
 have h5:Keep (fun k=>k≠og) w4 (w4.setCell ⟨og,6,none⟩ (.slice A' (m.dat.length+1) c')):=(Keep.refl _ w4).setCell (p:=⟨og,6,none⟩) (fun e=>e rfl) _
 have hl:(m.dat++ [x]).length=m.dat.length+1:=by rw [List.length_append];rfl
 have Ml:J6 JC 59 B (fun k=>Dy w col 7 k=7) (w4.setCell ⟨og,6,none⟩ (.slice A' (m.dat.length+1) c')) (.slice A' (m.dat.length+1) c') (m.dat++ [x]):=
  ⟨A',c',_,by rw [hl],by rw [hl];exact hsn.keep h5 (fun k hk _ _=>by omega) (fun k _ e=>e)⟩
 have Mq:=h.six.AAv hK (fun k UA hk h1 _=>⟨by omega,by omega,fun e=>h1 (hP.at_ k e)⟩) Ml
 have hbl:AL w4 og 29 [v1,v2,v3,.int .i64 m.first,.int .i64 m.most,v6,.slice A0 m.dat.length c0,v8]:=(hg.block og (Nat.lt_of_lt_of_le h.out.lt hb.size) (fun e=>by have:=(hown og e.symm).1;omega)).trans (h.out.keep hb h.ne)
 have hrg:Rg w4 rg og all' A n c q:=(hg.block rg hr3.lt (fun e=>by have:=(hown rg e.symm).1;omega)).trans hr3
 refine⟨hK.mono fun k hk=>⟨hk.2.1,hk.2.2,fun e=> ?_⟩,hbl.set 6 _,AL.keep hrg h5 (fun e=>h.ne e.symm),Mq,hl1,hl2,h.ne,Nat.le_trans hB hK.size,fun k hZ UA=>AV (h.zl k hZ) (h.zz k hZ UA),fun k hZ=>Nat.lt_of_lt_of_le (h.zl k hZ) hK.size⟩
 have h1:=hP.at_ k e
 have h2:=(hown k e).1
 rcases hk.1 with h3 | h3
 ·omega
 ·have h4:=h.zz k h3 h2
  rw [h4] at h1
  cases h1
theorem DS.Y5 {A0:Option Addr} {c0:Nat} {cells:List Value} (h:DS B og rg Z w col v1 v2 v3 v6 v7 (.slice A0 m.AU.length c0) m all A n c p) (hP:Gc Lf 61 B (fun k=>col k=8) w A0 m.AU.length c0 cells m.AU)
 (hb:Keep (fun k=>k≠rg) w w3) {all':Int} {q:Nat} (hr3:Rg w3 rg og all' A n c q) {A':Option Addr} {c' lo hi:Nat} {cs:List Value} {x:Jy} (hr:Lf.R w3 lo hi cs x) (hlo:w.heap.size≤lo) (hhi:hi≤w3.heap.size)
 (ho:w4.ownsRow B 61 Lf.z (.slice A' (m.AU.length+1) c') (m.AU.length+1) (cells++cs)) (hg:w3.grownBy w4 (Value.slice A0 m.AU.length c0).ownBlock) (hat:(Value.slice A' (m.AU.length+1) c').ownBlock=(Value.slice A0 m.AU.length c0).ownBlock∨(Value.slice A' (m.AU.length+1) c').ownBlock=some w3.heap.size):
 Keep (KD B og rg Z) w (w4.setCell ⟨og,7,none⟩ (.slice A' (m.AU.length+1) c'))∧DS B og rg Z (w4.setCell ⟨og,7,none⟩ (.slice A' (m.AU.length+1) c')) (Dy w col 8) v1 v2 v3 v6 v7 (.slice A' (m.AU.length+1) c') {m with AU:=m.AU++ [x]} all' A n c q:=by
 have hown:=hP.lt
 have hB:=h.top
 have hl1:=h.l1
 have hl2:=h.l2
 have hK:=KC (b:=og) hb (fun k hk=>(hown k hk).2) hg 7 (.slice A' (m.AU.length+1) c')
 have hsn:=hP.Vd hb hl2 hB hr hlo hhi ho hg hat (S':=fun k=>Dy w col 8 k=8) (fun k hk e=>AV hk e) (fun k hk=>EY hk)
 have h5:Keep (fun k=>k≠og) w4 (w4.setCell ⟨og,7,none⟩ (.slice A' (m.AU.length+1) c')):=(Keep.refl _ w4).setCell (p:=⟨og,7,none⟩) (fun e=>e rfl) _
 have hl:(m.AU++ [x]).length=m.AU.length+1:=by rw [List.length_append];rfl
 have Ml:J6 Lf 61 B (fun k=>Dy w col 8 k=8) (w4.setCell ⟨og,7,none⟩ (.slice A' (m.AU.length+1) c')) (.slice A' (m.AU.length+1) c') (m.AU++ [x]):=
  ⟨A',c',_,by rw [hl],by rw [hl];exact hsn.keep h5 (fun k hk _ _=>by omega) (fun k _ e=>e)⟩
 have Mq:=h.six.AAw hK (fun k UA hk h1 _=>⟨by omega,by omega,fun e=>h1 (hP.at_ k e)⟩) Ml
 have hbl:AL w4 og 29 [v1,v2,v3,.int .i64 m.first,.int .i64 m.most,v6,v7,.slice A0 m.AU.length c0]:=(hg.block og (Nat.lt_of_lt_of_le h.out.lt hb.size) (fun e=>by have:=(hown og e.symm).1;omega)).trans (h.out.keep hb h.ne)
 have hrg:Rg w4 rg og all' A n c q:=(hg.block rg hr3.lt (fun e=>by have:=(hown rg e.symm).1;omega)).trans hr3
 refine⟨hK.mono fun k hk=>⟨hk.2.1,hk.2.2,fun e=> ?_⟩,hbl.set 7 _,AL.keep hrg h5 (fun e=>h.ne e.symm),Mq,hl1,hl2,h.ne,Nat.le_trans hB hK.size,fun k hZ UA=>AV (h.zl k hZ) (h.zz k hZ UA),fun k hZ=>Nat.lt_of_lt_of_le (h.zl k hZ) hK.size⟩
 have h1:=hP.at_ k e
 have h2:=(hown k e).1
 rcases hk.1 with h3 | h3
 ·omega
 ·have h4:=h.zz k h3 h2
  rw [h4] at h1
  cases h1
end
theorem Gc.far {α:Type} {r:Rd α} {e:TypeId} {B j:Nat} {col:Nat→Nat} {Z:Nat→Prop} {W:World} {A:Option Addr} {n c:Nat} {cells:List Value} {xs:List α} (h:Gc r e B (fun k=>col k=j) W A n c cells xs) (hj:j≠0) (hz: ∀k,Z k→B≤k→col k=0):
 ∀k,(Value.slice A n c).ownBlock=some k→B≤k∧k<W.heap.size∧ ¬Z k:=fun k hk=>
 ⟨(h.lt k hk).1,(h.lt k hk).2,fun hZ=>hj ((h.at_ k hk).symm.trans (hz k hZ (h.lt k hk).1))⟩
structure RC where
 l:List UInt8
 A:Option Addr
 n:Nat
 c:Nat
 Bi:Nat
 B:Nat
 og:Nat
 rg:Nat
 gr:Nat
 w0:World
 Z0:Nat→Prop
 Z:Nat→Prop
structure HR (R:RC) (W:World) (m:AP) (all:Int) (q:Nat):Prop where
 inp:UJ W R.Bi R.l R.A R.n R.c
 box:AL W R.gr 116 [.pointer (some ⟨R.rg,0,none⟩)]
 kp:Keep (KD R.B R.og R.rg R.Z0) R.w0 W
 i1:R.Bi≤R.og
 i2:R.Bi≤R.rg
 gB:R.B≤R.gr
 zg:R.Z R.gr
 z0: ∀k,R.Z0 k→R.Z k
 ds: ∃col v1 v2 v3 v6 v7 v8,DS R.B R.og R.rg R.Z W col v1 v2 v3 v6 v7 v8 m all R.A R.n R.c q
theorem Keep.qI {K:Nat→Prop} {w w':World} (h:Keep K w w') {p:Addr} (hp:w.heap.size≤p.block) (u:Value):Keep K w (w'.setCell p u):=by
 have h2:Keep (fun k=>K k∧k≠p.block) w' (w'.setCell p u):=(Keep.refl _ _).setCell (fun e=>e.2 rfl) u
 exact⟨h2.os.trans h.os,h2.tape.trans h.tape,h2.output.trans h.output,Nat.le_trans h.size h2.size,fun k hk hK=>(h2.block k (Nat.lt_of_lt_of_le hk h.size) ⟨hK,by omega⟩).trans (h.block k hk hK)⟩
section
variable {R:RC} {w w3:World} {m m':AP} {all all':Int} {q q':Nat}
theorem HR.rd (h:HR R w m all q):Rg w R.rg R.og all R.A R.n R.c q:=by
 obtain⟨_,_,_,_,_,_,_,d⟩:=h.ds
 exact d.rd
theorem HR.qJ (h:HR R w m all q):R.og<R.B:=by
 obtain⟨_,_,_,_,_,_,_,d⟩:=h.ds
 exact d.l1
theorem HR.kG (h:HR R w m all q):R.rg<R.B:=by
 obtain⟨_,_,_,_,_,_,_,d⟩:=h.ds
 exact d.l2
theorem HR.nog (h:HR R w m all q):R.og≠R.rg:=by
 obtain⟨_,_,_,_,_,_,_,d⟩:=h.ds
 exact d.ne
theorem HR.top (h:HR R w m all q):R.B≤w.heap.size:=by
 obtain⟨_,_,_,_,_,_,_,d⟩:=h.ds
 exact d.top
theorem HR.gl (h:HR R w m all q):R.gr<w.heap.size:=h.box.lt
theorem HR.out (h:HR R w m all q): ∃v1 v2 v3 v6 v7 v8,AL w R.og 29 [v1,v2,v3,.int .i64 m.first,.int .i64 m.most,v6,v7,v8]∧((LD.sl false).R w R.B w.heap.size [v1] m.types)∧((JC.sl false).R w R.B w.heap.size [v7] m.dat)∧((Lf.sl false).R w R.B w.heap.size [v8] m.AU)∧(∃A c,v1= .slice A m.types.length c∧m.types.length≤c)∧(∃A c,v6= .slice A m.fns.length c)∧(∃A c,v7= .slice A m.dat.length c)∧(∃A c,v8= .slice A m.AU.length c):=by
 obtain⟨_,v1,v2,v3,v6,v7,v8,d⟩:=h.ds
 refine⟨v1,v2,v3,v6,v7,v8,d.out,d.six.p1.reads,d.six.p7.reads,d.six.p8.reads,?_,?_,?_,?_⟩
 ·obtain⟨A,c,cs,rfl,hp⟩:=d.six.p1;exact⟨A,c,rfl,VA hp.own⟩
 ·obtain⟨A,c,cs,rfl,hp⟩:=d.six.p6;exact⟨A,c,rfl⟩
 ·obtain⟨A,c,cs,rfl,hp⟩:=d.six.p7;exact⟨A,c,rfl⟩
 ·obtain⟨A,c,cs,rfl,hp⟩:=d.six.p8;exact⟨A,c,rfl⟩
theorem HR.kH (h:HR R w m all q) {v:Value} (hf: ∀k,v.ownBlock=some k→R.B≤k∧k<w.heap.size∧ ¬R.Z k):v.ownBlock≠some R.gr∧v.ownBlock≠some R.rg∧v.ownBlock≠some R.og:=by
 have h1:=h.qJ;have h2:=h.kG
 exact⟨fun e=>(hf _ e).2.2 h.zg,fun e=>by have:=(hf _ e).1;omega,fun e=>by have:=(hf _ e).1;omega⟩
theorem HR.read (h:HR R w m all q) (hk:Keep (fun k=>k≠R.rg) w w3) (hr:Rg w3 R.rg R.og all' R.A R.n R.c q'):HR R w3 m all' q':=by
 obtain⟨col,v1,v2,v3,v6,v7,v8,d⟩:=h.ds
 have hlt:=d.rd.lt
 exact⟨h.inp.keep hk h.i2 hlt,AL.keep h.box hk (by have:=d.l2;have:=h.gB;omega),h.kp.trans hk.kd,h.i1,h.i2,h.gB,h.zg,h.z0,_,v1,v2,v3,v6,v7,v8,d.read hk hr R.Z (fun k hk=> .inl hk)⟩
theorem HR.below (h:HR R w m all q) (hb:Below w.heap.size w w3):HR R w3 m all q:=h.read (Keep.Aq hb) (h.rd.Ej hb)
structure Ao (R:RC) (w W:World) (all:Int) (q:Nat):Prop where
 kp:Keep (fun k=>k≠R.rg) w W
 rd:Rg W R.rg R.og all R.A R.n R.c q
theorem Ao.drew {W:World} (p:Ao R w W all q):Ao R w W.drew all q:=⟨p.kp.drew,p.rd⟩
theorem Ao.below {W W':World} (p:Ao R w W all q) (hb:Below W.heap.size W W'):Ao R w W' all q:=⟨p.kp.trans (Keep.Aq hb),p.rd.Ej hb⟩
theorem Ao.alloc {W:World} (p:Ao R w W all q) (o:Obj):Ao R w (W.alloc o) all q:=p.below ((Below.refl _ _).alloc (Nat.le_refl _) o)
theorem Ao.set {W:World} (p:Ao R w W all q) {a:Addr} (ha:w.heap.size≤a.block) (hr:a.block≠R.rg) (u:Value):Ao R w (W.setCell a u) all q:=
 ⟨p.kp.qI ha u,AL.keep p.rd ((Keep.refl (fun k=>k≠a.block) _).setCell (fun e=>e rfl) u) (fun e=>hr e.symm)⟩
theorem Ao.go {W:World} (p:Ao R w W all q) (q':Nat):Ao R w (W.setCell ⟨R.rg,3,none⟩ (.int .i64 (q':Int))) all q':=
 ⟨p.kp.setCell (fun h=>h rfl) _,p.rd.go q'⟩
theorem Ao.V6 {W W':World} {q2:Nat} (p:Ao R w W all q) (hk:Keep (fun k=>k≠R.rg) W W') (hr:Rg W' R.rg R.og all' R.A R.n R.c q2):Ao R w W' all' q2:=⟨p.kp.trans hk,hr⟩
theorem HR.pr (h:HR R w m all q):Ao R w w all q:=⟨Keep.refl _ _,h.rd⟩
theorem Ao.inp {W:World} (h:HR R w m all q) (p:Ao R w W all' q'):UJ W R.Bi R.l R.A R.n R.c:=h.inp.keep p.kp h.i2 h.rd.lt
theorem Ao.gr {W:World} (h:HR R w m all q) (p:Ao R w W all' q'):W.cell? ⟨R.gr,0,none⟩=some (.pointer (some ⟨R.rg,0,none⟩)):=(AL.keep h.box p.kp (by have:=h.kG;have:=h.gB;omega)).cell 0
theorem Ao.r0 {W:World} (p:Ao R w W all' q'):W.cell? ⟨R.rg,0,none⟩=some (.pointer (some ⟨R.og,0,none⟩)):=AL.cell p.rd 0
theorem Ao.r2 {W:World} (p:Ao R w W all' q'):W.cell? ⟨R.rg,2,none⟩=some (.slice R.A R.n R.c):=AL.cell p.rd 2
theorem Ao.r3 {W:World} (p:Ao R w W all' q'):W.cell? ⟨R.rg,3,none⟩=some (.int .i64 (q':Int)):=AL.cell p.rd 3
theorem Ao.hr {W:World} (h:HR R w m all q) (p:Ao R w W all' q'):HR R W m all' q':=h.read p.kp p.rd
theorem Ao.OW {W:World} (h:HR R w m all q) (p:Ao R w W all' q'):Keep (KD R.B R.og R.rg R.Z0) R.w0 W:=h.kp.trans p.kp.kd
theorem Ao.cB {w5 W:World} {v:Value} (h:HR R w m all q) (p:Ao R w W all' q') (hn:v.ownBlock≠some R.gr∧v.ownBlock≠some R.rg∧v.ownBlock≠some R.og) (h3:W.grownBy w5 v.ownBlock):
 AL w5 R.gr 116 [.pointer (some ⟨R.rg,0,none⟩)]∧Rg w5 R.rg R.og all' R.A R.n R.c q'∧ ∀cs,AL w R.og 29 cs→AL w5 R.og 29 cs:=by
 have h1:=h.qJ;have h2:=h.kG;have h4:=h.top;have h5:=h.gl;have h6:=p.kp.size;have h7:=h.gB;have h8:=h.nog
 exact⟨(h3.block _ (by omega) (fun e=>hn.1 e.symm)).trans (AL.keep h.box p.kp (by omega)),(h3.block _ (by omega) (fun e=>hn.2.1 e.symm)).trans p.rd,fun cs hc=>(h3.block _ (by omega) (fun e=>hn.2.2 e.symm)).trans (hc.keep p.kp h8)⟩
theorem HR.more (h:HR R w m all q) (hk:Keep (fun k=>k≠R.rg) w w3) (hr:Rg w3 R.rg R.og all' R.A R.n R.c q') (Z':Nat→Prop) (h1: ∀k,R.Z k→Z' k) (h2: ∀k,Z' k→R.Z k∨(w.heap.size≤k∧k<w3.heap.size)):HR {R with Z:=Z'} w3 m all' q':=by
 obtain⟨col,v1,v2,v3,v6,v7,v8,d⟩:=h.ds
 have hlt:=d.rd.lt
 exact⟨h.inp.keep hk h.i2 hlt,AL.keep h.box hk (by have:=d.l2;have:=h.gB;show R.gr≠R.rg;omega),h.kp.trans hk.kd,h.i1,h.i2,h.gB,h1 _ h.zg,fun k hk=>h1 k (h.z0 k hk),_,v1,v2,v3,v6,v7,v8,d.read hk hr Z' h2⟩
theorem HR.step (h:HR R w m all q) {col':Nat→Nat} {u1 u2 u3 u6 u7 u8:Value} (hs:Keep (KD R.B R.og R.rg R.Z) w w3∧DS R.B R.og R.rg R.Z w3 col' u1 u2 u3 u6 u7 u8 m' all' R.A R.n R.c q'):HR R w3 m' all' q':=by
 obtain⟨hk,d⟩:=hs
 have h1:=h.qJ;have h2:=h.kG;have h3:=h.gB;have h4:=h.i1;have h5:=h.i2;have h6:=h.top
 refine⟨⟨h.inp.len,h.inp.le,h.inp.cap,h.inp.row.below (hk.below (by omega) (fun k hk=> ?_))⟩,AL.keep h.box hk ⟨.inr h.zg,by omega,by omega⟩,h.kp.trans (hk.mono fun k hk=>⟨hk.1.imp id (h.z0 k),hk.2⟩),h4,h5,h3,h.zg,h.z0,_,_,_,_,_,_,_,d⟩
 exact⟨.inl (by omega),by omega,by omega⟩
end
end Go.Proofs.YtejbcledkhioeaaGreatDoor
