/- Part 39 of the proof: RefI ModI -/
import Derived.Test.YtlagonfamllgjaaGreatDoorK20
import Derived.Test.YtlagonfamllgjaaGreatDoorK38
namespace Go.Proofs.YtlagonfamllgjaaGreatDoor
set_option linter.unusedVariables false
set_option linter.unusedSimpArgs false
set_option maxRecDepth 100000
set_option maxHeartbeats 4000000
open Go.RowKit Tryz
def OB (W:World) (base:Nat) (A:Option Addr) (n c:Nat):Prop:= ∃xs,Ey W base 5 (.slice A n c) n xs
theorem OB.below {W W':World} {base:Nat} {A:Option Addr} {n c:Nat} (h:OB W base A n c) (hb:Below W.heap.size W W'):OB W' base A n c:=by
 obtain⟨xs,h⟩:=h
 exact⟨xs,h.SG hb⟩
def Wp (w w':World):Prop:= ∀(g:Nat) (t:TypeId) (xs:List Value),t≠5→AQ w g t xs→AQ w' g t xs
theorem Wp.DK {w w':World} (h:Below w.heap.size w w'):Wp w w':=fun g t xs _ hb=>hb.below h hb.lt
theorem Wp.trans {w w' w'':World} (h:Wp w w') (h':Wp w' w''):Wp w w'':=fun g t xs ht hb=>h' g t xs ht (h g t xs ht hb)
theorem Ey.ne {w:World} {base:Nat} {v:Value} {n:Nat} {xs ys:List Value} {g:Nat} {t:TypeId} (h:Ey w base 5 v n xs) (hb:AQ w g t ys) (ht:t≠5):v.ownBlock≠some g:=by
 rcases h with h | ⟨k,fz,rfl,_,hh,_⟩
 ·exact Ay h hb (Ne.symm ht)
 ·intro e
  injection e with e
  have e:k=g:=e
  subst e
  unfold AQ at hb
  rw [hh] at hb
  injection hb with hb
  injection hb with _ h2
  exact ht h2.symm
theorem Jp {w:World} {ops:Array Oper} {rest:List Oper} {o:Oper} {a:Act} {Q:Exit→Act→World→Prop} (hgd:o.guard=none) (s x:Operand)
 (ho:o.op= .call {callee:= .builtin .append,args:= #[s,x],argTypes:= #[40,40]}) (base:Nat) (A:Option Addr) (n c:Nat) (hs:a.eval s= .slice A n c) (hown:OB w base A n c)
 (B:Nat) (A2:Option Addr) (m c2:Nat) (news:List UInt8) (hx:a.eval x= .slice A2 m c2) (hm0:0<m) (hm:m=news.length) (hr:Row w B A2 (news.map bv)) (h47:n+m≤140000000000000) (hbase:base≤w.heap.size)
 (h: ∀A' c' w',OB w' base A' (n+m) c'→Below base w w'→Wp w w'→wpList prog ops Q rest (a.put o.dst (.slice A' (n+m) c')) w'):wpList prog ops Q (o::rest) a w:=by
 obtain⟨xs,hown⟩:=hown
 obtain⟨i0,hi,hz,hs',hb⟩:=info_parts EJ
 refine MV w hgd s x 40 ho base 5 i0 _ 1 underlying40 hi hz hs' hb rfl _ n xs hs hown B A2 m c2 (news.map bv) hm0 hx (by rw [List.length_map,Nat.mul_one];exact hm.symm) hr (Ew news) (by unfold maxLen;omega) (by omega) hbase ?_
 intro A' c' w' h2 h3 _
 refine h A' c' w' ⟨_,.inl h2⟩ ⟨h3.os,h3.tape,h3.output,h3.size,fun k hk=>h3.block k (by omega) (fun e=> ?_)⟩ ?_
 ·have:=(hown.lt k e.symm).1
  omega
 ·exact fun g t ys ht hb=>Av h3 hb (hown.ne hb ht)
theorem J8 (base:Nat) (A:Option Addr) (n c v:Nat) (w:World) (hown:OB w base A n c) (hbase:base≤w.heap.size) (hv:v<9223372036854775808) (hn:n≤100000000000000):
 Calls prog 140 #[.slice A n c,.int .i64 v] w fun e w'=> ∃A' c',e= .returned (.slice A' (n+(enc v).length) c')∧OB w' base A' (n+(enc v).length) c'∧Below base w w'∧Wp w w':=by
 have HO:=AA hown
 have hl:=AU v (by omega)
 have hpos:=E9 v
 clear hown
 go_enter func140,ntmps140
 go_wp2_with fail
 refine(Jh v (by omega) w).mono ?_
 rintro e w1 ⟨A1,c1,rfl,ho1,hb1⟩
 have Ui:=AA (Row.own ho1)
 have HB1:=AA hb1
 have hz:=hb1.size
 clear ho1 hb1
 go_wp2_with (at_builtin;refine Jp rfl (.tmp 5) (.tmp 8) rfl base A n c rfl (HO.out.below HB1.out) _ A1 (enc v).length c1 (enc v) rfl hpos rfl Ui.out (by omega) (by omega) ?_;intro A2 c2 w2 h2 h3 h4;have H2:=AA h2;have H3:=AA h3;have H4:=AA h4;clear h2 h3 h4)
 go_ret
 exact⟨A2,c2,rfl,H2.out,(HB1.out.mono hbase).trans H3.out,(Wp.DK HB1.out).trans H4.out⟩
theorem Kt (base:Nat) (A:Option Addr) (n c:Nat) (v:Int) (w:World) (hown:OB w base A n c) (hbase:base≤w.heap.size) (h0:0≤v∧v<9223372036854775808) (hn:n≤100000000000000):
 Calls prog 140 #[.slice A n c,.int .i64 v] w fun e w'=> ∃A' c',e= .returned (.slice A' (n+(enc v.toNat).length) c')∧OB w' base A' (n+(enc v.toNat).length) c'∧Below base w w'∧Wp w w':=by
 obtain⟨k,rfl⟩:=Int.eq_ofNat_of_zero_le h0.1
 exact J8 base A n c k w hown hbase (by omega) hn
theorem Kw (s:ByteArray):(enc s.size).length+s.size=(enc s.size++s.data.toList).length:=by rw [List.length_append];simp
theorem iU (x:ED) (w:World) (hl:M9 x.l.toNat=true) (hf:Dr x.v x.l.toNat=true) (hv:x.v<18446744073709551616):
 Calls prog 143 #[.agg #[.int .u8 (x.l.toNat:Int),.bool x.m,.int .u64 (x.v:Int)]] w fun e w'=>Below w.heap.size w w'∧e= .returned (.int .i64 (E_ x)):=by
 have box: ∀w1,w.alloc (.cells #[.int .u8 (x.l.toNat:Int),.bool x.m,.int .u64 (x.v:Int)] 139)=w1→Below w.heap.size w w1∧w1.cell? ⟨w.heap.size,0,none⟩=some (.int .u8 (x.l.toNat:Int))∧w1.cell? ⟨w.heap.size,2,none⟩=some (.int .u64 (x.v:Int)):=fun w1 h=>by
  have hb:=AQ.new w 139 [.int .u8 (x.l.toNat:Int),.bool x.m,.int .u64 (x.v:Int)]
  change AQ (w.alloc (.cells #[.int .u8 (x.l.toNat:Int),.bool x.m,.int .u64 (x.v:Int)] 139)) _ _ _ at hb
  rw [h] at hb
  exact⟨by rw [←h];exact(Below.refl _ _).alloc (Nat.le_refl _) _,hb.cell 0,hb.cell 2⟩
 have Gn:=AA box
 clear box
 by_cases h1:x.l.toNat=119
 ·have hv32:x.v<4294967296:=by
   unfold Dr at hf;rw [h1] at hf;simpa using hf
  have q1:((x.l.toNat:Int)==119)=true:=by rw [beq_iff_eq];omega
  by_cases h2:2147483648≤x.v
  ·have q2:decide ((2147483648:Int)≤(x.v:Int))=true:=decide_eq_true (by omega)
   have HS:Hid (E_ x=(x.v:Int)-4294967296):=AA (by unfold E_;rw [if_pos ⟨h1,h2⟩])
   clear hl hf h1
   go_enter func143,ntmps143
   go_upto_region 1 with fail
   generalize hw1:w.alloc (.cells #[.int .u8 (x.l.toNat:Int),.bool x.m,.int .u64 (x.v:Int)] 139)=w1
   obtain⟨hb1,c0,c2⟩:=Gn.out w1 hw1
   have HB1:=AA hb1
   clear hw1 hb1
   go_wp2_with fail
   go_ret
   exact⟨HB1.out,by rw [HS.out];rfl⟩
  ·have q2:decide ((2147483648:Int)≤(x.v:Int))=false:=decide_eq_false (by omega)
   have HS:Hid (E_ x=(x.v:Int)):=AA (by unfold E_;rw [if_neg (fun h=>h2 h.2),if_pos (by omega)])
   clear hl hf h1
   go_enter func143,ntmps143
   go_upto_region 1 with fail
   generalize hw1:w.alloc (.cells #[.int .u8 (x.l.toNat:Int),.bool x.m,.int .u64 (x.v:Int)] 139)=w1
   obtain⟨hb1,c0,c2⟩:=Gn.out w1 hw1
   have HB1:=AA hb1
   clear hw1 hb1
   go_wp2_with fail
   go_ret
   exact⟨HB1.out,by rw [HS.out];rfl⟩
 ·have q1:((x.l.toNat:Int)==119)=false:=by rw [beq_eq_false_iff_ne];omega
  have AEZ:x.l.toNat=108:=by
   unfold M9 at hl;simp at hl;omega
  have HS:=AA (l7 AEZ hv)
  clear hl hf h1 AEZ
  go_enter func143,ntmps143
  go_upto_region 1 with fail
  generalize hw1:w.alloc (.cells #[.int .u8 (x.l.toNat:Int),.bool x.m,.int .u64 (x.v:Int)] 139)=w1
  obtain⟨hb1,c0,c2⟩:=Gn.out w1 hw1
  have HB1:=AA hb1
  clear hw1 hb1
  go_wp2_with fail
  go_ret
  exact⟨HB1.out,by rw [←HS.out];rfl⟩
section
attribute [local irreducible] Aq
theorem QV {m:AP} {k:Nat} {f:Bv} (hx:m.fns[k]?=some f):UL m k=Cq (Ae (decide (0≤f.t∧f.t<m.types.length)) 30) (Cq (CK f.loc (64-KH m f.t)) (Cq (Ae (decide (f.code.length≤2048)) 20) (Cq (Ae (decide (FJ m (k+1)≤16384)) 20) (Aa f.code.length (KX f))))):=by
 unfold UL;rw [hx]
theorem Pf {m:AP} {k:Nat} {f:Bv} (h0:Ae (decide (m.fns.length≤128)) 20=0) (he:Aa k (UL m)=0) (hx:m.fns[k]?=some f) {v:Int} (hv:v≠0) (hf:UL m k=v):Ii m=v:=by
 have h1:Ja m=v:=by
  unfold Ja
  rw [AY h0,Dc he (by rw [hf];exact hv) _ (List.getElem?_eq_some_iff.1 hx).1,hf]
 unfold Ii
 rw [Br (by rw [h1];exact hv),h1]
theorem aO {m:AP} (hf:Ja m=0) {v:Int} (hv:v≠0) (h:v=Ae (decide (m.dat.length≤64)) 20:=by rfl):Ii m=v:=by
 subst h
 have h1:F5 m=Ae (decide (m.dat.length≤64)) 20:=by unfold F5;rw [Br hv]
 unfold Ii
 rw [AY hf,Br (by rw [h1];exact hv),h1]
theorem QW {m:AP} (hf:Ja m=0) (h0:Ae (decide (m.dat.length≤64)) 20=0) {k:Nat} {d:Gh} (he:Aa k (LQ m)=0) (hx:m.dat[k]?=some d) {v:Int} (hv:v≠0) (hd:LQ m k=v):Ii m=v:=by
 have h1:F5 m=v:=by
  unfold F5
  rw [AY h0,Dc he (by rw [hd];exact hv) _ (List.getElem?_eq_some_iff.1 hx).1,hd]
 unfold Ii
 rw [AY hf,Br (by rw [h1];exact hv),h1]
theorem aP {m:AP} (hf:Ja m=0) (hd:F5 m=0) {v:Int} (hv:v≠0) (h:v=Ae (decide (m.Au.length≤64)) 20:=by rfl):Ii m=v:=by
 subst h
 have h1:I5 m=Ae (decide (m.Au.length≤64)) 20:=by unfold I5;rw [Br hv]
 unfold Ii
 rw [AY hf,AY hd,h1]
theorem VN {m:AP} (hf:Ja m=0) (hd:F5 m=0) (h0:Ae (decide (m.Au.length≤64)) 20=0) {k:Nat} {x:KU} (he:Aa k (P6 m)=0) (hx:m.Au[k]?=some x) {v:Int} (hv:v≠0) (hE:P6 m k=v):Ii m=v:=by
 have h1:I5 m=v:=by
  unfold I5
  rw [AY h0,Dc he (by rw [hE];exact hv) _ (List.getElem?_eq_some_iff.1 hx).1,hE]
 unfold Ii
 rw [AY hf,AY hd,h1]
def stE (m:AP) (k:Nat) (d:Gh):Int:=Cq (Ae (decide (0≤d.at_∧d.at_≤m.first*4096)) 17) (if k=0 then 0 else match (m.dat.take k)[k-1]? with | none=>0 | some y=>Ae (decide (y.at_+y.b.length<d.at_)) 18)
theorem Pg {m:AP} {k:Nat} {d:Gh} (hx:m.dat[k]?=some d):LQ m k=Cq (stE m k d) (Cq (Ae (decide ((d.b.length:Int)≤m.first*4096-d.at_)) 13) (Ae (decide (0<d.b.length)) 17)):=by
 unfold LQ stE
 rw [hx,EM]
 by_cases hk:k=0
 ·subst hk;rfl
 ·dsimp only;rw [if_neg hk,if_neg hk,List.getElem?_take,if_pos (by omega)];rfl
theorem oP {m:AP} (hf0:0≤m.first) (hf1:m.first≤64) {k:Nat} (h:Aa k (LQ m)=0) (hk:k≤m.dat.length): ∀y∈m.dat.take k,0≤y.at_∧y.at_≤262144∧y.b.length≤262144:=by
 intro y hy
 obtain⟨j,hj⟩:=List.getElem?_of_mem hy
 rw [List.getElem?_take] at hj
 split at hj
 ·rename_i hlt
  have h1:=BQ h j hlt
  rw [Pg hj] at h1
  obtain⟨a,b⟩:=AV h1
  obtain⟨b,_⟩:=AV b
  have a:=of_decide_eq_true (Da (by decide) (AV a).1)
  have b:=of_decide_eq_true (Da (by decide) b)
  omega
 ·cases hj
theorem Rm {m:AP} {k:Nat} {x:KU} (hx:m.Au[k]?=some x):P6 m k=Cq (Cq (Np x.n) (R3 (m.Au.take k) k x.n)) (Ae (decide (0≤x.f∧x.f<m.fns.length)) 30):=by
 unfold P6 R3
 rw [hx,EM]
 by_cases hk:k=0
 ·subst hk;rfl
 ·dsimp only;rw [if_neg hk,if_neg hk,List.getElem?_take,if_pos (by omega)]
theorem Ph {f:Bv} {j:Nat} {x:Ad} (hx:f.code[j]?=some x):KX f j=Ar x:=by unfold KX;rw [hx]
theorem Ym {x:Ad} (h:Ar x=0):0<(G_ x).length:=by
 unfold Ar at h
 unfold G_
 cases hr:Aq x.op.toNat with
 | none=>rw [hr] at h;cases h
 | some r=>simp
theorem Lg {m:AP} {k:Nat} {f:Bv} (hx:m.fns[k]?=some f):FJ m (k+1)=FJ m k+f.code.length:=Rz (fun f:Bv=>f.code.length) hx
theorem oQ {m:AP} (h:Bg m≤2147483647) (k:Nat):FJ m k≤2147483647:=by
 have h1:=LD (fun f:Bv=>f.code.length) m.fns k
 have h2:BG (fun f:Bv=>f.code.length) m.fns≤BG JB m.fns:=by
  unfold BG
  induction m.fns with
  | nil=>simp
  | cons a l ih=>simp only [List.map_cons,List.sum_cons];unfold JB LG at*;omega
 unfold Bg at h
 unfold FJ
 omega
theorem Keep.cell {K:Nat→Prop} {w w':World} (h:Keep K w w') {p:Addr} (hp:p.block<w.heap.size) (hK:K p.block):w'.cell? p=w.cell? p:=by
 have hb:=h.block p.block hp hK
 simp [World.cell?,hb]
def fnC (A:Option Addr) (c:Nat) (f:Bv):List Value:= [.int .i64 f.t,.string f.loc,.slice A f.code.length c]
structure Dx (w wr:World) (base g gs gm:Nat) (K K1:Nat→Prop) (m:AP) (cs:List Value) (all:Nat) (L:List UInt8):Prop where
 kp:Keep K w wr
 box:AQ wr gm 29 cs
 hd:Hd wr base g gs K1 m.first all m.types L
 hb:base≤wr.heap.size
structure AAr (m:AP):Prop where
 sz:Bg m≤2147483647
 num:FN m
 par: ∀t∈m.types,t.p.size≤8
 f0:0≤m.first
 f1:m.first≤64
theorem Dx.Ee {w wr wr':World} {base g gs gm:Nat} {K K1:Nat→Prop} {m:AP} {cs:List Value} {all:Nat} {L:List UInt8} (h:Dx w wr base g gs gm K K1 m cs all L) (hb:Below wr.heap.size wr wr'):Dx w wr' base g gs gm K K1 m cs all L:=
 ⟨h.kp.all hb,h.box.below hb h.box.lt,h.hd.Ee hb,Nat.le_trans h.hb hb.size⟩
theorem Dx.to {w wr wr':World} {base g gs gm:Nat} {K K1:Nat→Prop} {m:AP} {cs:List Value} {all all':Nat} {L L':List UInt8} (h:Dx w wr base g gs gm K K1 m cs all L) (hk:Keep K1 wr wr') (hd:Hd wr' base g gs K1 m.first all' m.types L') (hm: ∀k,K k→K1 k) (hg:K1 gm):Dx w wr' base g gs gm K K1 m cs all' L':=
 ⟨h.kp.trans (hk.mono hm),h.box.keep hk hg,hd,Nat.le_trans h.hb hk.size⟩
theorem Dx.AAs {w wr wr':World} {base g gs gm:Nat} {K K1:Nat→Prop} {m:AP} {cs:List Value} {all:Nat} {L:List UInt8} (h:Dx w wr base g gs gm K K1 m cs all L) (hb:Below wr.heap.size wr wr') (hl:wr.heap.size<wr'.heap.size):Dx w wr' base g gs gm K (fun j=>K1 j∨j=wr.heap.size) m cs all L:=
 ⟨h.kp.all hb,h.box.below hb h.box.lt,h.hd.box hb hl,Nat.le_trans h.hb hb.size⟩
theorem Dx.less {w wr:World} {base g gs gm:Nat} {K K1 K2:Nat→Prop} {m:AP} {cs:List Value} {all:Nat} {L:List UInt8} (h:Dx w wr base g gs gm K K2 m cs all L) (hk: ∀k,K1 k→K2 k):Dx w wr base g gs gm K K1 m cs all L:=
 ⟨h.kp,h.box,h.hd.less hk,h.hb⟩
end
end Go.Proofs.YtlagonfamllgjaaGreatDoor
