/- Part 8 of the proof: ModD ModE ModF ModG -/
import Derived.RegionDies
import Derived.Test.YtlagonfamllgjaaGreatDoorK07
namespace Go.Proofs.YtlagonfamllgjaaGreatDoor
set_option linter.unusedVariables false
set_option linter.unusedSimpArgs false
set_option maxRecDepth 100000
set_option maxHeartbeats 4000000
open Go.RowKit Tryz
structure sJ (W:World) (base gs:Nat) (first:Int) (ts:List Cg) (T:Option Addr) (d:Nat):Prop where
 blk:AQ W gs 29 [.slice T ts.length d,.slice none 0 0,.slice none 0 0,.int .i64 first,.int .i64 0,.slice none 0 0,.slice none 0 0,.slice none 0 0]
 own:W.ownsRow base 93 2 (.slice T ts.length d) ts.length (ts.flatMap Ov)
 ok: ∀x∈ts,Rd.Pq x.p∧Rd.Pq x.r
theorem U3 {x y:Cg}:KW x y=true↔x=y:=by
 unfold KW
 rw [Bool.and_eq_true,decide_eq_true_iff,decide_eq_true_iff]
 constructor
 ·rintro⟨h1,h2⟩;cases x;cases y;simp_all
 ·rintro rfl;exact⟨rfl,rfl⟩
theorem bT {ts:List Cg} {x:Cg} {n:Nat} (h: ∀j y,j<n→ts[j]?=some y→y≠x):(ts.take n).any (fun y=>KW y x)=false:=by
 rw [List.any_eq_false]
 intro y hy he
 obtain⟨j,hj⟩:=List.getElem?_of_mem hy
 rw [List.getElem?_take] at hj
 split at hj
 ·rename_i hlt;exact h j y hlt hj (U3.1 he)
 ·cases hj
theorem bU {ts:List Cg} {x:Cg} {n k:Nat} (h:ts[k]?=some x) (hk:k<n):(ts.take n).any (fun y=>KW y x)=true:=by
 rw [List.any_eq_true]
 exact⟨x,List.mem_of_getElem? (i:=k) (by rw [List.getElem?_take,if_pos hk];exact h),U3.2 rfl⟩
theorem Zf {W:World} {base:Nat} {e:TypeId} {size:Nat} {A:Option Addr} {n c:Nat} {xs:List Value} (h:W.ownsRow base e size (.slice A n c) n xs):n≤c:=by
 rcases h.2 with⟨hv,h0⟩ | ⟨g,cap,cur,hv,_,_,hc,_⟩
 ·injection hv with h1 h2 h3;subst h2;omega
 ·injection hv with h1 h2 h3;omega
theorem ku (base g gs:Nat) (first:Int) (ts:List Cg) (T:Option Addr) (d n:Nat) (x:Cg) (w:World) (hg:w.cell? ⟨g,0,none⟩=some (.pointer (some ⟨gs,0,none⟩))) (hs:sJ w base gs first ts T d)
 (hn:ts.length=n+1) (hx:ts[n]?=some x) (h47:n≤1000000):
 Calls prog 154 #[.pointer (some ⟨g,0,none⟩),.int .i64 0] w fun e w'=>Below w.heap.size w w'∧Ends (Ae (!(ts.take n).any (fun y=>KW y x)) 16) 0 e:=by
 have hr:=JY.reads hs.own rfl hs.ok
 rw [hn] at hr
 have Hr:=AA hr
 obtain⟨b,o,rfl,_,Oe,hx0,hx1,kU,kV⟩:=CZ hr hx
 have hc0:w.cell? ⟨gs,0,none⟩=some (.slice (some ⟨b,o,none⟩) (n+1) d):=by have:=hs.blk.cell 0;rw [hn] at this;exact this
 have Hx:=AA hx
 have hcap:n+1≤d:=by have:=Zf hs.own;omega
 have hcap':n≤d:=by omega
 clear hs hr hn hx kU kV
 go_enter func154,ntmps154
 go_wp2_with fail
 go_loopw [20] (fun i wr=> ∃k:Nat,k≤n∧i= .int .i64 k∧Below w.heap.size w wr∧ ∀j y,j<k→ts[j]?=some y→y≠x) (fun i _=>n-(intOf i).toNat)
 case atStart=>exact⟨0,Nat.zero_le _,rfl,Below.refl _ _,fun j y hj=>absurd hj (by omega)⟩
 case round=>
  obtain⟨k,hk,rfl,hbel,hall⟩:=hrel
  have Vq:=AA hall;have Hb:=AA hbel;clear hall hbel
  by_cases hlt:k<n
  ·have hlen:=Bq Hr.out
   obtain⟨y,hy⟩: ∃y,ts[k]?=some y:=⟨_,List.getElem?_eq_getElem (by omega)⟩
   obtain⟨b',o',he,_,_,hy0,hy1,_,_⟩:=CZ Hr.out hy
   injection he with he
   injection he with he1 he2
   subst he1 he2
   have Hy:=AA hy
   have ha0:=(Hb.out.cell (p:=⟨b,o+k*2,none⟩) Oe).trans hy0
   have ha1:=(Hb.out.cell (p:=⟨b,o+k*2+1,none⟩) Oe).trans hy1
   have hb0:=(Hb.out.cell (p:=⟨b,o+n*2,none⟩) Oe).trans hx0
   have hb1:=(Hb.out.cell (p:=⟨b,o+n*2+1,none⟩) Oe).trans hx1
   have hk0:(0:Int)≤k:=by omega
   clear hy hy0 hy1 hlen
   go_wp2_with fail
   generalize hw:wr.alloc _=w1
   have H1:Hid (Below w.heap.size w w1):=by rw [←hw];exact AA (Hb.out.alloc Hb.out.size _)
   have zh:Hid (AQ w1 wr.heap.size 93 [.string y.p,.string y.r]):=by rw [←hw];exact AA (AQ.new wr 93 [.string y.p,.string y.r])
   have hd0:=(H1.out.cell (p:=⟨b,o+n*2,none⟩) Oe).trans hx0
   have hd1:=(H1.out.cell (p:=⟨b,o+n*2+1,none⟩) Oe).trans hx1
   have hn0:=zh.out.q 0 rfl
   have hn1:=zh.out.q 1 rfl
   clear hw ha0 ha1 hb0 hb1
   have hi0:(0:Int)≤n:=by omega
   have hi1:(n:Int)<(n:Int)+1:=by omega
   have hi2:(n:Int)<((n+1:Nat):Int):=by omega
   have hw1:IntKind.i64.wrap (n:Int)=(n:Int):=by rw [IntKind.wrap_i64];omega
   have hw2:IntKind.i64.wrap ((n:Int)+1-1)=(n:Int):=by rw [IntKind.wrap_i64];omega
   by_cases h0:y.p=x.p
   case neg=>
    have HN:Hid (∀j z,j<k+1→ts[j]?=some z→z≠x):=AA (fun j z hj hz=>by
     by_cases hjk:j<k
     ·exact Vq.out j z hjk hz
     ·obtain rfl:j=k:=by omega
      rw [Hy.out] at hz
      injection hz with hz
      subst hz
      exact fun e=>h0 (by rw [e]))
    have hne:=MU h0
    clear h0
    go_region_held3 (fun w'=>w'.cell? ⟨wr.heap.size,0,none⟩=some (.string y.p)∧w'.cell? ⟨wr.heap.size,1,none⟩=some (.string y.r)∧w'.cell? ⟨b,o+n*2,none⟩=some (.string x.p)∧w'.cell? ⟨b,o+n*2+1,none⟩=some (.string x.r)) (first | exact⟨hn0,hn1,hd0,hd1⟩)
     (first | (go_at_call 130;refine(Dp 16 0 _).mono ?_;rintro e w' ⟨rfl,rfl⟩))
    go_wp2_with fail
    exact⟨⟨k+1,by omega,by go_num,below_drewN H1.out 1,HN.out⟩,by simp [intOf];omega⟩
   rw [h0] at hn0
   by_cases h1:y.r=x.r
   case neg=>
    have h0:=h1
    have HN:Hid (∀j z,j<k+1→ts[j]?=some z→z≠x):=AA (fun j z hj hz=>by
     by_cases hjk:j<k
     ·exact Vq.out j z hjk hz
     ·obtain rfl:j=k:=by omega
      rw [Hy.out] at hz
      injection hz with hz
      subst hz
      exact fun e=>h0 (by rw [e]))
    have hne:=MU h0
    clear h0
    go_region_held3 (fun w'=>w'.cell? ⟨wr.heap.size,0,none⟩=some (.string x.p)∧w'.cell? ⟨wr.heap.size,1,none⟩=some (.string y.r)∧w'.cell? ⟨b,o+n*2,none⟩=some (.string x.p)∧w'.cell? ⟨b,o+n*2+1,none⟩=some (.string x.r)) (first | exact⟨hn0,hn1,hd0,hd1⟩)
     (first | (go_at_call 130;refine(Dp 16 0 _).mono ?_;rintro e w' ⟨rfl,rfl⟩))
    go_wp2_with fail
    exact⟨⟨k+1,by omega,by go_num,below_drewN H1.out 1,HN.out⟩,by simp [intOf];omega⟩
   rw [h1] at hn1
   have HX:Hid (y=x):=AA (by cases y;cases x;simp_all)
   have hE:Hid (Ae (!(ts.take n).any (fun z=>KW z x)) 16=16):=AA (CJ (by rw [bU (by rw [Hy.out,HX.out]) hlt];rfl))
   clear h0 h1
   go_region_dies
   all_goals
    refine(DT 16 0 _).mono ?_
    rintro e w' ⟨rfl,rfl⟩
    exact⟨rfl,below_drewN H1.out 1,.inr ⟨by rw [hE.out];decide,by rw [hE.out]⟩⟩
  ·obtain rfl:k=n:=by omega
   have hE:Hid (Ae (!(ts.take k).any (fun z=>KW z x)) 16=0):=AA (BX (by rw [bT Vq.out];rfl))
   go_wp2_with fail
   go_end0
   exact⟨Hb.out,.inl ⟨hE.out,rfl⟩⟩
theorem sK (base g gs:Nat) (first:Int) (ts:List Cg) (T:Option Addr) (d t:Nat) (x:Cg) (w:World) (hg:w.cell? ⟨g,0,none⟩=some (.pointer (some ⟨gs,0,none⟩))) (hs:sJ w base gs first ts T d)
 (hx:ts[t]?=some x) (hp:x.p.size≤1000000):
 Calls prog 159 #[.pointer (some ⟨g,0,none⟩),.int .i64 t] w fun e w'=>w'=w∧e= .returned (.int .i64 (64-x.p.size)):=by
 have hr:=JY.reads hs.own rfl hs.ok
 obtain⟨b,o,rfl,_,Oe,hx0,hx1,kU,kV⟩:=CZ hr hx
 have hlt:=(List.getElem?_eq_some_iff.1 hx).1
 have hc0:=hs.blk.q 0 rfl
 have ht0:(0:Int)≤t:=by omega
 have ht1:(t:Int)<ts.length:=by omega
 clear hs hr hx kU kV
 go_enter func159,ntmps159
 go_wp2_with fail
 go_ret
 exact⟨rfl,rfl⟩
theorem sH.all' {W:World} {base g:Nat} {K:Nat→Prop} {mp:Value} {all:Int} {l:List UInt8} {A:Option Addr} {c:Nat} (h:sH W base g K mp all l A c) (all':Int):
 Keep K W (W.setCell ⟨g,1,none⟩ (.int .i64 all'))∧sH (W.setCell ⟨g,1,none⟩ (.int .i64 all')) base g K mp all' l A c:=
 ⟨(Keep.refl _ _).setCell h.kg _,h.blk.set 1 _,h.own.kW (fun e=>(h.apart g e).2 rfl) _,h.low,h.kg,h.apart,fun k hk=>by have:=h.lt k hk;simp [World.setCell];omega⟩
theorem LY {p q:Prop} [Decidable p] [Decidable q] (e:Int) (h:p↔q):Ae (decide p) e=Ae (decide q) e:=by
 congr 1
 exact decide_eq_decide.2 h
theorem sM (n:Nat) (hn:n≤2147483647) (base g:Nat) (K:Nat→Prop) (mp:Value) (all:Nat) (ha:all≤2147483647) (l:List UInt8) (w:World) (h:Wr w base g K mp all l):
 Calls prog 160 #[.pointer (some ⟨g,0,none⟩),.int .i64 n,.int .i64 0] w fun e w'=>Keep K w w'∧MX (Cq (Ae (decide (n≤2048)) 20) (Ae (decide (all+n≤16384)) 20)) e (Wr w' base g K mp ((all+n:Nat):Int) l):=by
 obtain⟨A,c,h⟩:=h
 have H:=AA h
 have hc1:=h.blk.q 1 rfl
 have hf:=h.blk.frozen 1
 have hnn:IntKind.i64.wrap ((all:Int)+n)=(all:Int)+n:=by rw [IntKind.wrap_i64];omega
 have E1:Hid (Ae (decide ((n:Int)≤2048)) 20=Ae (decide (n≤2048)) 20):=AA (LY 20 (by omega))
 have E2:Hid (Ae (decide ((all:Int)+n≤16384)) 20=Ae (decide (all+n≤16384)) 20):=AA (LY 20 (by omega))
 clear h
 go_enter func160,ntmps160
 go_wp2_with fail
 refine(FD _ 20 0 (by decide) _).mono ?_
 rintro e w1 ⟨rfl,⟨h0,rfl⟩ | ⟨h0,rfl⟩⟩
 ·rw [E1.out] at h0
  have H0:=AA h0;clear h0
  go_wp2_with fail
  have HP:=AA (H.out.all' ((all:Int)+n))
  generalize w.setCell _ _=w2 at*
  refine(FD _ 20 0 (by decide) _).mono ?_
  rintro e w1 ⟨rfl,⟨h0,rfl⟩ | ⟨h0,rfl⟩⟩
  ·rw [E2.out] at h0
   have H1:=AA h0;clear h0
   go_wp2_with fail
   go_end0
   refine⟨HP.out.1,.inl ⟨by rw [AY H0.out];exact H1.out,rfl,A,c,?_⟩⟩
   rw [Int.natCast_add]
   exact HP.out.2
  ·rw [E2.out] at h0⊢
   have H1:=AA h0;clear h0
   go_wp2_with fail
   exact⟨rfl,HP.out.1,.inr ⟨by rw [AY H0.out];exact H1.out,by rw [AY H0.out]⟩⟩
 ·rw [E1.out] at h0⊢
  have H0:=AA h0;clear h0
  go_wp2_with fail
  exact⟨rfl,Keep.refl _ _,.inr ⟨by rw [Br H0.out];exact H0.out,by rw [Br H0.out]⟩⟩
theorem fO (base g gs:Nat) (first x:Int) (ts:List Cg) (T:Option Addr) (d:Nat) (A:Option Addr) (k c lo hi:Nat) (l:List Gh) (w:World) (hg:w.cell? ⟨g,0,none⟩=some (.pointer (some ⟨gs,0,none⟩))) (hs:sJ w base gs first ts T d)
 (hr:(Ib.sl false).R w lo hi [.slice A k c] l) (hf0:0≤first) (hf1:first≤64) (hx: -9223372036854775808≤x∧x<9223372036854775808) (hok: ∀y∈l,0≤y.at_∧y.at_≤262144∧y.b.length≤262144) (hk:k≤1000000):
 Calls prog 162 #[.pointer (some ⟨g,0,none⟩),.int .i64 x,.slice A k c,.int .i64 0] w fun e w'=>Below w.heap.size w w'∧
  Ends (Cq (Ae (decide (0≤x∧x≤first*4096)) 17) (if k=0 then 0 else match l[k-1]? with | none=>0 | some y=>Ae (decide (y.at_+y.b.length<x)) 18)) 0 e:=by
 generalize Xk:Cq _ _=EE
 have HE:=AA Xk
 clear Xk
 have Hr:=AA hr
 have hc3:=hs.blk.q 3 rfl
 have hlen:=Bq hr
 clear hs hr
 have hw:IntKind.i64.wrap (first*4096)=first*4096:=by rw [IntKind.wrap_i64];omega
 by_cases hx0:x<0
 ·have hE:Hid (Ae (decide (0≤x∧x≤first*4096)) 17=17):=AA (CJ (decide_eq_false (by omega)))
  have d0:decide (0≤x)=false:=decide_eq_false (by omega)
  clear hx0 hlen
  go_enter func162,ntmps162
  go_wp2_with fail
  refine(DT 17 0 _).mono ?_
  rintro e w1 ⟨rfl,rfl⟩
  go_wp2_with fail
  have hX:EE=17:=by rw [←HE.out,hE.out,Br (by decide)]
  exact⟨rfl,Below.refl _ _,.inr ⟨by rw [hX];decide,by rw [hX]⟩⟩
 have hx00:0≤x:=by omega
 have hE:Hid (Ae (decide (0≤x∧x≤first*4096)) 17=Ae (decide (x≤first*4096)) 17):=AA (LY 17 (by omega))
 clear hx0
 go_enter func162,ntmps162
 go_wp2_with fail
 refine(FD _ 17 0 (by decide) _).mono ?_
 rintro e w1 ⟨rfl,⟨h0,rfl⟩ | ⟨h0,rfl⟩⟩
 ·rw [←hE.out] at h0
  have H0:=AA h0;clear h0
  by_cases hk0:k=0
  ·subst hk0
   go_wp2_with fail
   go_end0
   exact⟨Below.refl _ _,.inl ⟨by have:=HE.out;rw [AY H0.out] at this;simpa using this.symm,rfl⟩⟩
  ·obtain⟨y,hy⟩: ∃y,l[k-1]?=some y:=⟨_,List.getElem?_eq_getElem (by omega)⟩
   obtain⟨b,o,Nv,Ni,rfl,_,_,xk,AC2,AC3,hb⟩:=IY Hr.out hy
   have hyb:=hok y (List.mem_of_getElem? hy)
   have hS:Hid ((if k=0 then(0:Int) else match l[k-1]? with | none=>0 | some y=>Ae (decide (y.at_+y.b.length<x)) 18)=Ae (decide (y.at_+y.b.length<x)) 18):=AA (by rw [if_neg hk0,hy])
   obtain⟨j,rfl⟩: ∃j,k=j+1:=⟨k-1,by omega⟩
   have hj:j+1-1=j:=rfl
   rw [hj] at xk AC2
   have hj0:(0:Int)≤j:=by omega
   have hj1:(j:Int)<(j:Int)+1:=by omega
   have hj2:(j:Int)<((j+1:Nat):Int):=by omega
   have hjw:IntKind.i64.wrap (j:Int)=(j:Int):=by rw [IntKind.wrap_i64];omega
   have hjw2:IntKind.i64.wrap ((j:Int)+1-1)=(j:Int):=by rw [IntKind.wrap_i64];omega
   have hsw:IntKind.i64.wrap (y.at_+(y.b.length:Int))=y.at_+y.b.length:=by rw [IntKind.wrap_i64];omega
   have hk1:decide (0<(j:Int)+1)=true:=decide_eq_true (by omega)
   clear hy hyb hk0 hlen hok
   go_wp2_with fail
   have HT:Hid (EE=Ae (decide (y.at_+y.b.length<x)) 18):=AA (by rw [←HE.out,AY H0.out,hS.out])
   by_cases hlt:y.at_+(y.b.length:Int)<x
   ·have dl:decide (y.at_+(y.b.length:Int)<x)=true:=decide_eq_true hlt
    have HZ:Hid (EE=0):=AA (by rw [HT.out,dl];rfl)
    clear hlt
    go_region_held3 (fun w'=>w'.cell? ⟨b,o+j*2,none⟩=some (.int .i64 y.at_)∧w'.cell? ⟨b,o+j*2+1,none⟩=some (.slice Nv y.b.length Ni)) (first | exact⟨xk,AC2⟩)
     (first | (go_at_call 130;refine(Dp 18 0 _).mono ?_;rintro e w' ⟨rfl,rfl⟩))
    go_wp2_with fail
    go_end0
    exact⟨below_drewN (Below.refl _ _) 1,.inl ⟨HZ.out,rfl⟩⟩
   ·have dl:decide (y.at_+(y.b.length:Int)<x)=false:=decide_eq_false hlt
    have HZ:Hid (EE=18):=AA (by rw [HT.out,dl];rfl)
    clear hlt
    go_region_dies
    all_goals
     refine(DT 18 0 _).mono ?_
     rintro e w' ⟨rfl,rfl⟩
     exact⟨rfl,below_drewN (Below.refl _ _) 1,.inr ⟨by rw [HZ.out];decide,by rw [HZ.out]⟩⟩
 ·rw [←hE.out] at h0⊢
  have H0:=AA h0;clear h0
  go_wp2_with fail
  have hX:=HE.out
  rw [Br H0.out] at hX
  exact⟨rfl,Below.refl _ _,.inr ⟨by rw [←hX];exact H0.out,by rw [←hE.out,hX]⟩⟩
theorem sN (t:TypeId) (a b:ByteArray):binOp .gtr t (.string a) (.string b)=pure (.bool (!(Ox a b))):=by simp [binOp,Op.stringOp,Ox]
theorem sO (t:TypeId) (a b:ByteArray):binOp .leq t (.string a) (.string b)=pure (.bool (Ox a b)):=by simp [binOp,Op.stringOp,Ox]
theorem fP (s:ByteArray) (h47:s.size≤140737488351232) (A:Option Addr) (n c lo hi:Nat) (l:List KU) (w:World) (hr:(Q8.sl false).R w lo hi [.slice A n c] l) (hn:n≤1000000):
 Calls prog 163 #[.string s,.slice A n c,.int .i64 0] w fun e w'=>Below w.heap.size w w'∧Ends (Cq (Np s) (R3 l n s)) 0 e:=by
 generalize Xk:Cq _ _=EE
 have HE:=AA Xk
 clear Xk
 unfold Np at HE
 have Hr:=AA hr
 have hlen:=Bq hr
 clear hr
 subst hlen
 have E1:Hid (Ae (decide ((s.size:Int)≤32)) 13=Ae (decide (s.size≤32)) 13):=AA (LY 13 (by omega))
 have hsz:s.data.toList.length=s.size:=by simp
 have Vm:=AA hsz;clear hsz
 go_enter func163,ntmps163
 go_wp2_with fail
 refine(FD _ 13 0 (by decide) _).mono ?_
 rintro e w1 ⟨rfl,⟨h0,rfl⟩ | ⟨h0,rfl⟩⟩
 case inr=>
  rw [E1.out] at h0⊢
  have H0:=AA h0;clear h0
  go_wp2_with fail
  have hX:=HE.out
  rw [EM,Br H0.out] at hX
  exact⟨rfl,Below.refl _ _,.inr ⟨by rw [←hX];exact H0.out,by rw [←hX]⟩⟩
 rw [E1.out] at h0
 have H0:=AA h0;clear h0
 by_cases hz:s.size=0
 ·have hs:s=ByteArray.empty:=by apply ByteArray.ext;apply Array.eq_empty_of_size_eq_zero;exact hz
  have hX:Hid (EE=23):=AA (by
   have hX:=HE.out
   rw [EM,AY H0.out,EM,hz] at hX
   exact hX.symm)
  subst hs
  go_wp2_with fail
  refine(DT 23 0 _).mono ?_
  rintro e w1 ⟨rfl,rfl⟩
  go_wp2_with fail
  exact⟨rfl,Below.refl _ _,.inr ⟨by rw [hX.out];decide,by rw [hX.out]⟩⟩
 have hne:s.toList.isEmpty=false:=by rw [ByteArray.toList_eq];cases h:s.data.toList with | nil=>exact absurd (by rw [←Vm.out,h];rfl) hz | cons a b=>rfl
 have HZ:Hid (EE=Cq (Ae (s.data.toList.all P5) 23) (R3 l l.length s)):=AA (by
  have hX:=HE.out
  rw [EM,AY H0.out,EM,AY (BX (decide_eq_true (by omega)))] at hX
  exact hX.symm)
 clear hz HE
 go_wp2_with fail
 refine(Dp 23 0 _).mono ?_
 rintro e w1 ⟨rfl,rfl⟩
 clear hne
 go_upto_block 0 with fail
 go_cut [] (fun wx=>wx=w∧Ae (s.data.toList.all P5) 23=0)
 case first=>
  go_wp2_with fail
  go_loopw [18] (fun i wr=> ∃k:Nat,k≤s.size∧i= .int .i64 k∧wr=w∧(s.data.toList.drop k).all P5=s.data.toList.all P5) (fun i _=>s.size-(intOf i).toNat)
  case atStart=>exact⟨0,Nat.zero_le _,rfl,rfl,rfl⟩
  case round=>
   obtain⟨k,hk,rfl,rfl,hR⟩:=hrel
   have HR2:=AA hR;clear hR
   by_cases hlt:k<s.size
   ·have Hd:=AA (drop_at s.data.toList k (by rw [Vm.out];exact hlt))
    have hb:=byte_at s k hlt
    have Hb:=AA hb;clear hb
    have hk0:(0:Int)≤k:=by omega
    have xY:(s.data.toList[k]?.getD 0).toNat<256:=UInt8.toNat_lt _
    have HR3:Hid ((P5 (s.data.toList[k]?.getD 0)&&(s.data.toList.drop (k+1)).all P5)=s.data.toList.all P5):=AA (by rw [←HR2.out,Hd.out];rfl)
    have hbn:(s[k]'hlt).toNat=(s.data.toList[k]?.getD 0).toNat:=congrArg UInt8.toNat Hb.out
    clear Hd HR2
    have hbad: ¬((32:Int)<((s[k]'hlt).toNat:Int)∧((s[k]'hlt).toNat:Int)<127)→EE=23:=fun h=>by
     have:P5 (s.data.toList[k]?.getD 0)=false:=by unfold P5;exact decide_eq_false (by omega)
     have h2:=HR3.out
     rw [this] at h2
     rw [HZ.out,←h2];rfl
    have hgood:(32:Int)<((s[k]'hlt).toNat:Int)→((s[k]'hlt).toNat:Int)<127→(s.data.toList.drop (k+1)).all P5=s.data.toList.all P5:=fun h1 h2=>by
     have:P5 (s.data.toList[k]?.getD 0)=true:=by unfold P5;exact decide_eq_true (by omega)
     rw [←HR3.out,this,Bool.true_and]
    have AC4:=AA hbad;have AC5:=AA hgood
    clear hbad hgood hbn HR3 Hb xY
    by_cases hlo:(32:Int)<((s[k]'hlt).toNat:Int)
    case neg=>
     have hX:=AC4.out (fun h=>hlo h.1)
     have HX:=AA hX;clear hX
     go_wp2_with fail
     refine(DT 23 0 _).mono ?_
     rintro e w1 ⟨rfl,rfl⟩
     exact⟨rfl,Below.refl _ _,.inr ⟨by rw [HX.out];decide,by rw [HX.out]⟩⟩
    by_cases hhi2:((s[k]'hlt).toNat:Int)<127
    case neg=>
     have hX:=AC4.out (fun h=>hhi2 h.2)
     have HX:=AA hX;clear hX
     go_wp2_with fail
     refine(DT 23 0 _).mono ?_
     rintro e w1 ⟨rfl,rfl⟩
     exact⟨rfl,Below.refl _ _,.inr ⟨by rw [HX.out];decide,by rw [HX.out]⟩⟩
    have HG:=AA (AC5.out hlo hhi2)
    go_wp2_with fail
    refine(Dp 23 0 _).mono ?_
    rintro e w1 ⟨rfl,rfl⟩
    go_wp2_with fail
    refine⟨⟨k+1,by omega,by go_num,?_,HG.out⟩,by simp [intOf];omega⟩
    first | exact trivial | rfl
   ·have hge: ¬(k:Int)<s.size:=by omega
    have HT:Hid (s.data.toList.all P5=true):=AA (by rw [←HR2.out,List.drop_of_length_le (by rw [Vm.out];omega)];rfl)
    go_wp2_with fail
    go_meet
    exact⟨rfl,by rw [HT.out];rfl⟩
 case rest=>
  obtain⟨rfl,h23⟩:=hcut
  have HY:Hid (EE=R3 l l.length s):=AA (by rw [HZ.out,AY h23])
  clear h23 HZ
  by_cases h0:l.length=0
  ·have hX:Hid (EE=0):=AA (by rw [HY.out];unfold R3;rw [if_pos h0])
   rw [h0]
   go_wp2_with fail
   refine(Dp 18 0 _).mono ?_
   rintro e w1 ⟨rfl,rfl⟩
   go_wp2_with fail
   go_end0
   exact⟨Below.refl _ _,.inl ⟨hX.out,rfl⟩⟩
  ·obtain⟨y,hy⟩: ∃y,l[l.length-1]?=some y:=⟨_,List.getElem?_eq_getElem (by omega)⟩
   obtain⟨b,o,rfl,_,_,hc0,_,_,_⟩:=Jw Hr.out hy
   have hX:Hid (EE=Ae (!(Ox s y.n)) 18):=AA (by rw [HY.out];unfold R3;rw [if_neg h0,hy])
   obtain⟨j,hj⟩: ∃j,l.length=j+1:=⟨l.length-1,by omega⟩
   clear hy HY Hr h0
   generalize l.length=n at*
   subst hj
   have hjj:j+1-1=j:=rfl
   rw [hjj] at hc0
   have hj0:(0:Int)≤j:=by omega
   have hj1:(j:Int)<(j:Int)+1:=by omega
   have hj3: ¬((j:Int)+1=0):=by omega
   have hgt:=sN 9 s y.n
   have hj4:((j:Int)+1==0)=false:=by rw [beq_eq_false_iff_ne];omega
   generalize Ox s y.n=bb at*
   go_wp2_with fail
   refine(FD _ 18 0 (by decide) _).mono ?_
   rintro e w1 ⟨rfl,⟨h0,rfl⟩ | ⟨h0,rfl⟩⟩
   ·have H0:=AA h0;clear h0
    go_wp2_with fail
    go_end0
    exact⟨Below.refl _ _,.inl ⟨by rw [hX.out];exact H0.out,rfl⟩⟩
   ·have H0:=AA h0;clear h0
    go_wp2_with fail
    exact⟨rfl,Below.refl _ _,.inr ⟨by rw [hX.out];exact H0.out,by rw [hX.out]⟩⟩
def KT (K:Nat→Prop) (gs:Nat) (v:Value) (k:Nat):Prop:=K k∨k=gs∨v.ownBlock=some k
def Hd (W:World) (base g gs:Nat) (K:Nat→Prop) (first all:Int) (ts:List Cg) (l:List UInt8):Prop:=
 ∃T d,sJ W base gs first ts T d∧Wr W base g (KT K gs (.slice T ts.length d)) (.pointer (some ⟨gs,0,none⟩)) all l∧base≤gs∧ ¬K gs∧(∀k,(Value.slice T ts.length d).ownBlock=some k→ ¬K k∧k≠gs)
theorem sJ.keep {W W':World} {base gs:Nat} {K:Nat→Prop} {first:Int} {ts:List Cg} {T:Option Addr} {d:Nat} (h:sJ W base gs first ts T d) (hk:Keep (KT K gs (.slice T ts.length d)) W W'):sJ W' base gs first ts T d:=
 ⟨h.blk.keep hk (.inr (.inl rfl)),DZ h.own hk fun k hb=> .inr (.inr hb),h.ok⟩
section
variable {W W':World} {base g gs:Nat} {K:Nat→Prop} {first all all':Int} {ts:List Cg} {l l':List UInt8}
theorem Hd.Ee (h:Hd W base g gs K first all ts l) (hb:Below W.heap.size W W'):Hd W' base g gs K first all ts l:=by
 obtain⟨T,d,h1,h2,h3,h4,h5⟩:=h
 exact⟨T,d,h1.keep (K:=K) (Keep.DK hb),h2.Ee hb,h3,h4,h5⟩
theorem Hd.lC (h:Hd W base g gs K first all ts l):W.cell? ⟨g,0,none⟩=some (.pointer (some ⟨gs,0,none⟩)):=by
 obtain⟨T,d,h1,⟨A,c,h2⟩,_⟩:=h
 exact h2.blk.cell 0
theorem Hd.lt (h:Hd W base g gs K first all ts l):g<W.heap.size∧gs<W.heap.size:=by
 obtain⟨T,d,h1,⟨A,c,h2⟩,_⟩:=h
 exact⟨h2.blk.lt,h1.blk.lt⟩
theorem Hd.kg (h:Hd W base g gs K first all ts l): ¬K g∧ ¬K gs∧(∀k,K k→k<W.heap.size):=by
 obtain⟨T,d,h1,⟨A,c,h2⟩,_,h4,_⟩:=h
 exact⟨fun e=>h2.kg (.inl e),h4,fun k hk=>h2.lt k (.inl hk)⟩
end
theorem Hd.less {W:World} {base g gs:Nat} {K K':Nat→Prop} {first all:Int} {ts:List Cg} {l:List UInt8} (h:Hd W base g gs K' first all ts l) (hk: ∀k,K k→K' k):Hd W base g gs K first all ts l:=by
 obtain⟨T,d,h1,⟨A,c,h2⟩,h3,h4,h5⟩:=h
 have hm: ∀k,KT K gs (.slice T ts.length d) k→KT K' gs (.slice T ts.length d) k:=fun k h=>h.imp (hk k) id
 exact⟨T,d,h1,⟨A,c,h2.blk,h2.own,h2.low,fun e=>h2.kg (hm _ e),fun k hb=>⟨fun e=>(h2.apart k hb).1 (hm _ e),(h2.apart k hb).2⟩,fun k e=>h2.lt k (hm _ e)⟩,h3,fun e=>h4 (hk _ e),fun k hb=>⟨fun e=>(h5 k hb).1 (hk _ e),(h5 k hb).2⟩⟩
theorem Hd.box {w W:World} {base g gs:Nat} {K:Nat→Prop} {first all:Int} {ts:List Cg} {l:List UInt8} (h:Hd w base g gs K first all ts l) (hb:Below w.heap.size w W) (hl:w.heap.size<W.heap.size):Hd W base g gs (fun k=>K k∨k=w.heap.size) first all ts l:=by
 have h0:=h
 obtain⟨T,d,h1,⟨A,c,h2⟩,h3,h4,h5⟩:=h0
 have hg:=h2.blk.lt
 have hgs:=h1.blk.lt
 have h1':=h1.keep (K:=K) (Keep.DK hb)
 have h2':=h2.Ee hb
 refine⟨T,d,h1',⟨A,c,h2'.blk,h2'.own,h2'.low,?_,?_,?_⟩,h3,?_,?_⟩
 ·rintro((e | e) | e | e)
  ·exact h2.kg (.inl e)
  ·omega
  ·exact h2.kg (.inr (.inl e))
  ·exact h2.kg (.inr (.inr e))
 ·intro k hk
  refine⟨?_,(h2.apart k hk).2⟩
  have:=(h2.own.lt k hk).2
  rintro((e | e) | e | e)
  ·exact(h2.apart k hk).1 (.inl e)
  ·omega
  ·exact(h2.apart k hk).1 (.inr (.inl e))
  ·exact(h2.apart k hk).1 (.inr (.inr e))
 ·rintro k ((e | e) | e | e)
  ·have:=h2.lt k (.inl e);omega
  ·omega
  ·have:=h2.lt k (.inr (.inl e));omega
  ·have:=h2.lt k (.inr (.inr e));omega
 ·rintro(e | e)
  ·exact h4 e
  ·omega
 ·intro k hk
  have:=(h1.own.lt k hk).2
  exact⟨fun e=>e.elim (h5 k hk).1 (fun e=>by omega),(h5 k hk).2⟩
theorem Hd.of {w w':World} {base g gs:Nat} {K:Nat→Prop} {first all':Int} {ts:List Cg} {l':List UInt8} {T:Option Addr} {d:Nat} (h1:sJ w base gs first ts T d) (h3:base≤gs) (h4: ¬K gs) (h5: ∀k,(Value.slice T ts.length d).ownBlock=some k→ ¬K k∧k≠gs)
 (hk:Keep (KT K gs (.slice T ts.length d)) w w') (hw:Wr w' base g (KT K gs (.slice T ts.length d)) (.pointer (some ⟨gs,0,none⟩)) all' l'):Keep K w w'∧Hd w' base g gs K first all' ts l':=
 ⟨hk.mono fun k hk=> .inl hk,T,d,h1.keep hk,hw,h3,h4,h5⟩
section
variable {base g gs:Nat} {K:Nat→Prop} {first:Int} {ts:List Cg} {l:List UInt8} {w:World}
theorem NI (n:Nat) (hn:n<9223372036854775808) {all:Int} (h:Hd w base g gs K first all ts l) (hl:l.length≤1099511627776) (hbase:base≤w.heap.size):
 Calls prog 158 #[.pointer (some ⟨g,0,none⟩),.int .i64 n] w fun e w'=>e= .returned (.tuple #[])∧Keep K w w'∧Hd w' base g gs K first all ts (l++enc n):=by
 obtain⟨T,d,h1,h2,h3,h4,h5⟩:=h
 exact(QB n hn base g _ _ all l w h2 hl hbase).mono fun e w' ⟨he,hk,hw⟩=>⟨he,Hd.of h1 h3 h4 h5 hk hw⟩
theorem O5 (s:ByteArray) (h47:s.size≤70368744177664) {all:Int} (h:Hd w base g gs K first all ts l) (hl:l.length≤1099511627776) (hbase:base≤w.heap.size):
 Calls prog 153 #[.pointer (some ⟨g,0,none⟩),.string s] w fun e w'=>e= .returned (.tuple #[])∧Keep K w w'∧Hd w' base g gs K first all ts (l++Fp s):=by
 obtain⟨T,d,h1,h2,h3,h4,h5⟩:=h
 exact(sI s h47 base g _ _ all l w h2 hl hbase).mono fun e w' ⟨he,hk,hw⟩=>⟨he,Hd.of h1 h3 h4 h5 hk hw⟩
theorem MX.of {w w':World} {err:Int} {e:Ending} {K1 K:Nat→Prop} {P Q:Prop} (hk:Keep K1 w w') (hm: ∀k,K k→K1 k) (h:MX err e P) (hp:P→Q):Keep K w w'∧MX err e Q:=
 ⟨hk.mono hm,h.imp (fun h=>⟨h.1,h.2.1,hp h.2.2⟩) id⟩
theorem Ki (n most:Nat) (hn:n<9223372036854775808) {all:Int} (h:Hd w base g gs K first all ts l) (hl:l.length≤1099511627776) (hbase:base≤w.heap.size):
 Calls prog 151 #[.pointer (some ⟨g,0,none⟩),.int .i64 n,.int .i64 most] w fun e w'=>Keep K w w'∧MX (Ae (decide (n≤most)) 20) e (Hd w' base g gs K first all ts (l++enc n)):=by
 obtain⟨T,d,h1,h2,h3,h4,h5⟩:=h
 exact(kY n most hn base g _ _ all l w h2 hl hbase).mono fun e w' ⟨hk,hw⟩=>hw.of hk (fun k hk=> .inl hk) fun hp=>(Hd.of h1 h3 h4 h5 hk hp).2
theorem SI (n:Int) (below:Nat) (hn:n<9223372036854775808) {all:Int} (h:Hd w base g gs K first all ts l) (hl:l.length≤1099511627776) (hbase:base≤w.heap.size):
 Calls prog 155 #[.pointer (some ⟨g,0,none⟩),.int .i64 n,.int .i64 below] w fun e w'=>Keep K w w'∧MX (Ae (decide (0≤n∧n<below)) 30) e (Hd w' base g gs K first all ts (l++enc n.toNat)):=by
 obtain⟨T,d,h1,h2,h3,h4,h5⟩:=h
 exact(kZ n below hn base g _ _ all l w h2 hl hbase).mono fun e w' ⟨hk,hw⟩=>hw.of hk (fun k hk=> .inl hk) fun hp=>(Hd.of h1 h3 h4 h5 hk hp).2
theorem sP (n:Nat) (hn:n≤2147483647) {all:Nat} (ha:all≤2147483647) (h:Hd w base g gs K first all ts l):
 Calls prog 160 #[.pointer (some ⟨g,0,none⟩),.int .i64 n,.int .i64 0] w fun e w'=>Keep K w w'∧MX (Cq (Ae (decide (n≤2048)) 20) (Ae (decide (all+n≤16384)) 20)) e (Hd w' base g gs K first ((all+n:Nat):Int) ts l):=by
 obtain⟨T,d,h1,h2,h3,h4,h5⟩:=h
 exact(sM n hn base g _ _ all ha l w h2).mono fun e w' ⟨hk,hw⟩=>hw.of hk (fun k hk=> .inl hk) fun hp=>(Hd.of h1 h3 h4 h5 hk hp).2
theorem lD (n:Nat) (x:Cg) {all:Int} (h:Hd w base g gs K first all ts l) (hn:ts.length=n+1) (hx:ts[n]?=some x) (h47:n≤1000000):
 Calls prog 154 #[.pointer (some ⟨g,0,none⟩),.int .i64 0] w fun e w'=>Below w.heap.size w w'∧Ends (Ae (!(ts.take n).any (fun y=>KW y x)) 16) 0 e:=by
 have hc:=h.lC
 obtain⟨T,d,h1,h2,h3,h4,h5⟩:=h
 exact ku base g gs first ts T d n x w hc h1 hn hx h47
theorem sQ (t:Nat) (x:Cg) {all:Int} (h:Hd w base g gs K first all ts l) (hx:ts[t]?=some x) (hp:x.p.size≤1000000):
 Calls prog 159 #[.pointer (some ⟨g,0,none⟩),.int .i64 t] w fun e w'=>w'=w∧e= .returned (.int .i64 (64-x.p.size)):=by
 have hc:=h.lC
 obtain⟨T,d,h1,h2,h3,h4,h5⟩:=h
 exact sK base g gs first ts T d t x w hc h1 hx hp
theorem fQ (x:Int) (A:Option Addr) (k c lo hi:Nat) (q:List Gh) {all:Int} (h:Hd w base g gs K first all ts l)
 (hr:(Ib.sl false).R w lo hi [.slice A k c] q) (hf0:0≤first) (hf1:first≤64) (hx: -9223372036854775808≤x∧x<9223372036854775808) (hok: ∀y∈q,0≤y.at_∧y.at_≤262144∧y.b.length≤262144) (hk:k≤1000000):
 Calls prog 162 #[.pointer (some ⟨g,0,none⟩),.int .i64 x,.slice A k c,.int .i64 0] w fun e w'=>Below w.heap.size w w'∧
  Ends (Cq (Ae (decide (0≤x∧x≤first*4096)) 17) (if k=0 then 0 else match q[k-1]? with | none=>0 | some y=>Ae (decide (y.at_+y.b.length<x)) 18)) 0 e:=by
 have hc:=h.lC
 obtain⟨T,d,h1,h2,h3,h4,h5⟩:=h
 exact fO base g gs first x ts T d A k c lo hi q w hc h1 hr hf0 hf1 hx hok hk
theorem Hd.type {all:Int} {W:World} {T:Option Addr} {d:Nat} {x:Cg} (h1:sJ w base gs first ts T d) (h2:Wr w base g (KT K gs (.slice T ts.length d)) (.pointer (some ⟨gs,0,none⟩)) all l) (h3:base≤gs) (h4: ¬K gs) (h5: ∀k,(Value.slice T ts.length d).ownBlock=some k→ ¬K k∧k≠gs)
 (hx:Rd.Pq x.p∧Rd.Pq x.r) {T':Option Addr} {d':Nat} (hg:w.grownBy W (Value.slice T ts.length d).ownBlock) (ho:W.ownsRow base 93 2 (.slice T' (ts.length+1) d') (ts.length+1) (ts.flatMap Ov++Ov x))
 (hb:(Value.slice T' (ts.length+1) d').ownBlock=(Value.slice T ts.length d).ownBlock∨(Value.slice T' (ts.length+1) d').ownBlock=some w.heap.size):
 Keep K w (W.setCell ⟨gs,0,none⟩ (.slice T' (ts.length+1) d'))∧Hd (W.setCell ⟨gs,0,none⟩ (.slice T' (ts.length+1) d')) base g gs K first all (ts++ [x]) l:=by
 obtain⟨A,c,h2⟩:=h2
 have hgs:=h1.blk.lt
 have hgl:=h2.blk.lt
 have hnew: ∀k,(Value.slice T' (ts.length+1) d').ownBlock=some k→ ¬K k∧k≠gs∧k≠g∧(Value.slice A l.length c).ownBlock≠some k:=fun k hk=>by
  rcases hb with e | e
  ·rw [e] at hk
   refine⟨(h5 k hk).1,(h5 k hk).2,fun e'=>h2.kg (e'▸ .inr (.inr hk)),fun e'=>(h2.apart k e').1 (.inr (.inr hk))⟩
  ·rw [e] at hk;injection hk with hk;subst hk
   refine⟨fun hK=>by have:=h2.lt _ (.inl hK);omega,by omega,by omega,fun e'=> ?_⟩
   have:=h2.own.lt _ e'
   omega
 have hlen:(ts++ [x]).length=ts.length+1:=by simp
 have hk:Keep K w (W.setCell ⟨gs,0,none⟩ (.slice T' (ts.length+1) d')):=((Keep.refl K w).grown hg (fun k hk=>(h5 k hk).1)).setCell h4 _
 have hka: ∀v,Keep (fun k=>k=g∨(Value.slice A l.length c).ownBlock=some k) w (W.setCell ⟨gs,0,none⟩ v):=fun v=>
  ((Keep.refl _ w).grown hg (fun k hk e=>by
    rcases e with e | e
    ·subst e;exact h2.kg (.inr (.inr hk))
    ·exact(h2.apart k e).1 (.inr (.inr hk)))).setCell (fun e=>by
    rcases e with e | e
    ·exact h2.kg (.inr (.inl e.symm))
    ·exact(h2.apart gs e).1 (.inr (.inl rfl))) _
 refine⟨hk,T',d',⟨?_,?_,fun y hy=> ?_⟩,⟨A,c,⟨?_,?_,h2.low,?_,?_,?_⟩⟩,h3,h4,?_⟩
 ·rw [hlen]
  have:AQ W gs 29 _:=(hg.block gs hgs (fun e=>(h5 gs e.symm).2 rfl)).trans h1.blk
  exact this.set 0 _
 ·rw [hlen,List.flatMap_append]
  have: [x].flatMap Ov=Ov x:=by simp
  rw [this]
  exact BD ho (fun e=>(hnew gs e).2.1 rfl) _
 ·rcases List.mem_append.1 hy with hy | hy
  ·exact h1.ok y hy
  ·rw [List.mem_singleton] at hy;subst hy;exact hx
 ·exact h2.blk.keep (hka _) (.inl rfl)
 ·exact h2.own.C8 (hka _) fun k hk=> .inr hk
 ·rw [hlen]
  rintro(e | e | e)
  ·exact h2.kg (.inl e)
  ·exact h2.kg (.inr (.inl e))
  ·exact(hnew g e).2.2.1 rfl
 ·intro k hk
  refine⟨?_,(h2.apart k hk).2⟩
  rw [hlen]
  rintro(e | e | e)
  ·exact(h2.apart k hk).1 (.inl e)
  ·exact(h2.apart k hk).1 (.inr (.inl e))
  ·exact(hnew k e).2.2.2 hk
 ·intro k hk
  rw [hlen] at hk
  have hsz:=hg.size
  have hs2:(W.setCell ⟨gs,0,none⟩ (.slice T' (ts.length+1) d')).heap.size=W.heap.size:=by simp [World.setCell]
  rw [hs2]
  rcases hk with e | e | e
  ·have:=h2.lt k (.inl e);omega
  ·omega
  ·have:=ho.lt k e;omega
 ·intro k hk
  rw [hlen] at hk
  exact⟨(hnew k hk).1,(hnew k hk).2.1⟩
end
end Go.Proofs.YtlagonfamllgjaaGreatDoor
