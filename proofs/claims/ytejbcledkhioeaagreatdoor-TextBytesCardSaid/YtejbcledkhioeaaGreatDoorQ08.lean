/- Part 8 of the proof: DecB OpenM -/
import Derived.Test.YtejbcledkhioeaaGreatDoorQ07
namespace Go.Proofs.YtejbcledkhioeaaGreatDoor
set_option linter.unusedVariables false
set_option linter.unusedSimpArgs false
set_option maxRecDepth 100000
set_option maxHeartbeats 4000000
open Go.RowKit Tryz
theorem bn (v:Value) (s:ByteArray) (most:Int) (h47:s.size≤140737488351232) (pl:Int) (w:World):
 Calls prog 114 #[v,.string s,.int .i64 most,.int .i64 pl] w fun e w'=>Below w.heap.size w w'∧Ends (Bq s most) pl e:=by
 go_enter func114,ntmps114
 go_wp2_with fail
 refine(DT _ 13 pl (by decide) _).mono ?_
 rintro e w1 ⟨rfl,⟨h0,rfl⟩ | ⟨h0,rfl⟩⟩
 ·have H0:=AA h0;clear h0
  go_wp2_with fail
  refine(TA s h47 _).mono ?_
  rintro e w1 ⟨h1,rfl⟩
  have H1:=AA h1;clear h1
  rw [show KV 256 s.data.toList=Ry s from rfl]
  go_wp2_with fail
  refine(DT _ 15 pl (by decide) _).mono ?_
  rintro e w2 ⟨rfl,⟨h0,rfl⟩ | ⟨h0,rfl⟩⟩
  ·have H2:=AA h0;clear h0
   go_wp2_with fail
   go_end0
   exact⟨H1.out,.inl ⟨by unfold Bq;rw [AZ H0.out];exact H2.out,rfl⟩⟩
  ·have H2:=AA h0;clear h0
   go_wp2_with fail
   have he:Bq s most=Ae (Ry s) 15:=by unfold Bq;rw [AZ H0.out]
   exact⟨rfl,H1.out,.inr ⟨by rw [he];exact H2.out,by rw [he]⟩⟩
 ·have H0:=AA h0;clear h0
  go_wp2_with fail
  have he:Bq s most=Ae (decide ((s.size:Int)≤most)) 13:=by unfold Bq;rw [DR H0.out]
  exact⟨rfl,Below.refl _ _,.inr ⟨by rw [he];exact H0.out,by rw [he]⟩⟩
theorem pz (g gs B:Nat) (ts:List DI) (T:Option Addr) (d n:Nat) (x:DI) (pl:Int) (w:World) (hg:w.cell? ⟨g,0,none⟩=some (.pointer (some ⟨gs,0,none⟩))) (hs0:w.cell? ⟨gs,0,none⟩=some (.slice T ts.length d)) (hr:(LD.sl false).R w B w.heap.size [.slice T ts.length d] ts) (hcp:ts.length≤d)
 (hn:ts.length=n+1) (hx:ts[n]?=some x) (h47:n≤1000000):
 Calls prog 102 #[.pointer (some ⟨g,0,none⟩),.int .i64 pl] w fun e w'=>Below w.heap.size w w'∧Ends (Ae (!(ts.take n).any (fun y=>Lg y x)) 16) pl e:=by
 rw [hn] at hr
 have Hr:=AA hr
 obtain⟨b,o,rfl,_,Nw,hx0,hx1,XY,XZ⟩:=KF hr hx
 have hc0:w.cell? ⟨gs,0,none⟩=some (.slice (some ⟨b,o,none⟩) (n+1) d):=by have:=hs0;rw [hn] at this;exact this
 have Hx:=AA hx
 have hcap:n+1≤d:=by omega
 have ABD:n≤d:=by omega
 clear hs0 hcp hr hn hx XY XZ
 go_enter func102,ntmps102
 go_wp2_with fail
 go_loopw [20] (fun i wr=> ∃k:Nat,k≤n∧i= .int .i64 k∧Below w.heap.size w wr∧ ∀j y,j<k→ts[j]?=some y→y≠x) (fun i _=>n-(intOf i).toNat)
 case atStart=>exact⟨0,Nat.zero_le _,rfl,Below.refl _ _,fun j y hj=>absurd hj (by omega)⟩
 case round=>
  obtain⟨k,hk,rfl,hbel,hall⟩:=hrel
  have Vw:=AA hall;have Hb:=AA hbel;clear hall hbel
  by_cases hlt:k<n
  ·have hlen:=EI Hr.out
   obtain⟨y,hy⟩: ∃y,ts[k]?=some y:=⟨_,List.getElem?_eq_getElem (by omega)⟩
   obtain⟨b',o',he,_,_,hy0,hy1,_,_⟩:=KF Hr.out hy
   injection he with he
   injection he with he1 he2
   subst he1 he2
   have Hy:=AA hy
   have ha0:=(Hb.out.cell (p:=⟨b,o+k*2,none⟩) Nw).trans hy0
   have ha1:=(Hb.out.cell (p:=⟨b,o+k*2+1,none⟩) Nw).trans hy1
   have hb0:=(Hb.out.cell (p:=⟨b,o+n*2,none⟩) Nw).trans hx0
   have hb1:=(Hb.out.cell (p:=⟨b,o+n*2+1,none⟩) Nw).trans hx1
   have hk0:(0:Int)≤k:=by omega
   clear hy hy0 hy1 hlen
   go_wp2_with fail
   generalize hw:wr.alloc _=w1
   have H1:Hid (Below w.heap.size w w1):=by rw [←hw];exact AA (Hb.out.alloc Hb.out.size _)
   have qy:Hid (AL w1 wr.heap.size 51 [.string y.p,.string y.r]):=by rw [←hw];exact AA (AL.new wr 51 [.string y.p,.string y.r])
   have hd0:=(H1.out.cell (p:=⟨b,o+n*2,none⟩) Nw).trans hx0
   have hd1:=(H1.out.cell (p:=⟨b,o+n*2+1,none⟩) Nw).trans hx1
   have hn0:=qy.out.q 0 rfl
   have hn1:=qy.out.q 1 rfl
   clear hw ha0 ha1 hb0 hb1
   have hi0:(0:Int)≤n:=by omega
   have hi1:(n:Int)<(n:Int)+1:=by omega
   have hi2:(n:Int)<((n+1:Nat):Int):=by omega
   have hw1:IntKind.i64.wrap (n:Int)=(n:Int):=by rw [IntKind.wrap_i64];omega
   have hw2:IntKind.i64.wrap ((n:Int)+1-1)=(n:Int):=by rw [IntKind.wrap_i64];omega
   by_cases h0:y.p=x.p
   case neg=>
    have HN:Hid (∀j z,j<k+1→ts[j]?=some z→z≠x):=AA (fun j z hj hz=>by
     by_cases hjk:j<k
     ·exact Vw.out j z hjk hz
     ·obtain rfl:j=k:=by omega
      rw [Hy.out] at hz
      injection hz with hz
      subst hz
      exact fun e=>h0 (by rw [e]))
    have hne:=Ol h0
    clear h0
    go_region_held3 (fun w'=>w'.cell? ⟨wr.heap.size,0,none⟩=some (.string y.p)∧w'.cell? ⟨wr.heap.size,1,none⟩=some (.string y.r)∧w'.cell? ⟨b,o+n*2,none⟩=some (.string x.p)∧w'.cell? ⟨b,o+n*2+1,none⟩=some (.string x.r)) (first | exact⟨hn0,hn1,hd0,hd1⟩)
     (first | (go_at_call 68;refine(Af 16 pl _).mono ?_;rintro e w' ⟨rfl,rfl⟩))
    go_wp2_with fail
    exact⟨⟨k+1,by omega,by go_num,below_drewN H1.out 1,HN.out⟩,by simp [intOf];omega⟩
   rw [h0] at hn0
   by_cases h1:y.r=x.r
   case neg=>
    have h0:=h1
    have HN:Hid (∀j z,j<k+1→ts[j]?=some z→z≠x):=AA (fun j z hj hz=>by
     by_cases hjk:j<k
     ·exact Vw.out j z hjk hz
     ·obtain rfl:j=k:=by omega
      rw [Hy.out] at hz
      injection hz with hz
      subst hz
      exact fun e=>h0 (by rw [e]))
    have hne:=Ol h0
    clear h0
    go_region_held3 (fun w'=>w'.cell? ⟨wr.heap.size,0,none⟩=some (.string x.p)∧w'.cell? ⟨wr.heap.size,1,none⟩=some (.string y.r)∧w'.cell? ⟨b,o+n*2,none⟩=some (.string x.p)∧w'.cell? ⟨b,o+n*2+1,none⟩=some (.string x.r)) (first | exact⟨hn0,hn1,hd0,hd1⟩)
     (first | (go_at_call 68;refine(Af 16 pl _).mono ?_;rintro e w' ⟨rfl,rfl⟩))
    go_wp2_with fail
    exact⟨⟨k+1,by omega,by go_num,below_drewN H1.out 1,HN.out⟩,by simp [intOf];omega⟩
   rw [h1] at hn1
   have HX:Hid (y=x):=AA (by cases y;cases x;simp_all)
   have hE:Hid (Ae (!(ts.take n).any (fun z=>Lg z x)) 16=16):=AA (QN (by rw [fE (by rw [Hy.out,HX.out]) hlt];rfl))
   clear h0 h1
   go_region_dies
   all_goals
    refine(Ah 16 pl _).mono ?_
    rintro e w' ⟨rfl,rfl⟩
    exact⟨rfl,below_drewN H1.out 1,.inr ⟨by rw [hE.out];decide,by rw [hE.out]⟩⟩
  ·obtain rfl:k=n:=by omega
   have hE:Hid (Ae (!(ts.take k).any (fun z=>Lg z x)) 16=0):=AA (EL (by rw [fD Vw.out];rfl))
   go_wp2_with fail
   go_end0
   exact⟨Hb.out,.inl ⟨hE.out,rfl⟩⟩
theorem u_ (g gs B:Nat) (ts:List DI) (T:Option Addr) (d t:Nat) (x:DI) (w:World) (hg:w.cell? ⟨g,0,none⟩=some (.pointer (some ⟨gs,0,none⟩))) (hs0:w.cell? ⟨gs,0,none⟩=some (.slice T ts.length d)) (hr:(LD.sl false).R w B w.heap.size [.slice T ts.length d] ts)
 (hx:ts[t]?=some x) (hp:x.p.size≤1000000):
 Calls prog 120 #[.pointer (some ⟨g,0,none⟩),.int .i64 t] w fun e w'=>w'=w∧e= .returned (.int .i64 (64-x.p.size)):=by
 obtain⟨b,o,rfl,_,Nw,hx0,hx1,XY,XZ⟩:=KF hr hx
 have hlt:=(List.getElem?_eq_some_iff.1 hx).1
 have hc0:w.cell? ⟨gs,0,none⟩=some (.slice (some ⟨b,o,none⟩) ts.length d):=hs0
 have ht0:(0:Int)≤t:=by omega
 have ht1:(t:Int)<ts.length:=by omega
 clear hs0 hr hx XY XZ
 go_enter func120,ntmps120
 go_wp2_with fail
 go_ret
 exact⟨rfl,rfl⟩
theorem j5 (g gs:Nat) (first x:Int) (A:Option Addr) (k c lo hi:Nat) (l:List EU) (pl:Int) (w:World) (hg:w.cell? ⟨g,0,none⟩=some (.pointer (some ⟨gs,0,none⟩))) (hs3:w.cell? ⟨gs,3,none⟩=some (.int .i64 first))
 (hr:(JC.sl false).R w lo hi [.slice A k c] l) (hf0:0≤first) (hf1:first≤64) (hx: -9223372036854775808≤x∧x<9223372036854775808) (hok: ∀y∈l,0≤y.at_∧y.at_≤262144∧y.b.length≤262144) (hk:k≤1000000):
 Calls prog 110 #[.pointer (some ⟨g,0,none⟩),.int .i64 x,.slice A k c,.int .i64 pl] w fun e w'=>Below w.heap.size w w'∧
  Ends (II (Ae (decide (0≤x∧x≤first*4096)) 17) (if k=0 then 0 else match l[k-1]? with | none=>0 | some y=>Ae (decide (y.at_+y.b.length<x)) 18)) pl e:=by
 generalize Wi:II _ _=EE
 have HE:=AA Wi
 clear Wi
 have Hr:=AA hr
 have hc3:w.cell? ⟨gs,3,none⟩=some (.int .i64 first):=hs3
 have hlen:=EI hr
 clear hs3 hr
 have hw:IntKind.i64.wrap (first*4096)=first*4096:=by rw [IntKind.wrap_i64];omega
 by_cases hx0:x<0
 ·have hE:Hid (Ae (decide (0≤x∧x≤first*4096)) 17=17):=AA (QN (decide_eq_false (by omega)))
  have d0:decide (0≤x)=false:=decide_eq_false (by omega)
  clear hx0 hlen
  go_enter func110,ntmps110
  go_wp2_with fail
  refine(Ah 17 pl _).mono ?_
  rintro e w1 ⟨rfl,rfl⟩
  go_wp2_with fail
  have hX:EE=17:=by rw [←HE.out,hE.out,DR (by decide)]
  exact⟨rfl,Below.refl _ _,.inr ⟨by rw [hX];decide,by rw [hX]⟩⟩
 have hx00:0≤x:=by omega
 have hE:Hid (Ae (decide (0≤x∧x≤first*4096)) 17=Ae (decide (x≤first*4096)) 17):=AA (KA 17 (by omega))
 clear hx0
 go_enter func110,ntmps110
 go_wp2_with fail
 refine(DT _ 17 pl (by decide) _).mono ?_
 rintro e w1 ⟨rfl,⟨h0,rfl⟩ | ⟨h0,rfl⟩⟩
 ·rw [←hE.out] at h0
  have H0:=AA h0;clear h0
  by_cases hk0:k=0
  ·subst hk0
   go_wp2_with fail
   go_end0
   exact⟨Below.refl _ _,.inl ⟨by have:=HE.out;rw [AZ H0.out] at this;simpa using this.symm,rfl⟩⟩
  ·obtain⟨y,hy⟩: ∃y,l[k-1]?=some y:=⟨_,List.getElem?_eq_getElem (by omega)⟩
   obtain⟨b,o,Vh,Tz,rfl,_,_,ZR,ni,NH,hb⟩:=NW Hr.out hy
   have hyb:=hok y (List.mem_of_getElem? hy)
   have hS:Hid ((if k=0 then(0:Int) else match l[k-1]? with | none=>0 | some y=>Ae (decide (y.at_+y.b.length<x)) 18)=Ae (decide (y.at_+y.b.length<x)) 18):=AA (by rw [if_neg hk0,hy])
   obtain⟨j,rfl⟩: ∃j,k=j+1:=⟨k-1,by omega⟩
   have hj:j+1-1=j:=rfl
   rw [hj] at ZR ni
   have hj0:(0:Int)≤j:=by omega
   have hj1:(j:Int)<(j:Int)+1:=by omega
   have hj2:(j:Int)<((j+1:Nat):Int):=by omega
   have hjw:IntKind.i64.wrap (j:Int)=(j:Int):=by rw [IntKind.wrap_i64];omega
   have hjw2:IntKind.i64.wrap ((j:Int)+1-1)=(j:Int):=by rw [IntKind.wrap_i64];omega
   have hsw:IntKind.i64.wrap (y.at_+(y.b.length:Int))=y.at_+y.b.length:=by rw [IntKind.wrap_i64];omega
   have hk1:decide (0<(j:Int)+1)=true:=decide_eq_true (by omega)
   clear hy hyb hk0 hlen hok
   go_wp2_with fail
   have HT:Hid (EE=Ae (decide (y.at_+y.b.length<x)) 18):=AA (by rw [←HE.out,AZ H0.out,hS.out])
   by_cases hlt:y.at_+(y.b.length:Int)<x
   ·have dl:decide (y.at_+(y.b.length:Int)<x)=true:=decide_eq_true hlt
    have HZ:Hid (EE=0):=AA (by rw [HT.out,dl];rfl)
    clear hlt
    go_region_held3 (fun w'=>w'.cell? ⟨b,o+j*2,none⟩=some (.int .i64 y.at_)∧w'.cell? ⟨b,o+j*2+1,none⟩=some (.slice Vh y.b.length Tz)) (first | exact⟨ZR,ni⟩)
     (first | (go_at_call 68;refine(Af 18 pl _).mono ?_;rintro e w' ⟨rfl,rfl⟩))
    go_wp2_with fail
    go_end0
    exact⟨below_drewN (Below.refl _ _) 1,.inl ⟨HZ.out,rfl⟩⟩
   ·have dl:decide (y.at_+(y.b.length:Int)<x)=false:=decide_eq_false hlt
    have HZ:Hid (EE=18):=AA (by rw [HT.out,dl];rfl)
    clear hlt
    go_region_dies
    all_goals
     refine(Ah 18 pl _).mono ?_
     rintro e w' ⟨rfl,rfl⟩
     exact⟨rfl,below_drewN (Below.refl _ _) 1,.inr ⟨by rw [HZ.out];decide,by rw [HZ.out]⟩⟩
 ·rw [←hE.out] at h0⊢
  have H0:=AA h0;clear h0
  go_wp2_with fail
  have hX:=HE.out
  rw [DR H0.out] at hX
  exact⟨rfl,Below.refl _ _,.inr ⟨by rw [←hX];exact H0.out,by rw [←hE.out,hX]⟩⟩
theorem p9 (s:ByteArray) (h47:s.size≤140737488351232) (A:Option Addr) (n c lo hi:Nat) (l:List Jy) (pl:Int) (w:World) (hr:(Lf.sl false).R w lo hi [.slice A n c] l) (hn:n≤1000000):
 Calls prog 112 #[.string s,.slice A n c,.int .i64 pl] w fun e w'=>Below w.heap.size w w'∧Ends (II (Ql s) (Ni l n s)) pl e:=by
 generalize Wi:II _ _=EE
 have HE:=AA Wi
 clear Wi
 unfold Ql at HE
 have Hr:=AA hr
 have hlen:=EI hr
 clear hr
 subst hlen
 have E1:Hid (Ae (decide ((s.size:Int)≤32)) 13=Ae (decide (s.size≤32)) 13):=AA (KA 13 (by omega))
 have hsz:s.data.toList.length=s.size:=by simp
 have yT:=AA hsz;clear hsz
 go_enter func112,ntmps112
 go_wp2_with fail
 refine(DT _ 13 pl (by decide) _).mono ?_
 rintro e w1 ⟨rfl,⟨h0,rfl⟩ | ⟨h0,rfl⟩⟩
 case inr=>
  rw [E1.out] at h0⊢
  have H0:=AA h0;clear h0
  go_wp2_with fail
  have hX:=HE.out
  rw [EG,DR H0.out] at hX
  exact⟨rfl,Below.refl _ _,.inr ⟨by rw [←hX];exact H0.out,by rw [←hX]⟩⟩
 rw [E1.out] at h0
 have H0:=AA h0;clear h0
 by_cases hz:s.size=0
 ·have hs:s=ByteArray.empty:=by apply ByteArray.ext;apply Array.eq_empty_of_size_eq_zero;exact hz
  have hX:Hid (EE=23):=AA (by
   have hX:=HE.out
   rw [EG,AZ H0.out,EG,hz] at hX
   exact hX.symm)
  subst hs
  go_wp2_with fail
  refine(Ah 23 pl _).mono ?_
  rintro e w1 ⟨rfl,rfl⟩
  go_wp2_with fail
  exact⟨rfl,Below.refl _ _,.inr ⟨by rw [hX.out];decide,by rw [hX.out]⟩⟩
 have hne:s.toList.isEmpty=false:=by rw [ByteArray.toList_eq];cases h:s.data.toList with | nil=>exact absurd (by rw [←yT.out,h];rfl) hz | cons a b=>rfl
 have HZ:Hid (EE=II (Ae (s.data.toList.all Qe) 23) (Ni l l.length s)):=AA (by
  have hX:=HE.out
  rw [EG,AZ H0.out,EG,AZ (EL (decide_eq_true (by omega)))] at hX
  exact hX.symm)
 clear hz HE
 go_wp2_with fail
 refine(Af 23 pl _).mono ?_
 rintro e w1 ⟨rfl,rfl⟩
 clear hne
 go_upto_block 0 with fail
 go_cut [] (fun wx=>wx=w∧Ae (s.data.toList.all Qe) 23=0)
 case first=>
  go_wp2_with fail
  go_loopw [18] (fun i wr=> ∃k:Nat,k≤s.size∧i= .int .i64 k∧wr=w∧(s.data.toList.drop k).all Qe=s.data.toList.all Qe) (fun i _=>s.size-(intOf i).toNat)
  case atStart=>exact⟨0,Nat.zero_le _,rfl,rfl,rfl⟩
  case round=>
   obtain⟨k,hk,rfl,rfl,hR⟩:=hrel
   have HR2:=AA hR;clear hR
   by_cases hlt:k<s.size
   ·have Hd:=AA (drop_at s.data.toList k (by rw [yT.out];exact hlt))
    have hb:=byte_at s k hlt
    have Hb:=AA hb;clear hb
    have hk0:(0:Int)≤k:=by omega
    have hu8:(s.data.toList[k]?.getD 0).toNat<256:=UInt8.toNat_lt _
    have HR3:Hid ((Qe (s.data.toList[k]?.getD 0)&&(s.data.toList.drop (k+1)).all Qe)=s.data.toList.all Qe):=AA (by rw [←HR2.out,Hd.out];rfl)
    have hbn:(s[k]'hlt).toNat=(s.data.toList[k]?.getD 0).toNat:=congrArg UInt8.toNat Hb.out
    clear Hd HR2
    have hbad: ¬((32:Int)<((s[k]'hlt).toNat:Int)∧((s[k]'hlt).toNat:Int)<127)→EE=23:=fun h=>by
     have:Qe (s.data.toList[k]?.getD 0)=false:=by unfold Qe;exact decide_eq_false (by omega)
     have h2:=HR3.out
     rw [this] at h2
     rw [HZ.out,←h2];rfl
    have hgood:(32:Int)<((s[k]'hlt).toNat:Int)→((s[k]'hlt).toNat:Int)<127→(s.data.toList.drop (k+1)).all Qe=s.data.toList.all Qe:=fun h1 h2=>by
     have:Qe (s.data.toList[k]?.getD 0)=true:=by unfold Qe;exact decide_eq_true (by omega)
     rw [←HR3.out,this,Bool.true_and]
    have nk:=AA hbad;have nu:=AA hgood
    clear hbad hgood hbn HR3 Hb hu8
    by_cases hlo:(32:Int)<((s[k]'hlt).toNat:Int)
    case neg=>
     have hX:=nk.out (fun h=>hlo h.1)
     have HX:=AA hX;clear hX
     go_wp2_with fail
     refine(Ah 23 pl _).mono ?_
     rintro e w1 ⟨rfl,rfl⟩
     exact⟨rfl,Below.refl _ _,.inr ⟨by rw [HX.out];decide,by rw [HX.out]⟩⟩
    by_cases hhi2:((s[k]'hlt).toNat:Int)<127
    case neg=>
     have hX:=nk.out (fun h=>hhi2 h.2)
     have HX:=AA hX;clear hX
     go_wp2_with fail
     refine(Ah 23 pl _).mono ?_
     rintro e w1 ⟨rfl,rfl⟩
     exact⟨rfl,Below.refl _ _,.inr ⟨by rw [HX.out];decide,by rw [HX.out]⟩⟩
    have HG:=AA (nu.out hlo hhi2)
    go_wp2_with fail
    refine(Af 23 pl _).mono ?_
    rintro e w1 ⟨rfl,rfl⟩
    go_wp2_with fail
    refine⟨⟨k+1,by omega,by go_num,?_,HG.out⟩,by simp [intOf];omega⟩
    first | exact trivial | rfl
   ·have hge: ¬(k:Int)<s.size:=by omega
    have HT:Hid (s.data.toList.all Qe=true):=AA (by rw [←HR2.out,List.drop_of_length_le (by rw [yT.out];omega)];rfl)
    go_wp2_with fail
    go_meet
    exact⟨rfl,by rw [HT.out];rfl⟩
 case rest=>
  obtain⟨rfl,h23⟩:=hcut
  have HY:Hid (EE=Ni l l.length s):=AA (by rw [HZ.out,AZ h23])
  clear h23 HZ
  by_cases h0:l.length=0
  ·have hX:Hid (EE=0):=AA (by rw [HY.out];unfold Ni;rw [if_pos h0])
   rw [h0]
   go_wp2_with fail
   refine(Af 18 pl _).mono ?_
   rintro e w1 ⟨rfl,rfl⟩
   go_wp2_with fail
   go_end0
   exact⟨Below.refl _ _,.inl ⟨hX.out,rfl⟩⟩
  ·obtain⟨y,hy⟩: ∃y,l[l.length-1]?=some y:=⟨_,List.getElem?_eq_getElem (by omega)⟩
   obtain⟨b,o,rfl,_,_,hc0,_,_,_⟩:=NY Hr.out hy
   have hX:Hid (EE=Ae (!(UZ s y.n)) 18):=AA (by rw [HY.out];unfold Ni;rw [if_neg h0,hy])
   obtain⟨j,hj⟩: ∃j,l.length=j+1:=⟨l.length-1,by omega⟩
   clear hy HY Hr h0
   generalize l.length=n at*
   subst hj
   have hjj:j+1-1=j:=rfl
   rw [hjj] at hc0
   have hj0:(0:Int)≤j:=by omega
   have hj1:(j:Int)<(j:Int)+1:=by omega
   have hj3: ¬((j:Int)+1=0):=by omega
   have hgt:=fF 9 s y.n
   have hj4:((j:Int)+1==0)=false:=by rw [beq_eq_false_iff_ne];omega
   generalize UZ s y.n=bb at*
   go_wp2_with fail
   refine(DT _ 18 pl (by decide) _).mono ?_
   rintro e w1 ⟨rfl,⟨h0,rfl⟩ | ⟨h0,rfl⟩⟩
   ·have H0:=AA h0;clear h0
    go_wp2_with fail
    go_end0
    exact⟨Below.refl _ _,.inl ⟨by rw [hX.out];exact H0.out,rfl⟩⟩
   ·have H0:=AA h0;clear h0
    go_wp2_with fail
    exact⟨rfl,Below.refl _ _,.inr ⟨by rw [hX.out];exact H0.out,by rw [hX.out]⟩⟩

end Go.Proofs.YtejbcledkhioeaaGreatDoor
