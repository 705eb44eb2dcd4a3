/- Part 15 of the proof: ModE ModF ModG -/
import Derived.Test.YtebgikflpgcnlaaGreatDoorT14
namespace Go.Proofs.YtebgikflpgcnlaaGreatDoor
set_option linter.unusedVariables false
set_option linter.unusedSimpArgs false
set_option maxRecDepth 100000
set_option maxHeartbeats 4000000
open Go.RowKit Tryz
theorem wr_room (base g gs:Nat) (first:Int) (ts:List SigV) (T:Option Addr) (d t:Nat) (x:SigV) (w:World) (hg:w.cell? ⟨g,0,none⟩=some (.pointer (some ⟨gs,0,none⟩))) (hs:SnV w base gs first ts T d)
 (hx:ts[t]?=some x) (hp:x.p.size≤1000000):
 Calls prog 120 #[.pointer (some ⟨g,0,none⟩),.int .i64 t] w fun e w'=>w'=w∧e= .returned (.int .i64 (64-x.p.size)):=by
 have hr:=flat_sig.reads hs.own rfl hs.ok
 obtain⟨b,o,rfl,_,hbh,hx0,hx1,po_p,po_r⟩:=rSig_at hr hx
 have hlt:=(List.getElem?_eq_some_iff.1 hx).1
 have hc0:=hs.blk.q 0 rfl
 have ht0:(0:Int)≤t:=by omega
 have ht1:(t:Int)<ts.length:=by omega
 clear hs hr hx po_p po_r
 go_enter func120,ntmps120
 go_wp2_with fail
 go_ret
 exact⟨rfl,rfl⟩
theorem WrV.all' {W:World} {base g:Nat} {K:Nat→Prop} {mp:Value} {all:Int} {l:List UInt8} {A:Option Addr} {c:Nat} (h:WrV W base g K mp all l A c) (all':Int):
 Keep K W (W.setCell ⟨g,1,none⟩ (.int .i64 all'))∧WrV (W.setCell ⟨g,1,none⟩ (.int .i64 all')) base g K mp all' l A c:=
 ⟨(Keep.refl _ _).setCell h.kg _,h.blk.set 1 _,h.own.set_ne (fun e=>(h.apart g e).2 rfl) _,h.low,h.kg,h.apart,fun k hk=>by have:=h.lt k hk;simp [World.setCell];omega⟩
theorem askE_congr {p q:Prop} [Decidable p] [Decidable q] (e:Int) (h:p↔q):askE (decide p) e=askE (decide q) e:=by
 congr 1
 exact decide_eq_decide.2 h
theorem wr_code (n:Nat) (hn:n≤2147483647) (base g:Nat) (K:Nat→Prop) (mp:Value) (all:Nat) (ha:all≤2147483647) (l:List UInt8) (w:World) (h:Wr w base g K mp all l):
 Calls prog 121 #[.pointer (some ⟨g,0,none⟩),.int .i64 n,.int .i64 0] w fun e w'=>Keep K w w'∧WEnds (orE (askE (decide (n≤2048)) 20) (askE (decide (all+n≤16384)) 20)) e (Wr w' base g K mp ((all+n:Nat):Int) l):=by
 obtain⟨A,c,h⟩:=h
 have H:=hideIt h
 have hc1:=h.blk.q 1 rfl
 have hf:=h.blk.frozen 1
 have hnn:IntKind.i64.wrap ((all:Int)+n)=(all:Int)+n:=by rw [IntKind.wrap_i64];omega
 have E1:Hid (askE (decide ((n:Int)≤2048)) 20=askE (decide (n≤2048)) 20):=hideIt (askE_congr 20 (by omega))
 have E2:Hid (askE (decide ((all:Int)+n≤16384)) 20=askE (decide (all+n≤16384)) 20):=hideIt (askE_congr 20 (by omega))
 clear h
 go_enter func121,ntmps121
 go_wp2_with fail
 refine(mod_ask _ 20 0 (by decide) _).mono ?_
 rintro e w1 ⟨rfl,⟨h0,rfl⟩ | ⟨h0,rfl⟩⟩
 ·rw [E1.out] at h0
  have H0:=hideIt h0;clear h0
  go_wp2_with fail
  have HP:=hideIt (H.out.all' ((all:Int)+n))
  generalize w.setCell _ _=w2 at*
  refine(mod_ask _ 20 0 (by decide) _).mono ?_
  rintro e w1 ⟨rfl,⟨h0,rfl⟩ | ⟨h0,rfl⟩⟩
  ·rw [E2.out] at h0
   have H1:=hideIt h0;clear h0
   go_wp2_with fail
   go_end0
   refine⟨HP.out.1,.inl ⟨by rw [orE_r H0.out];exact H1.out,rfl,A,c,?_⟩⟩
   rw [Int.natCast_add]
   exact HP.out.2
  ·rw [E2.out] at h0⊢
   have H1:=hideIt h0;clear h0
   go_wp2_with fail
   exact⟨rfl,HP.out.1,.inr ⟨by rw [orE_r H0.out];exact H1.out,by rw [orE_r H0.out]⟩⟩
 ·rw [E1.out] at h0⊢
  have H0:=hideIt h0;clear h0
  go_wp2_with fail
  exact⟨rfl,Keep.refl _ _,.inr ⟨by rw [orE_l H0.out];exact H0.out,by rw [orE_l H0.out]⟩⟩
theorem wr_starts (base g gs:Nat) (first x:Int) (ts:List SigV) (T:Option Addr) (d:Nat) (A:Option Addr) (k c lo hi:Nat) (l:List DatV) (w:World) (hg:w.cell? ⟨g,0,none⟩=some (.pointer (some ⟨gs,0,none⟩))) (hs:SnV w base gs first ts T d)
 (hr:(rDat.sl false).R w lo hi [.slice A k c] l) (hf0:0≤first) (hf1:first≤64) (hx: -9223372036854775808≤x∧x<9223372036854775808) (hok: ∀y∈l,0≤y.at_∧y.at_≤262144∧y.b.length≤262144) (hk:k≤1000000):
 Calls prog 110 #[.pointer (some ⟨g,0,none⟩),.int .i64 x,.slice A k c,.int .i64 0] w fun e w'=>Below w.heap.size w w'∧
  Ends (orE (askE (decide (0≤x∧x≤first*4096)) 17) (if k=0 then 0 else match l[k-1]? with | none=>0 | some y=>askE (decide (y.at_+y.b.length<x)) 18)) 0 e:=by
 generalize hEE:orE _ _=EE
 have HE:=hideIt hEE
 clear hEE
 have Hr:=hideIt hr
 have hc3:=hs.blk.q 3 rfl
 have hlen:=sl_len hr
 clear hs hr
 have hw:IntKind.i64.wrap (first*4096)=first*4096:=by rw [IntKind.wrap_i64];omega
 by_cases hx0:x<0
 ·have hE:Hid (askE (decide (0≤x∧x≤first*4096)) 17=17):=hideIt (askE_f (decide_eq_false (by omega)))
  have d0:decide (0≤x)=false:=decide_eq_false (by omega)
  clear hx0 hlen
  go_enter func110,ntmps110
  go_wp2_with fail
  refine(mod_ask_no 17 0 _).mono ?_
  rintro e w1 ⟨rfl,rfl⟩
  go_wp2_with fail
  have hX:EE=17:=by rw [←HE.out,hE.out,orE_l (by decide)]
  exact⟨rfl,Below.refl _ _,.inr ⟨by rw [hX];decide,by rw [hX]⟩⟩
 have hx00:0≤x:=by omega
 have hE:Hid (askE (decide (0≤x∧x≤first*4096)) 17=askE (decide (x≤first*4096)) 17):=hideIt (askE_congr 17 (by omega))
 clear hx0
 go_enter func110,ntmps110
 go_wp2_with fail
 refine(mod_ask _ 17 0 (by decide) _).mono ?_
 rintro e w1 ⟨rfl,⟨h0,rfl⟩ | ⟨h0,rfl⟩⟩
 ·rw [←hE.out] at h0
  have H0:=hideIt h0;clear h0
  by_cases hk0:k=0
  ·subst hk0
   go_wp2_with fail
   go_end0
   exact⟨Below.refl _ _,.inl ⟨by have:=HE.out;rw [orE_r H0.out] at this;simpa using this.symm,rfl⟩⟩
  ·obtain⟨y,hy⟩: ∃y,l[k-1]?=some y:=⟨_,List.getElem?_eq_getElem (by omega)⟩
   obtain⟨b,o,A_b,c_b,rfl,_,_,hc_at,hc_b,hb63,hb⟩:=rDat_at Hr.out hy
   have hyb:=hok y (List.mem_of_getElem? hy)
   have hS:Hid ((if k=0 then(0:Int) else match l[k-1]? with | none=>0 | some y=>askE (decide (y.at_+y.b.length<x)) 18)=askE (decide (y.at_+y.b.length<x)) 18):=hideIt (by rw [if_neg hk0,hy])
   obtain⟨j,rfl⟩: ∃j,k=j+1:=⟨k-1,by omega⟩
   have hj:j+1-1=j:=rfl
   rw [hj] at hc_at hc_b
   have hj0:(0:Int)≤j:=by omega
   have hj1:(j:Int)<(j:Int)+1:=by omega
   have hj2:(j:Int)<((j+1:Nat):Int):=by omega
   have hjw:IntKind.i64.wrap (j:Int)=(j:Int):=by rw [IntKind.wrap_i64];omega
   have hjw2:IntKind.i64.wrap ((j:Int)+1-1)=(j:Int):=by rw [IntKind.wrap_i64];omega
   have hsw:IntKind.i64.wrap (y.at_+(y.b.length:Int))=y.at_+y.b.length:=by rw [IntKind.wrap_i64];omega
   have hk1:decide (0<(j:Int)+1)=true:=decide_eq_true (by omega)
   clear hy hyb hk0 hlen hok
   go_wp2_with fail
   have HT:Hid (EE=askE (decide (y.at_+y.b.length<x)) 18):=hideIt (by rw [←HE.out,orE_r H0.out,hS.out])
   by_cases hlt:y.at_+(y.b.length:Int)<x
   ·have dl:decide (y.at_+(y.b.length:Int)<x)=true:=decide_eq_true hlt
    have HZ:Hid (EE=0):=hideIt (by rw [HT.out,dl];rfl)
    clear hlt
    go_region_held3 (fun w'=>w'.cell? ⟨b,o+j*2,none⟩=some (.int .i64 y.at_)∧w'.cell? ⟨b,o+j*2+1,none⟩=some (.slice A_b y.b.length c_b)) (first | exact⟨hc_at,hc_b⟩)
     (first | (go_at_call 68;refine(mod_ask_yes 18 0 _).mono ?_;rintro e w' ⟨rfl,rfl⟩))
    go_wp2_with fail
    go_end0
    exact⟨below_drewN (Below.refl _ _) 1,.inl ⟨HZ.out,rfl⟩⟩
   ·have dl:decide (y.at_+(y.b.length:Int)<x)=false:=decide_eq_false hlt
    have HZ:Hid (EE=18):=hideIt (by rw [HT.out,dl];rfl)
    clear hlt
    go_region_dies
    all_goals
     refine(mod_ask_no 18 0 _).mono ?_
     rintro e w' ⟨rfl,rfl⟩
     exact⟨rfl,below_drewN (Below.refl _ _) 1,.inr ⟨by rw [HZ.out];decide,by rw [HZ.out]⟩⟩
 ·rw [←hE.out] at h0⊢
  have H0:=hideIt h0;clear h0
  go_wp2_with fail
  have hX:=HE.out
  rw [orE_l H0.out] at hX
  exact⟨rfl,Below.refl _ _,.inr ⟨by rw [←hX];exact H0.out,by rw [←hE.out,hX]⟩⟩
theorem str_gtr (t:TypeId) (a b:ByteArray):binOp .gtr t (.string a) (.string b)=pure (.bool (!(leStr a b))):=by simp [binOp,Op.stringOp,leStr]
theorem str_leq (t:TypeId) (a b:ByteArray):binOp .leq t (.string a) (.string b)=pure (.bool (leStr a b)):=by simp [binOp,Op.stringOp,leStr]
theorem mod_named (s:ByteArray) (h47:s.size≤140737488351232) (A:Option Addr) (n c lo hi:Nat) (l:List ExpV) (w:World) (hr:(rExp.sl false).R w lo hi [.slice A n c] l) (hn:n≤1000000):
 Calls prog 112 #[.string s,.slice A n c,.int .i64 0] w fun e w'=>Below w.heap.size w w'∧Ends (orE (nameE s) (ordE l n s)) 0 e:=by
 generalize hEE:orE _ _=EE
 have HE:=hideIt hEE
 clear hEE
 unfold nameE at HE
 have Hr:=hideIt hr
 have hlen:=sl_len hr
 clear hr
 subst hlen
 have E1:Hid (askE (decide ((s.size:Int)≤32)) 13=askE (decide (s.size≤32)) 13):=hideIt (askE_congr 13 (by omega))
 have hsz:s.data.toList.length=s.size:=by simp
 have Hsz:=hideIt hsz;clear hsz
 go_enter func112,ntmps112
 go_wp2_with fail
 refine(mod_ask _ 13 0 (by decide) _).mono ?_
 rintro e w1 ⟨rfl,⟨h0,rfl⟩ | ⟨h0,rfl⟩⟩
 case inr=>
  rw [E1.out] at h0⊢
  have H0:=hideIt h0;clear h0
  go_wp2_with fail
  have hX:=HE.out
  rw [orE_assoc,orE_l H0.out] at hX
  exact⟨rfl,Below.refl _ _,.inr ⟨by rw [←hX];exact H0.out,by rw [←hX]⟩⟩
 rw [E1.out] at h0
 have H0:=hideIt h0;clear h0
 by_cases hz:s.size=0
 ·have hs:s=ByteArray.empty:=by apply ByteArray.ext;apply Array.eq_empty_of_size_eq_zero;exact hz
  have hX:Hid (EE=23):=hideIt (by
   have hX:=HE.out
   rw [orE_assoc,orE_r H0.out,orE_assoc,hz] at hX
   exact hX.symm)
  subst hs
  go_wp2_with fail
  refine(mod_ask_no 23 0 _).mono ?_
  rintro e w1 ⟨rfl,rfl⟩
  go_wp2_with fail
  exact⟨rfl,Below.refl _ _,.inr ⟨by rw [hX.out];decide,by rw [hX.out]⟩⟩
 have hne:s.toList.isEmpty=false:=by rw [ByteArray.toList_eq];cases h:s.data.toList with | nil=>exact absurd (by rw [←Hsz.out,h];rfl) hz | cons a b=>rfl
 have HZ:Hid (EE=orE (askE (s.data.toList.all chE) 23) (ordE l l.length s)):=hideIt (by
  have hX:=HE.out
  rw [orE_assoc,orE_r H0.out,orE_assoc,orE_r (askE_t (decide_eq_true (by omega)))] at hX
  exact hX.symm)
 clear hz HE
 go_wp2_with fail
 refine(mod_ask_yes 23 0 _).mono ?_
 rintro e w1 ⟨rfl,rfl⟩
 clear hne
 go_upto_block 0 with fail
 go_cut [] (fun wx=>wx=w∧askE (s.data.toList.all chE) 23=0)
 case first=>
  go_wp2_with fail
  go_loopw [18] (fun i wr=> ∃k:Nat,k≤s.size∧i= .int .i64 k∧wr=w∧(s.data.toList.drop k).all chE=s.data.toList.all chE) (fun i _=>s.size-(intOf i).toNat)
  case atStart=>exact⟨0,Nat.zero_le _,rfl,rfl,rfl⟩
  case round=>
   obtain⟨k,hk,rfl,rfl,hR⟩:=hrel
   have HR2:=hideIt hR;clear hR
   by_cases hlt:k<s.size
   ·have Hd:=hideIt (drop_at s.data.toList k (by rw [Hsz.out];exact hlt))
    have hb:=byte_at s k hlt
    have Hb:=hideIt hb;clear hb
    have hk0:(0:Int)≤k:=by omega
    have hu8:(s.data.toList[k]?.getD 0).toNat<256:=UInt8.toNat_lt _
    have HR3:Hid ((chE (s.data.toList[k]?.getD 0)&&(s.data.toList.drop (k+1)).all chE)=s.data.toList.all chE):=hideIt (by rw [←HR2.out,Hd.out];rfl)
    have hbn:(s[k]'hlt).toNat=(s.data.toList[k]?.getD 0).toNat:=congrArg UInt8.toNat Hb.out
    clear Hd HR2
    have hbad: ¬((32:Int)<((s[k]'hlt).toNat:Int)∧((s[k]'hlt).toNat:Int)<127)→EE=23:=fun h=>by
     have:chE (s.data.toList[k]?.getD 0)=false:=by unfold chE;exact decide_eq_false (by omega)
     have h2:=HR3.out
     rw [this] at h2
     rw [HZ.out,←h2];rfl
    have hgood:(32:Int)<((s[k]'hlt).toNat:Int)→((s[k]'hlt).toNat:Int)<127→(s.data.toList.drop (k+1)).all chE=s.data.toList.all chE:=fun h1 h2=>by
     have:chE (s.data.toList[k]?.getD 0)=true:=by unfold chE;exact decide_eq_true (by omega)
     rw [←HR3.out,this,Bool.true_and]
    have Hbad:=hideIt hbad;have Hgood:=hideIt hgood
    clear hbad hgood hbn HR3 Hb hu8
    by_cases hlo:(32:Int)<((s[k]'hlt).toNat:Int)
    case neg=>
     have hX:=Hbad.out (fun h=>hlo h.1)
     have HX:=hideIt hX;clear hX
     go_wp2_with fail
     refine(mod_ask_no 23 0 _).mono ?_
     rintro e w1 ⟨rfl,rfl⟩
     exact⟨rfl,Below.refl _ _,.inr ⟨by rw [HX.out];decide,by rw [HX.out]⟩⟩
    by_cases hhi2:((s[k]'hlt).toNat:Int)<127
    case neg=>
     have hX:=Hbad.out (fun h=>hhi2 h.2)
     have HX:=hideIt hX;clear hX
     go_wp2_with fail
     refine(mod_ask_no 23 0 _).mono ?_
     rintro e w1 ⟨rfl,rfl⟩
     exact⟨rfl,Below.refl _ _,.inr ⟨by rw [HX.out];decide,by rw [HX.out]⟩⟩
    have HG:=hideIt (Hgood.out hlo hhi2)
    go_wp2_with fail
    refine(mod_ask_yes 23 0 _).mono ?_
    rintro e w1 ⟨rfl,rfl⟩
    go_wp2_with fail
    refine⟨⟨k+1,by omega,by go_num,?_,HG.out⟩,by simp [intOf];omega⟩
    first | exact trivial | rfl
   ·have hge: ¬(k:Int)<s.size:=by omega
    have HT:Hid (s.data.toList.all chE=true):=hideIt (by rw [←HR2.out,List.drop_of_length_le (by rw [Hsz.out];omega)];rfl)
    go_wp2_with fail
    go_meet
    exact⟨rfl,by rw [HT.out];rfl⟩
 case rest=>
  obtain⟨rfl,h23⟩:=hcut
  have HY:Hid (EE=ordE l l.length s):=hideIt (by rw [HZ.out,orE_r h23])
  clear h23 HZ
  by_cases h0:l.length=0
  ·have hX:Hid (EE=0):=hideIt (by rw [HY.out];unfold ordE;rw [if_pos h0])
   rw [h0]
   go_wp2_with fail
   refine(mod_ask_yes 18 0 _).mono ?_
   rintro e w1 ⟨rfl,rfl⟩
   go_wp2_with fail
   go_end0
   exact⟨Below.refl _ _,.inl ⟨hX.out,rfl⟩⟩
  ·obtain⟨y,hy⟩: ∃y,l[l.length-1]?=some y:=⟨_,List.getElem?_eq_getElem (by omega)⟩
   obtain⟨b,o,rfl,_,_,hc0,_,_,_⟩:=rExp_at Hr.out hy
   have hX:Hid (EE=askE (!(leStr s y.n)) 18):=hideIt (by rw [HY.out];unfold ordE;rw [if_neg h0,hy])
   obtain⟨j,hj⟩: ∃j,l.length=j+1:=⟨l.length-1,by omega⟩
   clear hy HY Hr h0
   generalize l.length=n at*
   subst hj
   have hjj:j+1-1=j:=rfl
   rw [hjj] at hc0
   have hj0:(0:Int)≤j:=by omega
   have hj1:(j:Int)<(j:Int)+1:=by omega
   have hj3: ¬((j:Int)+1=0):=by omega
   have hgt:=str_gtr 9 s y.n
   have hj4:((j:Int)+1==0)=false:=by rw [beq_eq_false_iff_ne];omega
   generalize leStr s y.n=bb at*
   go_wp2_with fail
   refine(mod_ask _ 18 0 (by decide) _).mono ?_
   rintro e w1 ⟨rfl,⟨h0,rfl⟩ | ⟨h0,rfl⟩⟩
   ·have H0:=hideIt h0;clear h0
    go_wp2_with fail
    go_end0
    exact⟨Below.refl _ _,.inl ⟨by rw [hX.out];exact H0.out,rfl⟩⟩
   ·have H0:=hideIt h0;clear h0
    go_wp2_with fail
    exact⟨rfl,Below.refl _ _,.inr ⟨by rw [hX.out];exact H0.out,by rw [hX.out]⟩⟩
def KT (K:Nat→Prop) (gs:Nat) (v:Value) (k:Nat):Prop:=K k∨k=gs∨v.ownBlock=some k
def Hd (W:World) (base g gs:Nat) (K:Nat→Prop) (first all:Int) (ts:List SigV) (l:List UInt8):Prop:=
 ∃T d,SnV W base gs first ts T d∧Wr W base g (KT K gs (.slice T ts.length d)) (.pointer (some ⟨gs,0,none⟩)) all l∧base≤gs∧ ¬K gs∧(∀k,(Value.slice T ts.length d).ownBlock=some k→ ¬K k∧k≠gs)
theorem SnV.keep {W W':World} {base gs:Nat} {K:Nat→Prop} {first:Int} {ts:List SigV} {T:Option Addr} {d:Nat} (h:SnV W base gs first ts T d) (hk:Keep (KT K gs (.slice T ts.length d)) W W'):SnV W' base gs first ts T d:=
 ⟨h.blk.keep hk (.inr (.inl rfl)),own_keepK h.own hk fun k hb=> .inr (.inr hb),h.ok⟩
section
variable {W W':World} {base g gs:Nat} {K:Nat→Prop} {first all all':Int} {ts:List SigV} {l l':List UInt8}
theorem Hd.all_ (h:Hd W base g gs K first all ts l) (hb:Below W.heap.size W W'):Hd W' base g gs K first all ts l:=by
 obtain⟨T,d,h1,h2,h3,h4,h5⟩:=h
 exact⟨T,d,h1.keep (K:=K) (Keep.of_all hb),h2.all_ hb,h3,h4,h5⟩
theorem Hd.cellm (h:Hd W base g gs K first all ts l):W.cell? ⟨g,0,none⟩=some (.pointer (some ⟨gs,0,none⟩)):=by
 obtain⟨T,d,h1,⟨A,c,h2⟩,_⟩:=h
 exact h2.blk.cell 0
theorem Hd.lt (h:Hd W base g gs K first all ts l):g<W.heap.size∧gs<W.heap.size:=by
 obtain⟨T,d,h1,⟨A,c,h2⟩,_⟩:=h
 exact⟨h2.blk.lt,h1.blk.lt⟩
theorem Hd.kg (h:Hd W base g gs K first all ts l): ¬K g∧ ¬K gs∧(∀k,K k→k<W.heap.size):=by
 obtain⟨T,d,h1,⟨A,c,h2⟩,_,h4,_⟩:=h
 exact⟨fun e=>h2.kg (.inl e),h4,fun k hk=>h2.lt k (.inl hk)⟩
end
theorem Hd.less {W:World} {base g gs:Nat} {K K':Nat→Prop} {first all:Int} {ts:List SigV} {l:List UInt8} (h:Hd W base g gs K' first all ts l) (hk: ∀k,K k→K' k):Hd W base g gs K first all ts l:=by
 obtain⟨T,d,h1,⟨A,c,h2⟩,h3,h4,h5⟩:=h
 have hm: ∀k,KT K gs (.slice T ts.length d) k→KT K' gs (.slice T ts.length d) k:=fun k h=>h.imp (hk k) id
 exact⟨T,d,h1,⟨A,c,h2.blk,h2.own,h2.low,fun e=>h2.kg (hm _ e),fun k hb=>⟨fun e=>(h2.apart k hb).1 (hm _ e),(h2.apart k hb).2⟩,fun k e=>h2.lt k (hm _ e)⟩,h3,fun e=>h4 (hk _ e),fun k hb=>⟨fun e=>(h5 k hb).1 (hk _ e),(h5 k hb).2⟩⟩
theorem Hd.box {w W:World} {base g gs:Nat} {K:Nat→Prop} {first all:Int} {ts:List SigV} {l:List UInt8} (h:Hd w base g gs K first all ts l) (hb:Below w.heap.size w W) (hl:w.heap.size<W.heap.size):Hd W base g gs (fun k=>K k∨k=w.heap.size) first all ts l:=by
 have h0:=h
 obtain⟨T,d,h1,⟨A,c,h2⟩,h3,h4,h5⟩:=h0
 have hg:=h2.blk.lt
 have hgs:=h1.blk.lt
 have h1':=h1.keep (K:=K) (Keep.of_all hb)
 have h2':=h2.all_ hb
 refine⟨T,d,h1',⟨A,c,h2'.blk,h2'.own,h2'.low,?_,?_,?_⟩,h3,?_,?_⟩
 ·rintro((e | e) | e | e)
  ·exact h2.kg (.inl e)
  ·omega
  ·exact h2.kg (.inr (.inl e))
  ·exact h2.kg (.inr (.inr e))
 ·intro k hk
  refine⟨?_,(h2.apart k hk).2⟩
  have:=(h2.own.lt k hk).2
  rintro((e | e) | e | e)
  ·exact(h2.apart k hk).1 (.inl e)
  ·omega
  ·exact(h2.apart k hk).1 (.inr (.inl e))
  ·exact(h2.apart k hk).1 (.inr (.inr e))
 ·rintro k ((e | e) | e | e)
  ·have:=h2.lt k (.inl e);omega
  ·omega
  ·have:=h2.lt k (.inr (.inl e));omega
  ·have:=h2.lt k (.inr (.inr e));omega
 ·rintro(e | e)
  ·exact h4 e
  ·omega
 ·intro k hk
  have:=(h1.own.lt k hk).2
  exact⟨fun e=>e.elim (h5 k hk).1 (fun e=>by omega),(h5 k hk).2⟩
theorem Hd.of {w w':World} {base g gs:Nat} {K:Nat→Prop} {first all':Int} {ts:List SigV} {l':List UInt8} {T:Option Addr} {d:Nat} (h1:SnV w base gs first ts T d) (h3:base≤gs) (h4: ¬K gs) (h5: ∀k,(Value.slice T ts.length d).ownBlock=some k→ ¬K k∧k≠gs)
 (hk:Keep (KT K gs (.slice T ts.length d)) w w') (hw:Wr w' base g (KT K gs (.slice T ts.length d)) (.pointer (some ⟨gs,0,none⟩)) all' l'):Keep K w w'∧Hd w' base g gs K first all' ts l':=
 ⟨hk.mono fun k hk=> .inl hk,T,d,h1.keep hk,hw,h3,h4,h5⟩
section
variable {base g gs:Nat} {K:Nat→Prop} {first:Int} {ts:List SigV} {l:List UInt8} {w:World}
theorem hd_number (n:Nat) (hn:n<9223372036854775808) {all:Int} (h:Hd w base g gs K first all ts l) (hl:l.length≤1099511627776) (hbase:base≤w.heap.size):
 Calls prog 119 #[.pointer (some ⟨g,0,none⟩),.int .i64 n] w fun e w'=>e= .returned (.tuple #[])∧Keep K w w'∧Hd w' base g gs K first all ts (l++enc n):=by
 obtain⟨T,d,h1,h2,h3,h4,h5⟩:=h
 exact(wr_number n hn base g _ _ all l w h2 hl hbase).mono fun e w' ⟨he,hk,hw⟩=>⟨he,Hd.of h1 h3 h4 h5 hk hw⟩
theorem hd_text (s:ByteArray) (h47:s.size≤70368744177664) {all:Int} (h:Hd w base g gs K first all ts l) (hl:l.length≤1099511627776) (hbase:base≤w.heap.size):
 Calls prog 115 #[.pointer (some ⟨g,0,none⟩),.string s] w fun e w'=>e= .returned (.tuple #[])∧Keep K w w'∧Hd w' base g gs K first all ts (l++textB s):=by
 obtain⟨T,d,h1,h2,h3,h4,h5⟩:=h
 exact(wr_text s h47 base g _ _ all l w h2 hl hbase).mono fun e w' ⟨he,hk,hw⟩=>⟨he,Hd.of h1 h3 h4 h5 hk hw⟩
theorem WEnds.of {w w':World} {err:Int} {e:Ending} {K1 K:Nat→Prop} {P Q:Prop} (hk:Keep K1 w w') (hm: ∀k,K k→K1 k) (h:WEnds err e P) (hp:P→Q):Keep K w w'∧WEnds err e Q:=
 ⟨hk.mono hm,h.imp (fun h=>⟨h.1,h.2.1,hp h.2.2⟩) id⟩
theorem hd_count (n most:Nat) (hn:n<9223372036854775808) {all:Int} (h:Hd w base g gs K first all ts l) (hl:l.length≤1099511627776) (hbase:base≤w.heap.size):
 Calls prog 113 #[.pointer (some ⟨g,0,none⟩),.int .i64 n,.int .i64 most] w fun e w'=>Keep K w w'∧WEnds (askE (decide (n≤most)) 20) e (Hd w' base g gs K first all ts (l++enc n)):=by
 obtain⟨T,d,h1,h2,h3,h4,h5⟩:=h
 exact(wr_count n most hn base g _ _ all l w h2 hl hbase).mono fun e w' ⟨hk,hw⟩=>hw.of hk (fun k hk=> .inl hk) fun hp=>(Hd.of h1 h3 h4 h5 hk hp).2
theorem hd_index (n:Int) (below:Nat) (hn:n<9223372036854775808) {all:Int} (h:Hd w base g gs K first all ts l) (hl:l.length≤1099511627776) (hbase:base≤w.heap.size):
 Calls prog 116 #[.pointer (some ⟨g,0,none⟩),.int .i64 n,.int .i64 below] w fun e w'=>Keep K w w'∧WEnds (askE (decide (0≤n∧n<below)) 30) e (Hd w' base g gs K first all ts (l++enc n.toNat)):=by
 obtain⟨T,d,h1,h2,h3,h4,h5⟩:=h
 exact(wr_index n below hn base g _ _ all l w h2 hl hbase).mono fun e w' ⟨hk,hw⟩=>hw.of hk (fun k hk=> .inl hk) fun hp=>(Hd.of h1 h3 h4 h5 hk hp).2
theorem hd_code (n:Nat) (hn:n≤2147483647) {all:Nat} (ha:all≤2147483647) (h:Hd w base g gs K first all ts l):
 Calls prog 121 #[.pointer (some ⟨g,0,none⟩),.int .i64 n,.int .i64 0] w fun e w'=>Keep K w w'∧WEnds (orE (askE (decide (n≤2048)) 20) (askE (decide (all+n≤16384)) 20)) e (Hd w' base g gs K first ((all+n:Nat):Int) ts l):=by
 obtain⟨T,d,h1,h2,h3,h4,h5⟩:=h
 exact(wr_code n hn base g _ _ all ha l w h2).mono fun e w' ⟨hk,hw⟩=>hw.of hk (fun k hk=> .inl hk) fun hp=>(Hd.of h1 h3 h4 h5 hk hp).2
theorem hd_twice (n:Nat) (x:SigV) {all:Int} (h:Hd w base g gs K first all ts l) (hn:ts.length=n+1) (hx:ts[n]?=some x) (h47:n≤1000000):
 Calls prog 102 #[.pointer (some ⟨g,0,none⟩),.int .i64 0] w fun e w'=>Below w.heap.size w w'∧Ends (askE (!(ts.take n).any (fun y=>sigEq y x)) 16) 0 e:=by
 have hc:=h.cellm
 obtain⟨T,d,h1,h2,h3,h4,h5⟩:=h
 exact wr_twice base g gs first ts T d n x w hc h1 hn hx h47
theorem hd_room (t:Nat) (x:SigV) {all:Int} (h:Hd w base g gs K first all ts l) (hx:ts[t]?=some x) (hp:x.p.size≤1000000):
 Calls prog 120 #[.pointer (some ⟨g,0,none⟩),.int .i64 t] w fun e w'=>w'=w∧e= .returned (.int .i64 (64-x.p.size)):=by
 have hc:=h.cellm
 obtain⟨T,d,h1,h2,h3,h4,h5⟩:=h
 exact wr_room base g gs first ts T d t x w hc h1 hx hp
theorem hd_starts (x:Int) (A:Option Addr) (k c lo hi:Nat) (q:List DatV) {all:Int} (h:Hd w base g gs K first all ts l)
 (hr:(rDat.sl false).R w lo hi [.slice A k c] q) (hf0:0≤first) (hf1:first≤64) (hx: -9223372036854775808≤x∧x<9223372036854775808) (hok: ∀y∈q,0≤y.at_∧y.at_≤262144∧y.b.length≤262144) (hk:k≤1000000):
 Calls prog 110 #[.pointer (some ⟨g,0,none⟩),.int .i64 x,.slice A k c,.int .i64 0] w fun e w'=>Below w.heap.size w w'∧
  Ends (orE (askE (decide (0≤x∧x≤first*4096)) 17) (if k=0 then 0 else match q[k-1]? with | none=>0 | some y=>askE (decide (y.at_+y.b.length<x)) 18)) 0 e:=by
 have hc:=h.cellm
 obtain⟨T,d,h1,h2,h3,h4,h5⟩:=h
 exact wr_starts base g gs first x ts T d A k c lo hi q w hc h1 hr hf0 hf1 hx hok hk
theorem Hd.type {all:Int} {W:World} {T:Option Addr} {d:Nat} {x:SigV} (h1:SnV w base gs first ts T d) (h2:Wr w base g (KT K gs (.slice T ts.length d)) (.pointer (some ⟨gs,0,none⟩)) all l) (h3:base≤gs) (h4: ¬K gs) (h5: ∀k,(Value.slice T ts.length d).ownBlock=some k→ ¬K k∧k≠gs)
 (hx:Rd.SOk x.p∧Rd.SOk x.r) {T':Option Addr} {d':Nat} (hg:w.grownBy W (Value.slice T ts.length d).ownBlock) (ho:W.ownsRow base 51 2 (.slice T' (ts.length+1) d') (ts.length+1) (ts.flatMap sigC++sigC x))
 (hb:(Value.slice T' (ts.length+1) d').ownBlock=(Value.slice T ts.length d).ownBlock∨(Value.slice T' (ts.length+1) d').ownBlock=some w.heap.size):
 Keep K w (W.setCell ⟨gs,0,none⟩ (.slice T' (ts.length+1) d'))∧Hd (W.setCell ⟨gs,0,none⟩ (.slice T' (ts.length+1) d')) base g gs K first all (ts++ [x]) l:=by
 obtain⟨A,c,h2⟩:=h2
 have hgs:=h1.blk.lt
 have hgl:=h2.blk.lt
 have hnew: ∀k,(Value.slice T' (ts.length+1) d').ownBlock=some k→ ¬K k∧k≠gs∧k≠g∧(Value.slice A l.length c).ownBlock≠some k:=fun k hk=>by
  rcases hb with e | e
  ·rw [e] at hk
   refine⟨(h5 k hk).1,(h5 k hk).2,fun e'=>h2.kg (e'▸ .inr (.inr hk)),fun e'=>(h2.apart k e').1 (.inr (.inr hk))⟩
  ·rw [e] at hk;injection hk with hk;subst hk
   refine⟨fun hK=>by have:=h2.lt _ (.inl hK);omega,by omega,by omega,fun e'=> ?_⟩
   have:=h2.own.lt _ e'
   omega
 have hlen:(ts++ [x]).length=ts.length+1:=by simp
 have hk:Keep K w (W.setCell ⟨gs,0,none⟩ (.slice T' (ts.length+1) d')):=((Keep.refl K w).grown hg (fun k hk=>(h5 k hk).1)).setCell h4 _
 have hka: ∀v,Keep (fun k=>k=g∨(Value.slice A l.length c).ownBlock=some k) w (W.setCell ⟨gs,0,none⟩ v):=fun v=>
  ((Keep.refl _ w).grown hg (fun k hk e=>by
    rcases e with e | e
    ·subst e;exact h2.kg (.inr (.inr hk))
    ·exact(h2.apart k e).1 (.inr (.inr hk)))).setCell (fun e=>by
    rcases e with e | e
    ·exact h2.kg (.inr (.inl e.symm))
    ·exact(h2.apart gs e).1 (.inr (.inl rfl))) _
 refine⟨hk,T',d',⟨?_,?_,fun y hy=> ?_⟩,⟨A,c,⟨?_,?_,h2.low,?_,?_,?_⟩⟩,h3,h4,?_⟩
 ·rw [hlen]
  have:Blk W gs 29 _:=(hg.block gs hgs (fun e=>(h5 gs e.symm).2 rfl)).trans h1.blk
  exact this.set 0 _
 ·rw [hlen,List.flatMap_append]
  have: [x].flatMap sigC=sigC x:=by simp
  rw [this]
  exact own_set_ne ho (fun e=>(hnew gs e).2.1 rfl) _
 ·rcases List.mem_append.1 hy with hy | hy
  ·exact h1.ok y hy
  ·rw [List.mem_singleton] at hy;subst hy;exact hx
 ·exact h2.blk.keep (hka _) (.inl rfl)
 ·exact h2.own.keepK (hka _) fun k hk=> .inr hk
 ·rw [hlen]
  rintro(e | e | e)
  ·exact h2.kg (.inl e)
  ·exact h2.kg (.inr (.inl e))
  ·exact(hnew g e).2.2.1 rfl
 ·intro k hk
  refine⟨?_,(h2.apart k hk).2⟩
  rw [hlen]
  rintro(e | e | e)
  ·exact(h2.apart k hk).1 (.inl e)
  ·exact(h2.apart k hk).1 (.inr (.inl e))
  ·exact(hnew k e).2.2.2 hk
 ·intro k hk
  rw [hlen] at hk
  have hsz:=hg.size
  have hs2:(W.setCell ⟨gs,0,none⟩ (.slice T' (ts.length+1) d')).heap.size=W.heap.size:=by simp [World.setCell]
  rw [hs2]
  rcases hk with e | e | e
  ·have:=h2.lt k (.inl e);omega
  ·omega
  ·have:=ho.lt k e;omega
 ·intro k hk
  rw [hlen] at hk
  exact⟨(hnew k hk).1,(hnew k hk).2.1⟩
end
end Go.Proofs.YtebgikflpgcnlaaGreatDoor
