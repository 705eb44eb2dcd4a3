/- Part 15 of the proof: ModG FraP SnaP Srd0 LabP VdN R10P SnwA SnaQ -/
import Derived.Test.YtlagonfamllgjaaGreatDoorR14
namespace Go.Proofs.YtlagonfamllgjaaGreatDoor
set_option linter.unusedVariables false
set_option linter.unusedSimpArgs false
set_option maxRecDepth 100000
set_option maxHeartbeats 4000000
open Go.RowKit Tryz
def KT (K:Nat→Prop) (gs:Nat) (v:Value) (k:Nat):Prop:=K k∨k=gs∨v.ownBlock=some k
def Hd (W:World) (base g gs:Nat) (K:Nat→Prop) (first all:Int) (ts:List CW) (l:List UInt8):Prop:=
 ∃T d,qD W base gs first ts T d∧Wr W base g (KT K gs (.slice T ts.length d)) (.pointer (some ⟨gs,0,none⟩)) all l∧base≤gs∧ ¬K gs∧(∀k,(Value.slice T ts.length d).ownBlock=some k→ ¬K k∧k≠gs)
theorem qD.keep {W W':World} {base gs:Nat} {K:Nat→Prop} {first:Int} {ts:List CW} {T:Option Addr} {d:Nat} (h:qD W base gs first ts T d) (hk:Keep (KT K gs (.slice T ts.length d)) W W'):qD W' base gs first ts T d:=
 ⟨h.blk.keep hk (.inr (.inl rfl)),Ce h.own hk fun k hb=> .inr (.inr hb),h.ok⟩
section
variable {W W':World} {base g gs:Nat} {K:Nat→Prop} {first all all':Int} {ts:List CW} {l l':List UInt8}
theorem Hd.ES (h:Hd W base g gs K first all ts l) (hb:Below W.heap.size W W'):Hd W' base g gs K first all ts l:=by
 obtain⟨T,d,h1,h2,h3,h4,h5⟩:=h
 exact⟨T,d,h1.keep (K:=K) (Keep.DC hb),h2.ES hb,h3,h4,h5⟩
theorem Hd.jc (h:Hd W base g gs K first all ts l):W.cell? ⟨g,0,none⟩=some (.pointer (some ⟨gs,0,none⟩)):=by
 obtain⟨T,d,h1,⟨A,c,h2⟩,_⟩:=h
 exact h2.blk.cell 0
theorem Hd.lt (h:Hd W base g gs K first all ts l):g<W.heap.size∧gs<W.heap.size:=by
 obtain⟨T,d,h1,⟨A,c,h2⟩,_⟩:=h
 exact⟨h2.blk.lt,h1.blk.lt⟩
theorem Hd.kg (h:Hd W base g gs K first all ts l): ¬K g∧ ¬K gs∧(∀k,K k→k<W.heap.size):=by
 obtain⟨T,d,h1,⟨A,c,h2⟩,_,h4,_⟩:=h
 exact⟨fun e=>h2.kg (.inl e),h4,fun k hk=>h2.lt k (.inl hk)⟩
end
theorem Hd.less {W:World} {base g gs:Nat} {K K':Nat→Prop} {first all:Int} {ts:List CW} {l:List UInt8} (h:Hd W base g gs K' first all ts l) (hk: ∀k,K k→K' k):Hd W base g gs K first all ts l:=by
 obtain⟨T,d,h1,⟨A,c,h2⟩,h3,h4,h5⟩:=h
 have hm: ∀k,KT K gs (.slice T ts.length d) k→KT K' gs (.slice T ts.length d) k:=fun k h=>h.imp (hk k) id
 exact⟨T,d,h1,⟨A,c,h2.blk,h2.own,h2.low,fun e=>h2.kg (hm _ e),fun k hb=>⟨fun e=>(h2.apart k hb).1 (hm _ e),(h2.apart k hb).2⟩,fun k e=>h2.lt k (hm _ e)⟩,h3,fun e=>h4 (hk _ e),fun k hb=>⟨fun e=>(h5 k hb).1 (hk _ e),(h5 k hb).2⟩⟩
theorem Hd.box {w W:World} {base g gs:Nat} {K:Nat→Prop} {first all:Int} {ts:List CW} {l:List UInt8} (h:Hd w base g gs K first all ts l) (hb:Below w.heap.size w W) (hl:w.heap.size<W.heap.size):Hd W base g gs (fun k=>K k∨k=w.heap.size) first all ts l:=by
 have h0:=h
 obtain⟨T,d,h1,⟨A,c,h2⟩,h3,h4,h5⟩:=h0
 have hg:=h2.blk.lt
 have hgs:=h1.blk.lt
 have h1':=h1.keep (K:=K) (Keep.DC hb)
 have h2':=h2.ES hb
 refine⟨T,d,h1',⟨A,c,h2'.blk,h2'.own,h2'.low,?_,?_,?_⟩,h3,?_,?_⟩
 ·rintro((e | e) | e | e)
  ·exact h2.kg (.inl e)
  ·omega
  ·exact h2.kg (.inr (.inl e))
  ·exact h2.kg (.inr (.inr e))
 ·intro k hk
  refine⟨?_,(h2.apart k hk).2⟩
  have:=(h2.own.lt k hk).2
  rintro((e | e) | e | e)
  ·exact(h2.apart k hk).1 (.inl e)
  ·omega
  ·exact(h2.apart k hk).1 (.inr (.inl e))
  ·exact(h2.apart k hk).1 (.inr (.inr e))
 ·rintro k ((e | e) | e | e)
  ·have:=h2.lt k (.inl e);omega
  ·omega
  ·have:=h2.lt k (.inr (.inl e));omega
  ·have:=h2.lt k (.inr (.inr e));omega
 ·rintro(e | e)
  ·exact h4 e
  ·omega
 ·intro k hk
  have:=(h1.own.lt k hk).2
  exact⟨fun e=>e.elim (h5 k hk).1 (fun e=>by omega),(h5 k hk).2⟩
theorem Hd.of {w w':World} {base g gs:Nat} {K:Nat→Prop} {first all':Int} {ts:List CW} {l':List UInt8} {T:Option Addr} {d:Nat} (h1:qD w base gs first ts T d) (h3:base≤gs) (h4: ¬K gs) (h5: ∀k,(Value.slice T ts.length d).ownBlock=some k→ ¬K k∧k≠gs)
 (hk:Keep (KT K gs (.slice T ts.length d)) w w') (hw:Wr w' base g (KT K gs (.slice T ts.length d)) (.pointer (some ⟨gs,0,none⟩)) all' l'):Keep K w w'∧Hd w' base g gs K first all' ts l':=
 ⟨hk.mono fun k hk=> .inl hk,T,d,h1.keep hk,hw,h3,h4,h5⟩
section
variable {base g gs:Nat} {K:Nat→Prop} {first:Int} {ts:List CW} {l:List UInt8} {w:World}
theorem Ma (n:Nat) (hn:n<9223372036854775808) {all:Int} (h:Hd w base g gs K first all ts l) (hl:l.length≤1099511627776) (hbase:base≤w.heap.size):
 Calls prog 158 #[.pointer (some ⟨g,0,none⟩),.int .i64 n] w fun e w'=>e= .returned (.tuple #[])∧Keep K w w'∧Hd w' base g gs K first all ts (l++enc n):=by
 obtain⟨T,d,h1,h2,h3,h4,h5⟩:=h
 exact(Pb n hn base g _ _ all l w h2 hl hbase).mono fun e w' ⟨he,hk,hw⟩=>⟨he,Hd.of h1 h3 h4 h5 hk hw⟩
theorem OQ (s:ByteArray) (h47:s.size≤70368744177664) {all:Int} (h:Hd w base g gs K first all ts l) (hl:l.length≤1099511627776) (hbase:base≤w.heap.size):
 Calls prog 153 #[.pointer (some ⟨g,0,none⟩),.string s] w fun e w'=>e= .returned (.tuple #[])∧Keep K w w'∧Hd w' base g gs K first all ts (l++FM s):=by
 obtain⟨T,d,h1,h2,h3,h4,h5⟩:=h
 exact(qC s h47 base g _ _ all l w h2 hl hbase).mono fun e w' ⟨he,hk,hw⟩=>⟨he,Hd.of h1 h3 h4 h5 hk hw⟩
theorem Lr.of {w w':World} {err:Int} {e:Ending} {K1 K:Nat→Prop} {P Q:Prop} (hk:Keep K1 w w') (hm: ∀k,K k→K1 k) (h:Lr err e P) (hp:P→Q):Keep K w w'∧Lr err e Q:=
 ⟨hk.mono hm,h.imp (fun h=>⟨h.1,h.2.1,hp h.2.2⟩) id⟩
theorem KG (n most:Nat) (hn:n<9223372036854775808) {all:Int} (h:Hd w base g gs K first all ts l) (hl:l.length≤1099511627776) (hbase:base≤w.heap.size):
 Calls prog 151 #[.pointer (some ⟨g,0,none⟩),.int .i64 n,.int .i64 most] w fun e w'=>Keep K w w'∧Lr (Ab (decide (n≤most)) 20) e (Hd w' base g gs K first all ts (l++enc n)):=by
 obtain⟨T,d,h1,h2,h3,h4,h5⟩:=h
 exact(jW n most hn base g _ _ all l w h2 hl hbase).mono fun e w' ⟨hk,hw⟩=>hw.of hk (fun k hk=> .inl hk) fun hp=>(Hd.of h1 h3 h4 h5 hk hp).2
theorem Rv (n:Int) (below:Nat) (hn:n<9223372036854775808) {all:Int} (h:Hd w base g gs K first all ts l) (hl:l.length≤1099511627776) (hbase:base≤w.heap.size):
 Calls prog 155 #[.pointer (some ⟨g,0,none⟩),.int .i64 n,.int .i64 below] w fun e w'=>Keep K w w'∧Lr (Ab (decide (0≤n∧n<below)) 30) e (Hd w' base g gs K first all ts (l++enc n.toNat)):=by
 obtain⟨T,d,h1,h2,h3,h4,h5⟩:=h
 exact(jX n below hn base g _ _ all l w h2 hl hbase).mono fun e w' ⟨hk,hw⟩=>hw.of hk (fun k hk=> .inl hk) fun hp=>(Hd.of h1 h3 h4 h5 hk hp).2
theorem qI (n:Nat) (hn:n≤2147483647) {all:Nat} (ha:all≤2147483647) (h:Hd w base g gs K first all ts l):
 Calls prog 160 #[.pointer (some ⟨g,0,none⟩),.int .i64 n,.int .i64 0] w fun e w'=>Keep K w w'∧Lr (Cg (Ab (decide (n≤2048)) 20) (Ab (decide (all+n≤16384)) 20)) e (Hd w' base g gs K first ((all+n:Nat):Int) ts l):=by
 obtain⟨T,d,h1,h2,h3,h4,h5⟩:=h
 exact(qF n hn base g _ _ all ha l w h2).mono fun e w' ⟨hk,hw⟩=>hw.of hk (fun k hk=> .inl hk) fun hp=>(Hd.of h1 h3 h4 h5 hk hp).2
theorem jd (n:Nat) (x:CW) {all:Int} (h:Hd w base g gs K first all ts l) (hn:ts.length=n+1) (hx:ts[n]?=some x) (h47:n≤1000000):
 Calls prog 154 #[.pointer (some ⟨g,0,none⟩),.int .i64 0] w fun e w'=>Below w.heap.size w w'∧Ends (Ab (!(ts.take n).any (fun y=>J3 y x)) 16) 0 e:=by
 have hc:=h.jc
 obtain⟨T,d,h1,h2,h3,h4,h5⟩:=h
 exact jZ base g gs first ts T d n x w hc h1 hn hx h47
theorem qJ (t:Nat) (x:CW) {all:Int} (h:Hd w base g gs K first all ts l) (hx:ts[t]?=some x) (hp:x.p.size≤1000000):
 Calls prog 159 #[.pointer (some ⟨g,0,none⟩),.int .i64 t] w fun e w'=>w'=w∧e= .returned (.int .i64 (64-x.p.size)):=by
 have hc:=h.jc
 obtain⟨T,d,h1,h2,h3,h4,h5⟩:=h
 exact qE base g gs first ts T d t x w hc h1 hx hp
theorem eH (x:Int) (A:Option Addr) (k c lo hi:Nat) (q:List Gn) {all:Int} (h:Hd w base g gs K first all ts l)
 (hr:(M0.sl false).R w lo hi [.slice A k c] q) (hf0:0≤first) (hf1:first≤64) (hx: -9223372036854775808≤x∧x<9223372036854775808) (hok: ∀y∈q,0≤y.at_∧y.at_≤262144∧y.b.length≤262144) (hk:k≤1000000):
 Calls prog 162 #[.pointer (some ⟨g,0,none⟩),.int .i64 x,.slice A k c,.int .i64 0] w fun e w'=>Below w.heap.size w w'∧
  Ends (Cg (Ab (decide (0≤x∧x≤first*4096)) 17) (if k=0 then 0 else match q[k-1]? with | none=>0 | some y=>Ab (decide (y.at_+y.b.length<x)) 18)) 0 e:=by
 have hc:=h.jc
 obtain⟨T,d,h1,h2,h3,h4,h5⟩:=h
 exact dz base g gs first x ts T d A k c lo hi q w hc h1 hr hf0 hf1 hx hok hk
theorem Hd.type {all:Int} {W:World} {T:Option Addr} {d:Nat} {x:CW} (h1:qD w base gs first ts T d) (h2:Wr w base g (KT K gs (.slice T ts.length d)) (.pointer (some ⟨gs,0,none⟩)) all l) (h3:base≤gs) (h4: ¬K gs) (h5: ∀k,(Value.slice T ts.length d).ownBlock=some k→ ¬K k∧k≠gs)
 (hx:Rd.PD x.p∧Rd.PD x.r) {T':Option Addr} {d':Nat} (hg:w.grownBy W (Value.slice T ts.length d).ownBlock) (ho:W.ownsRow base 93 2 (.slice T' (ts.length+1) d') (ts.length+1) (ts.flatMap OJ++OJ x))
 (hb:(Value.slice T' (ts.length+1) d').ownBlock=(Value.slice T ts.length d).ownBlock∨(Value.slice T' (ts.length+1) d').ownBlock=some w.heap.size):
 Keep K w (W.setCell ⟨gs,0,none⟩ (.slice T' (ts.length+1) d'))∧Hd (W.setCell ⟨gs,0,none⟩ (.slice T' (ts.length+1) d')) base g gs K first all (ts++ [x]) l:=by
 obtain⟨A,c,h2⟩:=h2
 have hgs:=h1.blk.lt
 have hgl:=h2.blk.lt
 have hnew: ∀k,(Value.slice T' (ts.length+1) d').ownBlock=some k→ ¬K k∧k≠gs∧k≠g∧(Value.slice A l.length c).ownBlock≠some k:=fun k hk=>by
  rcases hb with e | e
  ·rw [e] at hk
   refine⟨(h5 k hk).1,(h5 k hk).2,fun e'=>h2.kg (e'▸ .inr (.inr hk)),fun e'=>(h2.apart k e').1 (.inr (.inr hk))⟩
  ·rw [e] at hk;injection hk with hk;subst hk
   refine⟨fun hK=>by have:=h2.lt _ (.inl hK);omega,by omega,by omega,fun e'=> ?_⟩
   have:=h2.own.lt _ e'
   omega
 have hlen:(ts++ [x]).length=ts.length+1:=by simp
 have hk:Keep K w (W.setCell ⟨gs,0,none⟩ (.slice T' (ts.length+1) d')):=((Keep.refl K w).grown hg (fun k hk=>(h5 k hk).1)).setCell h4 _
 have hka: ∀v,Keep (fun k=>k=g∨(Value.slice A l.length c).ownBlock=some k) w (W.setCell ⟨gs,0,none⟩ v):=fun v=>
  ((Keep.refl _ w).grown hg (fun k hk e=>by
    rcases e with e | e
    ·subst e;exact h2.kg (.inr (.inr hk))
    ·exact(h2.apart k e).1 (.inr (.inr hk)))).setCell (fun e=>by
    rcases e with e | e
    ·exact h2.kg (.inr (.inl e.symm))
    ·exact(h2.apart gs e).1 (.inr (.inl rfl))) _
 refine⟨hk,T',d',⟨?_,?_,fun y hy=> ?_⟩,⟨A,c,⟨?_,?_,h2.low,?_,?_,?_⟩⟩,h3,h4,?_⟩
 ·rw [hlen]
  have:AQ W gs 29 _:=(hg.block gs hgs (fun e=>(h5 gs e.symm).2 rfl)).trans h1.blk
  exact this.set 0 _
 ·rw [hlen,List.flatMap_append]
  have: [x].flatMap OJ=OJ x:=by simp
  rw [this]
  exact BH ho (fun e=>(hnew gs e).2.1 rfl) _
 ·rcases List.mem_append.1 hy with hy | hy
  ·exact h1.ok y hy
  ·rw [List.mem_singleton] at hy;subst hy;exact hx
 ·exact h2.blk.keep (hka _) (.inl rfl)
 ·exact h2.own.CB (hka _) fun k hk=> .inr hk
 ·rw [hlen]
  rintro(e | e | e)
  ·exact h2.kg (.inl e)
  ·exact h2.kg (.inr (.inl e))
  ·exact(hnew g e).2.2.1 rfl
 ·intro k hk
  refine⟨?_,(h2.apart k hk).2⟩
  rw [hlen]
  rintro(e | e | e)
  ·exact(h2.apart k hk).1 (.inl e)
  ·exact(h2.apart k hk).1 (.inr (.inl e))
  ·exact(hnew k e).2.2.2 hk
 ·intro k hk
  rw [hlen] at hk
  have hsz:=hg.size
  have hs2:(W.setCell ⟨gs,0,none⟩ (.slice T' (ts.length+1) d')).heap.size=W.heap.size:=by simp [World.setCell]
  rw [hs2]
  rcases hk with e | e | e
  ·have:=h2.lt k (.inl e);omega
  ·omega
  ·have:=ho.lt k e;omega
 ·intro k hk
  rw [hlen] at hk
  exact⟨(hnew k hk).1,(hnew k hk).2.1⟩
end
theorem jJ {m:AP} {f:Bt} {AB:List Int} {pc:Nat} {st st':Cm} {x:Ad} (h:ED m f AB pc st x= .inr st'):
 ∃sh,st'.shapes=st.shapes++ [sh]∧(x.op.toNat=11→(CG m (Qy m x.a).t).p.size≤sh.size):=by
 unfold ED at h
 cases hb:Ch st x with
 | inl e=>rw [hb] at h;cases h
 | inr st1=>
  rw [hb] at h
  dsimp only at h
  have hs1:st1.shapes=st.shapes:=by
   unfold Ch at hb
   split at hb
   ·split at hb
    ·cases hb
    split at hb
    ·cases hb
    ·injection hb with hb;subst hb;rfl
   ·injection hb with hb;subst hb;rfl
  have hn:(Co st1).shapes=st.shapes++ [st1.shape]:=by show st1.shapes++ [st1.shape]=_;rw [hs1]
  have hsh:(Co st1).shape=st1.shape:=rfl
  refine⟨st1.shape,?_,fun h11=> ?_⟩
  ·rw [←hn]
   generalize Co st1=s2 at h
   unfold EA at h
   split at h
   ·split at h
    ·cases h
    split at h
    ·injection h with h;subst h;rfl
    split at h
    ·cases h
    ·injection h with h;subst h;rfl
   ·split at h
    ·cases h
    split at h
    ·cases h
    split at h
    ·cases h
    ·injection h with h;subst h;rfl
  ·rw [←hsh]
   generalize Co st1=s2 at h
   unfold EA at h
   have hc:Ah x.op=false:=by unfold Ah;exact decide_eq_false (by omega)
   rw [if_neg (by rw [hc];decide)] at h
   split at h
   ·cases h
   rename_i he
   split at h
   ·cases h
   rename_i hen
   have hsz:=Ua hen
   rw [C_] at hsz
   have hr:(Au 11).map (·.plain)=some false:=by kernel_rfl
   obtain⟨r,hr1,hr2⟩:=Option.map_eq_some_iff.1 hr
   have hef:BN m f s2 x=match Cn m x with
    | none=>(Di,Di,30)
    | some t=>(t.p,t.r,0):=by
    unfold BN
    rw [h11,hr1]
    simp only [hr2]
    cases Cn m x<;>rfl
   have hty:Cn m x=if Eo x.a m.fns.length then some (CG m (Qy m x.a).t) else none:=by
    unfold Cn;rw [if_pos h11]
   rw [hef,hty] at he hsz
   by_cases hi:Eo x.a m.fns.length=true
   ·rw [if_pos hi] at hsz;dsimp only at hsz;omega
   ·rw [if_neg hi] at he;exact absurd he (by decide)
theorem jK {m:AP} {f:Bt} {AB:List Int}: ∀(n:Nat) (st st':Cm),PV m f AB n st= .inr st'→n≤f.code.length→st.shapes.length=f.code.length-n→
 st'.shapes.length=f.code.length∧(∀p,p<f.code.length-n→st'.shapes[p]?=st.shapes[p]?)∧
 ∀(p:Nat) (x:Ad) (sh:ByteArray),f.code.length-n≤p→f.code[p]?=some x→st'.shapes[p]?=some sh→x.op.toNat=11→(CG m (Qy m x.a).t).p.size≤sh.size
 | 0,st,st',h,hn,hl=>by
  injection h with h;subst h
  refine⟨by omega,fun _ _=>rfl,fun p x sh hp hx=> ?_⟩
  have:=(List.getElem?_eq_some_iff.1 hx).1
  omega
 | n+1,st,st',h,hn,hl=>by
  have hlt:f.code.length-(n+1)<f.code.length:=by omega
  have hx:f.code[f.code.length-(n+1)]?=some f.code[f.code.length-(n+1)]:=List.getElem?_eq_getElem hlt
  unfold PV at h
  rw [hx] at h
  dsimp only at h
  cases hs:ED m f AB (f.code.length-(n+1)) st f.code[f.code.length-(n+1)] with
  | inl e=>rw [hs] at h;cases h
  | inr s1=>
   rw [hs] at h
   dsimp only at h
   obtain⟨sh,h1,h2⟩:=jJ hs
   have hl1:s1.shapes.length=f.code.length-n:=by rw [h1,List.length_append,hl];simp;omega
   obtain⟨g1,g2,g3⟩:=jK n s1 st' h (by omega) hl1
   have hq:f.code.length-n=f.code.length-(n+1)+1:=by omega
   refine⟨g1,fun p hp=> ?_,fun p x sh' hp hxp hsp h11=> ?_⟩
   ·rw [g2 p (by omega),h1,List.getElem?_append_left (by omega)]
   ·by_cases e:p=f.code.length-(n+1)
    ·subst e
     rw [g2 _ (by omega),h1,List.getElem?_append_right (by omega),hl,Nat.sub_self] at hsp
     injection hsp with hsp
     rw [hx] at hxp
     injection hxp with hxp
     subst hxp
     rw [←hsp]
     exact h2 h11
    ·exact g3 p x sh' (by omega) hxp hsp h11
theorem pQ {m:AP} {f:Bt} {tb:D5} (h:Fv m f= .inr tb):
 tb.shapes.length=f.code.length∧ ∀(p:Nat) (x:Ad) (sh:ByteArray),f.code[p]?=some x→tb.shapes[p]?=some sh→x.op.toNat=11→(CG m (Qy m x.a).t).p.size≤sh.size:=by
 unfold Fv at h
 cases hc:ctl f.code with
 | inl e=>rw [hc] at h;cases h
 | inr c=>
  rw [hc] at h
  dsimp only at h
  cases hg:PV m f c.AB f.code.length (CO m f)with
  | inl e=>rw [hg] at h;cases h
  | inr st=>
   rw [hg] at h
   injection h with h;subst h
   obtain⟨g1,g2,g3⟩:=jK f.code.length _ st hg (Nat.le_refl _) (by simp [CO])
   exact⟨g1,fun p x sh hx hs h11=>g3 p x sh (by omega) hx hs h11⟩
theorem Ub {m:AP}: ∀(n:Nat) (l t:List D5),JA m n l= .inr t→n≤m.fns.length→l.length=m.fns.length-n→
 (∀(k:Nat) (f:Bt),k<m.fns.length-n→m.fns[k]?=some f→ ∃tb:D5,l[k]?=some tb∧Fv m f= .inr tb)→
 t.length=m.fns.length∧ ∀(k:Nat) (f:Bt),m.fns[k]?=some f→ ∃tb:D5,t[k]?=some tb∧Fv m f= .inr tb
 | 0,l,t,h,hn,hl,ha=>by
  injection h with h;subst h
  exact⟨by omega,fun k f hf=>ha k f (by have:=(List.getElem?_eq_some_iff.1 hf).1;omega) hf⟩
 | n+1,l,t,h,hn,hl,ha=>by
  have hlt:m.fns.length-(n+1)<m.fns.length:=by omega
  have hx:m.fns[m.fns.length-(n+1)]?=some m.fns[m.fns.length-(n+1)]:=List.getElem?_eq_getElem hlt
  unfold JA at h
  rw [hx] at h
  dsimp only at h
  cases hs:Fv m m.fns[m.fns.length-(n+1)] with
  | inl e=>rw [hs] at h;cases h
  | inr tb=>
   rw [hs] at h
   dsimp only at h
   refine Ub n (l++ [tb]) t h (by omega) (by rw [List.length_append,hl];simp;omega) fun k f hk hf=> ?_
   by_cases e:k=m.fns.length-(n+1)
   ·subst e
    rw [hx] at hf;injection hf with hf;subst hf
    exact⟨tb,by rw [List.getElem?_append_right (by omega),hl,Nat.sub_self];rfl,hs⟩
   ·obtain⟨tb',h1,h2⟩:=ha k f (by omega) hf
    exact⟨tb',by rw [List.getElem?_append_left (by omega)];exact h1,h2⟩
theorem pR {m:AP} {t:List D5} (h:FE m= .inr t):F9 m=0∧t.length=m.fns.length∧ ∀(k:Nat) (f:Bt),m.fns[k]?=some f→ ∃tb:D5,t[k]?=some tb∧Fv m f= .inr tb:=by
 unfold FE at h
 split at h
 ·cases h
 ·rename_i h0
  obtain⟨a,b⟩:=Ub m.fns.length [] t h (Nat.le_refl _) (by simp) (fun k f hk=>by omega)
  exact⟨by simpa using h0,a,b⟩
def El (g:Ei) (v:Nat):Bool:=Du v g.l.toNat&&(g.m||decide (v=g.v))
def Cq:List Ei→List Nat→Bool
 | [],[]=>true
 | g::gs,v::vs=>El g v&&Cq gs vs
 | _,_=>false
theorem Ij: ∀ {gs:List Ei} {vs:List Nat},gs.length≠vs.length→Cq gs vs=false
 | [],[],h=>absurd rfl h
 | [],_::_,_=>rfl
 | _::_,[],_=>rfl
 | g::gs,v::vs,h=>by
  unfold Cq
  rw [Ij (by simpa using h),Bool.and_false]
theorem QL {gs:List Ei} {vs:List Nat} {k:Nat} {g:Ei} {v:Nat} (hg:gs[k]?=some g) (hv:vs[k]?=some v):
 Cq (gs.drop k) (vs.drop k)=(El g v&&Cq (gs.drop (k+1)) (vs.drop (k+1))):=by
 obtain⟨h1,rfl⟩:=List.getElem?_eq_some_iff.1 hg
 obtain⟨h2,rfl⟩:=List.getElem?_eq_some_iff.1 hv
 rw [List.drop_eq_getElem_cons h1,List.drop_eq_getElem_cons h2]
 rfl
def Ci (m:AP) (s:FU) (i:Nat):Bool:=
 if i=0 then decide (s.end_=1∨s.end_=2∨s.end_=3) else
 if i=1 then decide (s.end_=1∧1≤s.frames.length∧s.frames.length≤64∨s.end_≠1∧s.frames.length=0) else
 if i=2 then decide (s.res.length=0∨s.end_=2∧s.res.length≤8) else
 if i=3 then decide (s.end_=3∧1≤s.trap∧s.trap≤6∨s.end_≠3∧s.trap=0) else
 if i=4 then decide (0≤s.used∧s.used≤4611686018427387904) else
 if i=5 then decide (0≤s.CU) else
 if i=6 then Cq m.globs s.globs else
 decide (m.first≤s.pages.length∧(s.pages.length:Int)≤m.most)&&s.pages.all (fun p=>decide (p.length=4096))
def IQ (t:List D5) (f pc:Int):ByteArray:=((t[f.toNat]?.map (·.shapes)).getD [])[pc.toNat]?.getD Di
def dV (fn:Bt) (pc:Int):Ad:=fn.code[pc.toNat]?.getD ⟨0,0,[]⟩
def Ta (m:AP) (f:Js):Bool:=
 Eo f.f m.fns.length&&(Eo f.pc (Qy m f.f).code.length&&EN f.loc (C8 m (Qy m f.f)).data.toList)
def PX (m:AP) (f:Js) (nx:Int):Bool:=
 Eo nx m.fns.length&&(decide ((dV (Qy m f.f) f.pc).op.toNat=11)&&decide ((dV (Qy m f.f) f.pc).a=nx))
def J6 (m:AP) (t:List D5) (s:FU) (k:Nat):Bool:=match s.frames[k]? with
 | none=>true
 | some f=>Ta m f&&match s.frames[k+1]? with
  | none=>EN f.st (IQ t f.f f.pc).data.toList
  | some g=>PX m f g.f&&EN f.st ((IQ t f.f f.pc).extract 0 ((IQ t f.f f.pc).size-(CG m (Qy m g.f).t).p.size)).data.toList
def Br (m:AP) (s:FU) (i:Nat):Int:=if Ci m s i then 0 else(i:Int)+1
def Lm (m:AP) (t:List D5) (s:FU) (k:Nat):Int:=if J6 m t s k then 0 else 9+(k:Int)
def Ik (m:AP) (t:List D5) (s:FU):Int:=Cg (Aa 8 (Br m s)) (Aa s.frames.length (Lm m t s))
def DT (m:AP) (s:FU):Int×Int:=match FE m with
 | .inl e=>(e.1,0)
 | .inr t=>if Ik m t s=0 then(0,0) else(44,Ik m t s)
theorem jL {m:AP} {t:List D5} {s:FU} {i:Nat} (hi:i<8) (h0:Aa i (Br m s)=0) (h:Ci m s i=false):Ik m t s=(i:Int)+1:=by
 have hat:Br m s i=(i:Int)+1:=by unfold Br;rw [h];rfl
 have hne:Br m s i≠0:=by rw [hat];omega
 have h8:=Da h0 hne 8 hi
 unfold Ik
 rw [Bn (by rw [h8];exact hne),h8,hat]
theorem F5 {m:AP} {s:FU} {i:Nat} (h0:Aa i (Br m s)=0) (h:Ci m s i=true):Aa (i+1) (Br m s)=0:=
 CQ h0 (by unfold Br;rw [h];rfl)
theorem Q6 {m:AP} {t:List D5} {s:FU} {k:Nat} (h8:Aa 8 (Br m s)=0) (h0:Aa k (Lm m t s)=0) (hk:k<s.frames.length) (h:J6 m t s k=false):Ik m t s=9+(k:Int):=by
 have hat:Lm m t s k=9+(k:Int):=by unfold Lm;rw [h];rfl
 have hne:Lm m t s k≠0:=by rw [hat];omega
 unfold Ik
 rw [AX h8,Da h0 hne _ hk,hat]
theorem dW {m:AP} {t:List D5} {s:FU} {k:Nat} (h0:Aa k (Lm m t s)=0) (h:J6 m t s k=true):Aa (k+1) (Lm m t s)=0:=
 CQ h0 (by unfold Lm;rw [h];rfl)
theorem pU {m:AP} {t:List D5} {s:FU} (h8:Aa 8 (Br m s)=0) (h0:Aa s.frames.length (Lm m t s)=0):Ik m t s=0:=by
 unfold Ik;rw [AX h8];exact h0
theorem dX {m:AP} {t:List D5} {s:FU} (h:Ik m t s=0):(∀i,i<8→Ci m s i=true)∧ ∀k,k<s.frames.length→J6 m t s k=true:=by
 have h2:=AU h
 refine⟨fun i hi=> ?_,fun k hk=> ?_⟩
 ·have:=BP h2.1 i hi
  unfold Br at this
  cases hb:Ci m s i with
  | true=>rfl
  | false=>rw [hb] at this;simp at this;omega
 ·have:=BP h2.2 k hk
  unfold Lm at this
  cases hb:J6 m t s k with
  | true=>rfl
  | false=>rw [hb] at this;simp at this;omega
def Y7 (p:List UInt8):Bool:=p.any (fun c=>c !=0)
def jN (l:List (List UInt8)) (i:Nat):Bool:=match l[i]? with
 | none=>false
 | some p=>Y7 p
def EW (l:List (List UInt8)) (k:Nat):List Nat:=(List.range k).filter (jN l)
def Dq (l:List Nat):List UInt8:=enc l.length++l.flatMap enc
def iQ (l:List (List UInt8)) (i:Nat):List UInt8:=enc i++(l[i]?.getD [])
def PY (l:List (List UInt8)):List UInt8:=enc l.length++(enc (EW l l.length).length++(EW l l.length).flatMap (iQ l))
def Wu (f:Js):List UInt8:=enc f.f.toNat++(enc f.pc.toNat++(Dq f.loc++Dq f.st))
def JZ:List UInt8:= [70,83,78,80,1]
def GJ (s:FU):List UInt8:=
 JZ++([UInt8.ofNat s.end_.toNat,UInt8.ofNat s.trap.toNat]++(enc s.used.toNat++(enc s.CU.toNat++(Dq s.res++(Dq s.globs++(PY s.pages++(enc s.frames.length++s.frames.flatMap Wu)))))))
theorem Uc (l:List (List UInt8)) (k:Nat):EW l (k+1)=if jN l k then EW l k++ [k] else EW l k:=by
 unfold EW
 rw [List.range_succ,List.filter_append]
 cases h:jN l k<;>simp [h]
theorem XJ (l:List (List UInt8)) (k:Nat):(EW l k).length≤k:=by
 unfold EW
 exact Nat.le_trans (List.length_filter_le _ _) (by simp)
theorem aW {l:List (List UInt8)} {k i:Nat} (h:i∈EW l k):i<k:=by
 unfold EW at h
 simpa using (List.mem_filter.1 h).1
structure pV (s:FU):Prop where
 e0:1≤s.end_
 e1:s.end_≤3
 t0:0≤s.trap
 t1:s.trap≤6
 u0:0≤s.used
 u1:s.used≤4611686018427387904
 r0:0≤s.CU
 res:s.res.length≤8
 globs:s.globs.length≤64
 pages:s.pages.length≤64
 page: ∀p∈s.pages,p.length=4096
 frames:s.frames.length≤64
 f0: ∀f∈s.frames,0≤f.f∧f.f<128
 p0: ∀f∈s.frames,0≤f.pc∧f.pc<2048
 loc: ∀f∈s.frames,f.loc.length≤64
 st: ∀f∈s.frames,f.st.length≤256
abbrev G8 (α:Type):=(Int×Int)⊕(α×Nat)
def C9 {α β:Type} (x:G8 α) (f:Nat→G8 β):G8 β:=match x with
 | .inl e=> .inl e
 | .inr (_,p)=>f p
def B_ {α:Type} (d:α) (x:G8 α):α:=match x with
 | .inl _=>d
 | .inr (a,_)=>a
def posR {α:Type} (x:G8 α):(Int×Int)⊕Nat:=match x with
 | .inl e=> .inl e
 | .inr (_,p)=> .inr p
def Ak {β:Type} (st:(Int×Int)⊕Nat) (f:Nat→G8 β):G8 β:=match st with
 | .inl e=> .inl e
 | .inr p=>f p
theorem Cc {α β:Type} (x:G8 α) (f:Nat→G8 β):Ak (posR x) f=C9 x f:=by
 cases x<;>rfl
def Ar (l:List UInt8) (most:Nat) (great:Int) (p:Nat):G8 Nat:=
 if(EJ l p).2.2≠0 then .inl ((EJ l p).2.2,p) else if most<(EJ l p).1 then .inl (great,p) else .inr ((EJ l p).1,(EJ l p).2.1)
def FH (l:List UInt8) (least most:Nat) (p:Nat):G8 Nat:=match l[p]? with
 | none=> .inl (10,p)
 | some c=>if c.toNat<least∨most<c.toNat then .inl (17,p) else .inr (c.toNat,p+1)
def IU (l:List UInt8):Nat→List Nat→Nat→G8 (List Nat)
 | 0,acc,p=> .inr (acc,p)
 | n+1,acc,p=>match Ar l 18446744073709551615 17 p with
  | .inl e=> .inl e
  | .inr (v,q)=>IU l n (acc++ [v]) q
def DL (l:List UInt8) (most:Nat) (p:Nat):G8 (List Nat):=match Ar l most 20 p with
 | .inl e=> .inl e
 | .inr (n,q)=>IU l n [] q
def NC (l:List UInt8) (n:Nat) (pg:List (List UInt8)) (bh p:Nat):G8 (List (List UInt8)×Nat):=match Ar l 18446744073709551615 17 p with
 | .inl e=> .inl e
 | .inr (i,q)=>
  if n≤i then .inl (17,p) else if i<bh then .inl (18,p) else if l.length<q+4096 then .inl (10,q) else
  if Y7 ((l.drop q).take 4096)=false then .inl (12,q) else .inr ((pg.set i ((l.drop q).take 4096),i+1),q+4096)
def Em (l:List UInt8) (n:Nat):Nat→List (List UInt8)→Nat→Nat→G8 (List (List UInt8))
 | 0,pg,bh,p=> .inr (pg,p)
 | k+1,pg,bh,p=>match NC l n pg bh p with
  | .inl e=> .inl e
  | .inr (x,q)=>Em l n k x.1 x.2 q
def Az:List UInt8:=List.replicate 4096 0
def Cx (l:List UInt8) (p:Nat):G8 (List (List UInt8)):=match Ar l 64 20 p with
 | .inl e=> .inl e
 | .inr (n,q)=>match Ar l n 20 q with
  | .inl e=> .inl e
  | .inr (k,r)=>Em l n k (List.replicate n Az) 0 r
def fr1 (l:List UInt8) (p:Nat):G8 Nat:=Ar l 127 17 p
def xR (l:List UInt8) (p:Nat):G8 Nat:=C9 (fr1 l p) (Ar l 2047 17)
def pW (l:List UInt8) (p:Nat):G8 (List Nat):=C9 (xR l p) (DL l 64)
def xS (l:List UInt8) (p:Nat):G8 (List Nat):=C9 (pW l p) (DL l 256)
def Gt (l:List UInt8) (p:Nat):G8 Js:=match xS l p with
 | .inl e=> .inl e
 | .inr (st,q)=> .inr (⟨(B_ 0 (fr1 l p):Nat),(B_ 0 (xR l p):Nat),B_ [] (pW l p),st⟩,q)
def EX (l:List UInt8):Nat→List Js→Nat→G8 (List Js)
 | 0,acc,p=> .inr (acc,p)
 | n+1,acc,p=>match Gt l p with
  | .inl e=> .inl e
  | .inr (f,q)=>EX l n (acc++ [f]) q
def Il (l:List UInt8) (p:Nat):G8 (List Js):=match Ar l 64 20 p with
 | .inl e=> .inl e
 | .inr (n,q)=>EX l n [] q
def Yk (l:List UInt8):G8 Nat:=FH l 1 3 5
def XK (l:List UInt8):G8 Nat:=C9 (Yk l) (FH l 0 6)
def VT (l:List UInt8):G8 Nat:=C9 (XK l) (Ar l 4611686018427387904 17)
def Wv (l:List UInt8):G8 Nat:=C9 (VT l) (Ar l 9223372036854775807 17)
def Ww (l:List UInt8):G8 (List Nat):=C9 (Wv l) (DL l 8)
def Rm (l:List UInt8):G8 (List Nat):=C9 (Ww l) (DL l 64)
def LG (l:List UInt8):G8 (List (List UInt8)):=C9 (Rm l) (Cx l)
def TN (l:List UInt8):G8 (List Js):=C9 (LG l) (Il l)
def OO (l:List UInt8):FU:=⟨B_ [] (TN l),B_ [] (Rm l),B_ [] (LG l),(B_ 0 (Wv l):Nat),(B_ 0 (Yk l):Nat),B_ [] (Ww l),(B_ 0 (XK l):Nat),(B_ 0 (VT l):Nat)⟩
def Dr (l:List UInt8):(Int×Int)⊕FU:=
 if 524288<l.length then .inl (13,0) else
 if l.take 5≠JZ then .inl (14,0) else
 match TN l with
 | .inl e=> .inl e
 | .inr (_,p)=>if p≠l.length then .inl (19,(p:Int)) else .inr (OO l)
def CK (T:TypeId) (W:World) (g:Nat) (Bs:Value):(Int×Int)⊕Nat→Prop
 | .inr p=>AQ W g T [Bs,.int .i64 p,.int .i64 0,.int .i64 0]
 | .inl e=>e.1≠0∧ ∃a:Int,AQ W g T [Bs,.int .i64 a,.int .i64 e.1,.int .i64 e.2]
theorem CK.lt {T:TypeId} {W:World} {g:Nat} {Bs:Value} {st:(Int×Int)⊕Nat} (h:CK T W g Bs st):g<W.heap.size:=by
 cases st with
 | inl e=>obtain⟨_,_,h⟩:=h;exact h.lt
 | inr p=>exact AQ.lt h
theorem CK.keep {T:TypeId} {W W':World} {g:Nat} {Bs:Value} {st:(Int×Int)⊕Nat} {K:Nat→Prop} (h:CK T W g Bs st) (hk:Keep K W W') (hg:K g):CK T W' g Bs st:=by
 cases st with
 | inl e=>obtain⟨h1,a,h⟩:=h;exact⟨h1,a,h.keep hk hg⟩
 | inr p=>exact AQ.keep h hk hg
theorem CK.below {T:TypeId} {W W':World} {g:Nat} {Bs:Value} {st:(Int×Int)⊕Nat} (h:CK T W g Bs st) (hb:Below W.heap.size W W'):CK T W' g Bs st:=
 h.keep (K:=fun _=>True) (Keep.DC hb) trivial
abbrev KN (g:Nat):Nat→Prop:=fun k=>k≠g
def Gy (T:TypeId) (g:Nat) (Bs:Value) (w:World) (st:(Int×Int)⊕Nat) (P:Ending→World→Prop) (e:Ending) (w':World):Prop:=Keep (KN g) w w'∧CK T w' g Bs st∧P e w'
theorem Row.CB {w w':World} {B:Nat} {A:Option Addr} {xs:List Value} {K:Nat→Prop} (h:Row w B A xs) (hk:Keep K w w') (hB: ∀k,k<B→K k) (hb:B≤w.heap.size):Row w' B A xs:=by
 intro hn
 obtain⟨b,o,e,hlt,hc⟩:=h hn
 refine⟨b,o,e,hlt,fun j u hu=> ?_⟩
 have:=hk.block b (by omega) (hB b hlt)
 rw [←hc j u hu]
 simp [World.cell?,this]
theorem BS {b:Bool} {e:Int} (he:e≠0) (h:Ab b e=0):b=true:=by
 cases b with
 | true=>rfl
 | false=>exact absurd h he
structure XI (m:AP) (f:Bt):Prop where
 t0:0≤f.t
 t1:f.t<m.types.length
 loc:f.loc.size+(CG m f.t).p.size≤64
 few:f.code.length≤2048
 ins: ∀x∈f.code,Aq x=0
structure J7 (m:AP):Prop where
 types: ∀t∈m.types,t.p.size≤8∧t.r.size≤8
 fns: ∀f∈m.fns,XI m f
 nf:m.fns.length≤128
 nt:m.types.length≤64
 nh:m.hosts.length≤32
 ng:m.globs.length≤64
 host: ∀t∈m.hosts,0≤t∧t<m.types.length
 f0:0≤m.first
 f1:m.first≤m.most
 f2:m.most≤64
 glob: ∀g∈m.globs,MQ g.l.toNat=true
theorem VQ {m:AP} (h:F9 m=0):J7 m:=by
 obtain⟨h,_⟩:=AU h
 obtain⟨hh,hb⟩:=AU h
 obtain⟨ht,hh⟩:=AU hh
 obtain⟨ho,hh⟩:=AU hh
 obtain⟨hg,hp⟩:=AU hh
 obtain⟨hf,_⟩:=AU hb
 obtain⟨t1,t2⟩:=AU ht
 obtain⟨o1,o2⟩:=AU ho
 obtain⟨g1,g2⟩:=AU hg
 obtain⟨f1,f2⟩:=AU hf
 have hp:=of_decide_eq_true (BS (by decide) hp)
 refine⟨fun t hm=> ?_,fun f hm=> ?_,of_decide_eq_true (BS (by decide) f1),of_decide_eq_true (BS (by decide) t1),of_decide_eq_true (BS (by decide) o1),of_decide_eq_true (BS (by decide) g1),fun t hm=> ?_,hp.1,hp.2.2.1,hp.2.2.2,fun g hm=> ?_⟩
 ·obtain⟨k,hk⟩:=List.getElem?_of_mem hm
  have:=BP t2 k (List.getElem?_eq_some_iff.1 hk).1
  unfold Yj at this
  rw [hk] at this
  obtain⟨a,b⟩:=AU this
  obtain⟨b,_⟩:=AU b
  have a:=of_decide_eq_true (BS (by decide) (AU a).1)
  have b:=of_decide_eq_true (BS (by decide) (AU b).1)
  omega
 ·obtain⟨k,hk⟩:=List.getElem?_of_mem hm
  have:=BP f2 k (List.getElem?_eq_some_iff.1 hk).1
  unfold TY at this
  rw [hk] at this
  obtain⟨a,b⟩:=AU this
  obtain⟨b,c⟩:=AU b
  obtain⟨c,d⟩:=AU c
  obtain⟨d,e⟩:=AU d
  have a:=of_decide_eq_true (BS (by decide) a)
  have b:=of_decide_eq_true (BS (by decide) (AU b).1)
  have c:=of_decide_eq_true (BS (by decide) c)
  refine⟨a.1,a.2,?_,c,fun x hx=> ?_⟩
  ·have:Jj m f.t=(CG m f.t).p.size:=by
    unfold Jj CG
    cases m.types[f.t.toNat]?<;>rfl
   omega
  ·obtain⟨j,hj⟩:=List.getElem?_of_mem hx
   have:=BP e j (List.getElem?_eq_some_iff.1 hj).1
   unfold J4 at this
   rw [hj] at this
   exact this
 ·obtain⟨k,hk⟩:=List.getElem?_of_mem hm
  have:=BP o2 k (List.getElem?_eq_some_iff.1 hk).1
  unfold Gg at this
  rw [hk] at this
  exact of_decide_eq_true (BS (by decide) this)
 ·obtain⟨k,hk⟩:=List.getElem?_of_mem hm
  have:=BP g2 k (List.getElem?_eq_some_iff.1 hk).1
  unfold Gh at this
  rw [hk] at this
  exact BS (by decide) (AU this).1
theorem Gs {m:AP} (h:J7 m) (a:Int):(CG m a).p.size≤8∧(CG m a).r.size≤8:=by
 unfold CG
 cases hg:m.types[a.toNat]? with
 | none=>simp [aV,Di]
 | some t=>exact h.types t (List.mem_of_getElem? hg)
structure Lock (m:AP) (f:Bt) (c:Ai) (pc:Nat) (sc:Ai) (st:Cm):Prop where
 go:Gf f.code (f.code.length-pc) sc= .inr c
 ok:Lh f.code.length pc sc
 chain:Chain sc.BF sc.op
 val:QK m f sc pc st
theorem Kn {m:AP} {f:Bt} {c:Ai} (h:ctl f.code= .inr c):Lock m f c 0 (Ck f.code.length) (CO m f):=
 ⟨by rw [Nat.sub_zero];exact h,JW _,trivial,XH m f _⟩
theorem Lock.step {m:AP} {f:Bt} {c:Ai} {pc:Nat} {sc:Ai} {st:Cm} {x:Ad} (h:Lock m f c pc sc st) (hx:f.code[pc]?=some x):
 ∃sc',Ae f.code sc pc= .inr sc'∧(J7 m→Aq x=0→ ∀AB st',ED m f AB pc st x= .inr st'→Lock m f c (pc+1) sc' st'):=by
 have hlt:=(List.getElem?_eq_some_iff.1 hx).1
 cases hs:Ae f.code sc pc with
 | inl e=>have:=h.go;rw [Ke hlt hs] at this;cases this
 | inr sc'=>
  refine⟨sc',rfl,fun hm hi AB st' hv=>⟨?_,Kc h.ok hs,Y5 h.ok hx hs h.chain,Y6 h.val hx hs ?_ hm.types hv⟩⟩
  ·rw [←I6 hlt hs];exact h.go
  ·unfold Aq at hi
   cases hr:Au x.op.toNat with
   | none=>rw [hr] at hi;cases hi
   | some r=>rfl
theorem Lock.owner {m:AP} {f:Bt} {c:Ai} {pc:Nat} {sc:Ai} {st:Cm} {x:Ad} (h:Lock m f c pc sc st) (hx:f.code[pc]?=some x):c.BF[pc]?=some (EF sc.op):=by
 have hlt:=(List.getElem?_eq_some_iff.1 hx).1
 obtain⟨sc',hs,_⟩:=h.step hx
 have hgo:=h.go
 rw [I6 hlt hs] at hgo
 rw [Km _ (by omega) hgo pc (by omega),JB hs,List.getElem?_set_self (by rw [h.ok.BF];exact hlt)]
theorem Lock.xQ {m:AP} {f:Bt} {c:Ai} {pc:Nat} {sc:Ai} {st:Cm} (h:Lock m f c pc sc st):Chain c.BF sc.op:=
 h.chain.keep fun p hp=>by
  have h1:=h.ok.low p hp
  have h2:=h.ok.le
  exact Km _ (by omega) h.go p (by omega)
theorem Lock.MZ {m:AP} {f:Bt} {c:Ai} {pc:Nat} {sc:Ai} {st:Cm} {x:Ad} (h:Lock m f c pc sc st) (hx:f.code[pc]?=some x):sc.done=false:=by
 obtain⟨sc',hs,_⟩:=h.step hx
 exact(Nb hx hs).1
theorem VR {m:AP} {f:Bt} {c:Ai} (hm:J7 m) (hf:XI m f) {AB:List Int}: ∀(n:Nat) (sc:Ai) (st st':Cm),n≤f.code.length→Lock m f c (f.code.length-n) sc st→PV m f AB n st= .inr st'→
 (∀s∈st'.shapes,s.size≤256)∧st'.shapes.length=f.code.length∧st'.floors.length=f.code.length∧st'.high≤256∧(∀v∈st'.floors,-1≤v∧v≤256)
 | 0,sc,st,st',hn,hl,h=>by
  injection h with h;subst h
  have:=hl.val
  exact⟨this.bnd,by rw [this.shapes];omega,by rw [this.floors];omega,this.high,this.fl⟩
 | n+1,sc,st,st',hn,hl,h=>by
  have hlt:f.code.length-(n+1)<f.code.length:=by omega
  have hx:f.code[f.code.length-(n+1)]?=some f.code[f.code.length-(n+1)]:=List.getElem?_eq_getElem hlt
  unfold PV at h
  rw [hx] at h
  dsimp only at h
  cases hs:ED m f AB (f.code.length-(n+1)) st f.code[f.code.length-(n+1)] with
  | inl e=>rw [hs] at h;cases h
  | inr s1=>
   rw [hs] at h
   dsimp only at h
   obtain⟨sc',_,hk⟩:=hl.step hx
   have hl':=hk hm (hf.ins _ (List.getElem_mem hlt)) AB s1 hs
   rw [show f.code.length-(n+1)+1=f.code.length-n from by omega] at hl'
   exact VR hm hf n sc' s1 st' (by omega) hl' h
theorem jM {m:AP} {f:Bt} {tb:D5} (hm:J7 m) (hf:XI m f) (h:Fv m f= .inr tb):(∀s∈tb.shapes,s.size≤256)∧tb.shapes.length=f.code.length∧tb.floors.length=f.code.length∧tb.high≤256:=by
 unfold Fv at h
 cases hc:ctl f.code with
 | inl e=>rw [hc] at h;cases h
 | inr c=>
  rw [hc] at h
  dsimp only at h
  cases hg:PV m f c.AB f.code.length (CO m f)with
  | inl e=>rw [hg] at h;cases h
  | inr st=>
   rw [hg] at h
   injection h with h;subst h
   obtain⟨a,b,d,e,_⟩:=VR hm hf f.code.length (Ck f.code.length) _ _ (Nat.le_refl _) (by rw [Nat.sub_self];exact Kn hc) hg
   exact⟨a,b,d,by show(st.high:Int)≤256;omega⟩
theorem X9 {code:List Ad}: ∀(n:Nat) {st c:Ai},n≤code.length→Lh code.length (code.length-n) st→Gf code n st= .inr c→Lh code.length code.length c
 | 0,st,c,_,h,hg=>by
  unfold Gf at hg
  split at hg
  ·injection hg with hg;subst hg;simpa using h
  ·cases hg
 | n+1,st,c,hn,h,hg=>by
  unfold Gf at hg
  cases hs:Ae code st (code.length-(n+1))with
  | inl e=>rw [hs] at hg;cases hg
  | inr st'=>
   rw [hs] at hg
   have:=Kc h hs
   rw [show code.length-(n+1)+1=code.length-n from by omega] at this
   exact X9 n (by omega) this hg
theorem Pt {code:List Ad} {c:Ai} (h:ctl code= .inr c):Lh code.length code.length c:=
 X9 _ (Nat.le_refl _) (by rw [Nat.sub_self];exact JW _) h
structure wQ (m:AP) (f:Bt) (AB:List Int) (p:Nat) (st:Cm) (y:Ad):Prop where
 top:(Bg st).base.size≤st.shape.size
 ne: ∃o r,st.op=o::r∧r.length≤1000
 size:st.shape.size≤256
 fl:st.floors.length=p+1
 ops: ∀o∈st.op,o.base.size≤256∧o.s.p.size≤8∧o.s.r.size≤8
 live:Ah y.op=false→st.dead=false
 shut:Ah y.op=true→st.dead=true→st.shape=(Bg st).base++(Bg st).s.r
 opn: ∀o∈st.op,o.o.toNat=4→ ∃q:Nat,o.pc=q∧q<AB.length
section
variable {m:AP} {f:Bt} {c:Ai} {pc:Nat} {sc:Ai} {st st1:Cm} {x:Ad}
theorem Lock.len (h:Lock m f c pc sc st) (hx:f.code[pc]?=some x):st.op.length≤33:=by
 have h1:=h.val.vM
 rw [h.MZ hx] at h1
 have h2:=congrArg List.length h1
 have h3:=h.ok.few
 simp at h2
 omega
theorem Lock.op8 (hm:J7 m) (h:Lock m f c pc sc st): ∀o∈st.op,o.base.size≤256∧o.s.p.size≤8∧o.s.r.size≤8:=by
 intro o ho
 have h1:=h.val.each o ho
 refine⟨h1.size h.val.bnd,?_⟩
 rcases h1 with e | ⟨p,n,y,s,a1,a2,a3,a4,a5,a6,a7,a8,a9,Wt,UZ,a12⟩
 ·rw [e];exact⟨by simp [I_,Di],(Gs hm f.t).2⟩
 ·rw [a7];exact Gs hm _
theorem Lock.row (hm:J7 m) (hc:ctl f.code= .inr c) (h:Lock m f c pc sc st) (hx:f.code[pc]?=some x) (hb:Ch st x= .inr st1):wQ m f c.AB pc (Co st1) x:=by
 obtain⟨n1,n2,n3,n4,n5,n6,n7,n8,n9,n10⟩:=Rk h.val hb
 have hlt:=(List.getElem?_eq_some_iff.1 hx).1
 obtain⟨o,r,hop⟩:=h.val.ne (h.MZ hx)
 have hlen:=h.len hx
 have hop8:=h.op8 hm
 have htop:Bg (Co st1)=Bg st:=by unfold Bg;rw [n1]
 refine⟨n6,⟨o,r,by rw [n1];exact hop,by rw [hop] at hlen;simp at hlen;omega⟩,n5,n3,fun q hq=>hop8 q (by rw [←n1];exact hq),fun hcl=> ?_,fun hcl hd=> ?_,fun q hq h4=> ?_⟩
 ·unfold Ch at hb
  split at hb
  ·cases hb
  ·rename_i hd
   injection hb with hb;subst hb
   show st.dead=false
   simpa using hd
 ·rw [htop]
  unfold Ch at hb
  split at hb
  ·split at hb
   ·cases hb
   split at hb
   ·cases hb
   ·injection hb with hb;subst hb;rfl
  ·rename_i hd'
   injection hb with hb;subst hb
   exact absurd hd (by simpa [Co] using hd')
 ·rw [n1] at hq
  rcases h.val.each q hq with e | ⟨p,n,y,s,a1,a2,a3,a4,a5,a6,a7,a8,a9,Wt,UZ,a12⟩
  ·rw [e] at h4;exact absurd h4 (by show ¬((0:UInt8).toNat=4);decide)
  ·rw [h.val.shapes] at a2
   exact⟨p,a1,by rw [(Pt hc).AB];omega⟩
end
theorem RF {m:AP} {f:Bt} {AB:List Int} {pc:Nat} {st:Cm} {x:Ad} {e:Int} (hx:f.code[pc]?=some x) (hs:ED m f AB pc st x= .inl e):PV m f AB (f.code.length-pc) st= .inl (e,(pc:Int)):=by
 have hlt:=(List.getElem?_eq_some_iff.1 hx).1
 rw [show f.code.length-pc=(f.code.length-(pc+1))+1 from by omega]
 unfold PV
 rw [show f.code.length-(f.code.length-(pc+1)+1)=pc from by omega,hx]
 simp only [hs]
theorem X_ {m:AP} {f:Bt} {AB:List Int} {pc:Nat} {st st':Cm} {x:Ad} (hx:f.code[pc]?=some x) (hs:ED m f AB pc st x= .inr st'):PV m f AB (f.code.length-pc) st=PV m f AB (f.code.length-(pc+1)) st':=by
 have hlt:=(List.getElem?_eq_some_iff.1 hx).1
 rw [show f.code.length-pc=(f.code.length-(pc+1))+1 from by omega]
 conv=>lhs;unfold PV
 rw [show f.code.length-(f.code.length-(pc+1)+1)=pc from by omega,hx]
 simp only [hs]
def KR (n:Nat) (st:Cm):List Int:=st.floors++List.replicate (n-st.floors.length) (-1)
def zA (n:Int) (k:Nat):Bool:=decide (0≤n∧n≤k)
theorem Chain.drop {o:List Int}: ∀ {l:List Nat},Chain o l→ ∀j,Chain o (l.drop j)
 | [],_,j=>by rw [List.drop_nil];trivial
 | _::_,h,0=>h
 | _::r,h,j+1=>Chain.drop h.2 j
theorem Uw {l:List Nat} {j:Nat} {p:Nat} (h:l[j]?=some p):EF (l.drop j)=(p:Int):=by
 obtain⟨h1,rfl⟩:=List.getElem?_eq_some_iff.1 h
 rw [List.drop_eq_getElem_cons h1];rfl
theorem SV {l:List Nat} {j:Nat} (h:l.length≤j):EF (l.drop j)= -1:=by
 rw [List.drop_eq_nil_of_le h];rfl
theorem Chain.up {o:List Int} {l:List Nat} (h:Chain o l) {j:Nat} {p:Nat} (hj:l[j]?=some p):o[p]?=some (EF (l.drop (j+1))):=by
 have h1:=h.drop j
 obtain⟨hl,rfl⟩:=List.getElem?_eq_some_iff.1 hj
 rw [List.drop_eq_getElem_cons hl] at h1
 exact h1.1
section
variable {m:AP} {f:Bt} {c:Ai} {pc:Nat} {sc:Ai} {st:Cm} {x:Ad}
theorem Lock.lab (h:Lock m f c pc sc st) (hx:f.code[pc]?=some x) {n:Nat} {q:Bo} (hq:st.op[n]?=some q):n≤sc.op.length∧q.pc=EF (sc.op.drop n):=by
 have hp:=h.val.vM
 rw [h.MZ hx] at hp
 simp only [Bool.false_eq_true,if_false] at hp
 have h1:(st.op.map (·.pc))[n]?=some q.pc:=by rw [List.getElem?_map,hq];rfl
 rw [hp] at h1
 by_cases hn:n<sc.op.length
 ·rw [List.getElem?_append_left (by simpa using hn),List.getElem?_map] at h1
  obtain⟨p,hp1,hp2⟩:=Option.map_eq_some_iff.1 h1
  exact⟨by omega,by rw [Uw hp1,←hp2];rfl⟩
 ·have hl:=(List.getElem?_eq_some_iff.1 h1).1
  simp at hl
  rw [List.getElem?_append_right (by simp;omega)] at h1
  have e:n-(sc.op.map Int.ofNat).length=0:=by simp;omega
  rw [e] at h1
  injection h1 with h1
  exact⟨by omega,by rw [SV (by omega),←h1]⟩
theorem Lock.zB (h:Lock m f c pc sc st) (hx:f.code[pc]?=some x):st.op.length=sc.op.length+1:=by
 have hp:=h.val.vM
 rw [h.MZ hx] at hp
 have:=congrArg List.length hp
 simpa using this
theorem Lock.rY (h:Lock m f c pc sc st) (hx:f.code[pc]?=some x) (n:Int):(BK st.op n).isSome=zA n sc.op.length:=by
 unfold zA
 have hl:=h.zB hx
 unfold BK
 by_cases h0:0≤n
 ·rw [if_pos h0]
  by_cases h1:n≤sc.op.length
  ·rw [List.getElem?_eq_getElem (by omega)];simp [h0,h1]
  ·rw [List.getElem?_eq_none (by omega)];simp [h1]
 ·rw [if_neg h0];simp [h0]
theorem Lock.rZ (h:Lock m f c pc sc st) (hx:f.code[pc]?=some x) {n:Int} {q:Bo} (hq:BK st.op n=some q):q∈st.op∧q.pc=EF (sc.op.drop n.toNat):=by
 unfold BK at hq
 split at hq
 ·exact⟨List.mem_of_getElem? hq,(h.lab hx hq).2⟩
 ·cases hq
end
structure SwV (W:World) (base g:Nat) (K:Nat→Prop) (l:List UInt8) (A:Option Addr) (c:Nat):Prop where
 blk:AQ W g 132 [.slice A l.length c,.bool false]
 own:FJ W base 5 (.slice A l.length c) l.length (l.map bv)
 low:base≤g
 kg: ¬K g
 apart: ∀k,(Value.slice A l.length c).ownBlock=some k→ ¬K k∧k≠g
 lt: ∀k,K k→k<W.heap.size
def Sw (W:World) (base g:Nat) (K:Nat→Prop) (l:List UInt8):Prop:= ∃A c,SwV W base g K l A c
section
variable {W W':World} {base g:Nat} {K:Nat→Prop} {l:List UInt8} {A:Option Addr} {c:Nat}
theorem SwV.ES (h:SwV W base g K l A c) (hb:Below W.heap.size W W'):SwV W' base g K l A c:=
 ⟨h.blk.below hb h.blk.lt,h.own.XU hb,h.low,h.kg,h.apart,fun k hk=>Nat.lt_of_lt_of_le (h.lt k hk) hb.size⟩
theorem Sw.ES (h:Sw W base g K l) (hb:Below W.heap.size W W'):Sw W' base g K l:=let ⟨A,c,h⟩:=h;⟨A,c,h.ES hb⟩
theorem Sw.bad (h:Sw W base g K l):W.cell? ⟨g,1,none⟩=some (.bool false):=let ⟨_,_,h⟩:=h;h.blk.cell 1
theorem Sw.lt (h:Sw W base g K l):g<W.heap.size:=let ⟨_,_,h⟩:=h;h.blk.lt
theorem SwV.put (h:SwV W base g K l A c) {news:List UInt8} {A':Option Addr} {c' m:Nat} (hm:m=news.length) (hg:W.grownBy W' (Value.slice A l.length c).ownBlock)
 (ho:W'.ownsRow base 5 1 (.slice A' (l.length+m) c') (l.length+m) (l.map bv++news.map bv))
 (hb:(Value.slice A' (l.length+m) c').ownBlock=(Value.slice A l.length c).ownBlock∨(Value.slice A' (l.length+m) c').ownBlock=some W.heap.size):
 Keep K W (W'.setCell ⟨g,0,none⟩ (.slice A' (l.length+m) c'))∧Sw (W'.setCell ⟨g,0,none⟩ (.slice A' (l.length+m) c')) base g K (l++news):=by
 subst hm
 have hgl:=h.blk.lt
 have hap: ∀k,(Value.slice A' (l.length+news.length) c').ownBlock=some k→ ¬K k∧k≠g:=fun k hk=>by
  rcases hb with e | e
  ·exact h.apart k (e▸hk)
  ·rw [e] at hk;injection hk with hk;subst hk
   exact⟨fun hK=>by have:=h.lt _ hK;omega,by omega⟩
 have hblk:AQ W' g 132 [.slice A l.length c,.bool false]:=(hg.block g hgl (fun e=>(h.apart g e.symm).2 rfl)).trans h.blk
 refine⟨((Keep.refl K W).grown hg (fun k hk=>(h.apart k hk).1)).setCell h.kg _,A',c',⟨?_,?_,h.low,h.kg,?_,fun k hk=> ?_⟩⟩
 ·rw [List.length_append];exact hblk.set 0 _
 ·rw [List.length_append,List.map_append]
  exact .inl (BH ho (fun e=>(hap g e).2 rfl) _)
 ·rw [List.length_append];exact hap
 ·have h1:=h.lt k hk
  have h2:=hg.size
  simp [World.setCell];omega
end
def Wd (base g:Nat) (K:Nat→Prop) (l news:List UInt8) (w:World) (e:Ending) (w':World):Prop:=e= .returned (.tuple #[])∧Keep K w w'∧Sw w' base g K (l++news)
theorem Iz (n most:Nat) (hn:n<9223372036854775808) (hm:n≤most) (base g:Nat) (K:Nat→Prop) (l:List UInt8) (w:World) (h:Sw w base g K l) (hl:l.length≤1099511627776) (hbase:base≤w.heap.size):
 Calls prog 67 #[.pointer (some ⟨g,0,none⟩),.int .i64 n,.int .u64 most] w (Wd base g K l (enc n) w):=by
 obtain⟨A,c,h⟩:=h
 have H:=AA h
 have hc0:=h.blk.q 0 rfl
 have hlt:=h.blk.lt
 have hf:=h.blk.frozen 0
 have henc:=AY n (by omega)
 have hwr:IntKind.u64.wrap (n:Int)=(n:Int):=by rw [IntKind.wrap_u64];omega
 have hn0: ¬(n:Int)<0:=by omega
 have hm0: ¬(most:Int)<n:=by omega
 clear h
 obtain⟨i0,hi0,hz,hs',hby⟩:=info_parts Dt
 go_enter func67,ntmps67
 go_wp2_with fail
 go_region_law
  (first
   | (go_simp;go_at_call 102;refine(F7 n (by omega) _).mono ?_;rintro e w1 ⟨A1,c1,rfl,h2,h3⟩;have hb1:Below w.heap.size w w1:=⟨h3.os,h3.tape,h3.output,h3.size,h3.block⟩;have HR:=AA (Row.own h2);have H1:=AA (H.out.ES hb1);have HB1:=AA hb1;have Ls:Hid (Keep K w w1):=AA (Keep.DC hb1);have hc1:=H1.out.blk.q 0 rfl;have hf1:=H1.out.blk.frozen 0;clear h2 h3 hb1)
   | (refine F6 rfl (.tmp 21) (.tmp 24) 40 rfl base 5 i0 _ 1 underlying40 hi0 hz hs' hby rfl _ l.length (l.map bv) rfl (by exact H1.out.own) _ A1 (enc n).length c1 ((enc n).map bv) (FC n) rfl (by rw [List.length_map,Nat.mul_one]) (by exact HR.out) (Eh _) (by unfold maxLen;omega) (by omega) (Nat.le_trans hbase HB1.out.size) ?_;intro A4 c4 w4 h2 h3 h4;have HP:=AA (H1.out.put rfl h3 h2 h4);have XZ:=(Ay h3 H1.out.blk (fun e=>(H1.out.apart g e).2 rfl)).frozen 0;have hc4:=(Ay h3 H1.out.blk (fun e=>(H1.out.apart g e).2 rfl)).cell 0;clear h2 h3 h4))
 all_goals
  go_end0
  exact⟨rfl,Ls.out.trans HP.out.1,HP.out.2⟩
def AD1 (vs:List Nat) (base g:Nat) (K:Nat→Prop) (l:List UInt8) (w:World) (i:Value) (wr:World):Prop:=
 ∃k:Nat,k≤vs.length∧i= .int .i64 k∧Keep K w wr∧Sw wr base g K (l++(enc vs.length++(vs.take k).flatMap enc))
theorem P6 {α:Type} {vs:List α} {f:α→List UInt8} {k:Nat} {x:α} (hx:vs[k]?=some x):(vs.take (k+1)).flatMap f=(vs.take k).flatMap f++f x:=by
 have hk:=(List.getElem?_eq_some_iff.1 hx).1
 rw [List.take_succ_eq_append_getElem hk,List.flatMap_append]
 rw [List.getElem?_eq_getElem hk] at hx
 injection hx with hx
 rw [hx]
 simp
theorem bZ {vs:List Nat} (hv: ∀x∈vs,Rd.Yv x):(vs.flatMap enc).length≤10*vs.length:=by
 induction vs with
 | nil=>simp
 | cons x xs ih=>
  rw [List.flatMap_cons,List.length_append,List.length_cons]
  have:=AY x (hv x (by simp))
  have:=ih (fun y hy=>hv y (by simp [hy]))
  omega
theorem Mk (vs:List Nat) (A0:Option Addr) (c0 most lo hi:Nat) (hm:vs.length≤most) (hmm:vs.length≤1000) (base g:Nat) (K:Nat→Prop) (l:List UInt8) (w:World) (hr:(Rd.u64.sl false).R w lo hi [.slice A0 vs.length c0] vs) (hhi:hi≤w.heap.size) (hK: ∀k,lo≤k→k<hi→K k)
 (h:Sw w base g K l) (hl:l.length≤549755813888) (hbase:base≤w.heap.size):
 Calls prog 68 #[.pointer (some ⟨g,0,none⟩),.slice A0 vs.length c0,.int .u64 most] w (Wd base g K l (Dq vs) w):=by
 have H:=AA h;have HR:=AA hr;have HK:=AA hK
 clear h hr hK
 obtain⟨i0,hi0,hz,hs',hby⟩:=info_parts Dt
 have henc:=AY vs.length (by omega)
 go_enter func68,ntmps68
 go_wp2_with fail
 refine(Iz vs.length most (by omega) hm base g K l w H.out (by omega) hbase).mono ?_
 rintro e w1 ⟨rfl,hk1,hs1⟩
 have Ls:=AA hk1;have Nr:=AA hs1
 have hbad:=hs1.bad
 clear hk1 hs1
 go_wp2_with fail
 go_loopw [19] (fun i wr=>AD1 vs base g K l w i wr) (fun i _=>vs.length-(intOf i).toNat)
 case atStart=>exact⟨0,Nat.zero_le _,rfl,Ls.out,by simpa using Nr.out⟩
 case round=>
  obtain⟨k,hk,rfl,hkp,hsw⟩:=hrel
  have IK:=AA hkp;have bn:=AA hsw
  clear hkp hsw hbad
  by_cases hlt:k<vs.length
  ·obtain⟨x,hx⟩: ∃x,vs[k]?=some x:=⟨_,List.getElem?_eq_getElem hlt⟩
   have hB:Rd.Yv x:=Rd.M8 HR.out x (List.mem_of_getElem? hx)
   obtain⟨b,o,rfl,_,hcell⟩:=(Rd.Gj (Rd.CB HR.out IK.out hhi HK.out)).2.word (j:=k) (by rw [←(Rd.Gj HR.out).1];exact hlt)
   rw [hx] at hcell
   have HX:=AA hx
   have hk0:(0:Int)≤k:=by omega
   have hfl:=bZ (vs:=vs.take k) (fun y hy=>Rd.M8 HR.out y (List.mem_of_mem_take hy))
   have HL:Hid ((l++(enc vs.length++(vs.take k).flatMap enc)).length≤1099511627776):=AA (by rw [List.length_append,List.length_append];rw [List.length_take] at hfl;omega)
   have HT:Hid ((l++(enc vs.length++(vs.take k).flatMap enc))++enc x=l++(enc vs.length++(vs.take (k+1)).flatMap enc)):=AA (by rw [P6 hx];simp)
   clear hx hfl
   obtain⟨A,c,h⟩:=bn.out
   have H:=AA h
   generalize l++(enc vs.length++(vs.take k).flatMap enc)=L at*
   have hc0:=h.blk.q 0 rfl
   have AD2:=h.blk.lt
   have hf:=h.blk.frozen 0
   have hex:=AY x hB
   have hll:=HL.out
   have WZ:base≤wr.heap.size:=Nat.le_trans hbase IK.out.size
   clear h
   go_wp2_with fail
   go_region_law
    (first
     | (go_simp;go_at_call 102;refine(F7 x hB _).mono ?_;rintro e w2 ⟨A1,c1,rfl,h2,h3⟩;have hb1:Below wr.heap.size wr w2:=⟨h3.os,h3.tape,h3.output,h3.size,h3.block⟩;have HRX:=AA (Row.own h2);have H1:=AA (H.out.ES hb1);have HB1:=AA hb1;have GN:Hid (Keep K wr w2):=AA (Keep.DC hb1);have hc1:=H1.out.blk.q 0 rfl;have hf1:=H1.out.blk.frozen 0;clear h2 h3 hb1)
     | (refine F6 rfl (.tmp 27) (.tmp 29) 40 rfl base 5 i0 _ 1 underlying40 hi0 hz hs' hby rfl _ L.length (L.map bv) rfl (by exact H1.out.own) _ A1 (enc x).length c1 ((enc x).map bv) (FC x) rfl (by rw [List.length_map,Nat.mul_one]) (by exact HRX.out) (Eh _) (by unfold maxLen;omega) (by omega) (Nat.le_trans WZ HB1.out.size) ?_;intro A4 c4 w4 h2 h3 h4;have HP:=AA (H1.out.put rfl h3 h2 h4);have XZ:=(Ay h3 H1.out.blk (fun e=>(H1.out.apart g e).2 rfl)).frozen 0;have hc4:=(Ay h3 H1.out.blk (fun e=>(H1.out.apart g e).2 rfl)).cell 0;clear h2 h3 h4))
   all_goals
    go_wp2_with fail
    refine⟨⟨k+1,by omega,by go_num,(IK.out.trans GN.out).trans HP.out.1,?_⟩,by simp [intOf];omega⟩
    rw [←HT.out]
    exact HP.out.2
  ·obtain rfl:vs.length=k:=by omega
   go_wp2_with fail
   go_end0
   refine⟨rfl,IK.out,?_⟩
   have:=bn.out
   rw [List.take_length] at this
   exact this
theorem XL {code:List Ad} {st:Ai} {pc:Nat} {e:Int×Int} (h:Ae code st pc= .inl e):e.1≠0:=by
 unfold Ae at h
 split at h
 ·injection h with h;subst h;simp
 split at h
 ·injection h with h;subst h;simp
 split at h
 ·split at h
  ·injection h with h;subst h;simp
  ·cases h
 split at h
 ·split at h
  ·injection h with h;subst h;simp
  split at h
  ·cases h
  ·injection h with h;subst h;simp
 split at h
 ·split at h<;>cases h
 ·cases h
theorem PZ {code:List Ad}: ∀(n:Nat) {st:Ai} {e:Int×Int},Gf code n st= .inl e→e.1≠0
 | 0,st,e,h=>by
  unfold Gf at h
  split at h
  ·cases h
  ·injection h with h;subst h;simp
 | n+1,st,e,h=>by
  unfold Gf at h
  cases hs:Ae code st (code.length-(n+1))with
  | inl e'=>rw [hs] at h;injection h with h;subst h;exact XL hs
  | inr st'=>rw [hs] at h;exact PZ n h
theorem Ud {m:AP} {f:Bt} {AB:List Int} {pc:Nat} {st:Cm} {x:Ad} {e:Int} (h:ED m f AB pc st x= .inl e):e≠0:=by
 unfold ED at h
 cases hb:Ch st x with
 | inl e'=>
  rw [hb] at h
  injection h with h;subst h
  unfold Ch at hb
  split at hb
  ·split at hb
   ·injection hb with hb;subst hb;decide
   split at hb
   ·injection hb with hb;subst hb;decide
   ·cases hb
  ·cases hb
 | inr st1=>
  rw [hb] at h
  dsimp only at h
  unfold EA at h
  split at h
  ·split at h
   ·injection h with h;subst h;simp
   split at h
   ·cases h
   split at h
   ·injection h with h;subst h;simp
   ·cases h
  ·split at h
   ·rename_i he
    injection h with h;subst h;exact he
   split at h
   ·injection h with h;subst h;simp
   split at h
   ·injection h with h;subst h;simp
   ·cases h
theorem VU {m:AP} {f:Bt} {AB:List Int}: ∀(n:Nat) {st:Cm} {e:Int×Int},PV m f AB n st= .inl e→e.1≠0
 | 0,st,e,h=>by cases h
 | n+1,st,e,h=>by
  unfold PV at h
  split at h
  ·cases h
  ·rename_i x hx
   cases hs:ED m f AB (f.code.length-(n+1)) st x with
   | inl e'=>rw [hs] at h;injection h with h;subst h;exact Ud hs
   | inr st'=>rw [hs] at h;exact VU n h
theorem Rn {m:AP} {f:Bt} {e:Int×Int} (h:Fv m f= .inl e):e.1≠0:=by
 unfold Fv at h
 cases hc:ctl f.code with
 | inl e'=>rw [hc] at h;injection h with h;subst h;exact PZ _ hc
 | inr c=>
  rw [hc] at h
  dsimp only at h
  cases hg:PV m f c.AB f.code.length (CO m f)with
  | inl e'=>rw [hg] at h;injection h with h;subst h;exact VU _ hg
  | inr st=>rw [hg] at h;cases h
theorem Ro {m:AP}: ∀(n:Nat) {l:List D5} {e:Int×Int×Int},JA m n l= .inl e→e.1≠0
 | 0,l,e,h=>by cases h
 | n+1,l,e,h=>by
  unfold JA at h
  split at h
  ·cases h
  ·rename_i f hf
   cases hs:Fv m f with
   | inl e'=>rw [hs] at h;injection h with h;subst h;exact Rn hs
   | inr t=>rw [hs] at h;exact Ro n h
theorem J8 {m:AP} {e:Int×Int×Int} (h:FE m= .inl e):e.1≠0:=by
 unfold FE at h
 split at h
 ·rename_i h0;injection h with h;subst h;exact h0
 ·exact Ro _ h
structure TbOk (m:AP) (f:Bt) (tb:D5):Prop where
 n:tb.shapes.length=f.code.length
 low: ∀s∈tb.shapes,s.size≤256
 call: ∀(p:Nat) (x:Ad) (sh:ByteArray),f.code[p]?=some x→tb.shapes[p]?=some sh→x.op.toNat=11→(CG m (Qy m x.a).t).p.size≤sh.size
theorem J9 {m:AP} {t:List D5} (h:FE m= .inr t):J7 m∧t.length=m.fns.length∧ ∀(k:Nat) (f:Bt),m.fns[k]?=some f→ ∃tb:D5,t[k]?=some tb∧TbOk m f tb:=by
 obtain⟨h0,h1,h2⟩:=pR h
 have hm:=VQ h0
 refine⟨hm,h1,fun k f hf=> ?_⟩
 obtain⟨tb,h3,h4⟩:=h2 k f hf
 have h5:=pQ h4
 exact⟨tb,h3,h5.1,(jM hm (hm.fns f (List.mem_of_getElem? hf)) h4).1,h5.2⟩
theorem Fw {n:Int} {c:Nat} (h:Eo n c=true): ∃k:Nat,n=k∧k<c:=by
 have:=of_decide_eq_true h
 obtain⟨k,rfl⟩:=Int.eq_ofNat_of_zero_le this.1
 exact⟨k,rfl,by omega⟩
theorem Nf {m:AP} {k:Nat} {f:Bt} (h:m.fns[k]?=some f):Qy m (k:Int)=f:=by
 unfold Qy;rw [Int.toNat_natCast,h];rfl
theorem FI {m:AP} {k:Nat} {x:CW} (h:m.types[k]?=some x):CG m (k:Int)=x:=by
 unfold CG;rw [Int.toNat_natCast,h];rfl
theorem pX {m:AP} {t:List D5} {s:FU} (hv:FE m= .inr t) (h:Ik m t s=0):pV s:=by
 obtain⟨hm,ht,htb⟩:=J9 hv
 obtain⟨ha,hf⟩:=dX h
 have a0:=ha 0 (by omega)
 have a1:=ha 1 (by omega)
 have a2:=ha 2 (by omega)
 have a3:=ha 3 (by omega)
 have a4:=ha 4 (by omega)
 have a5:=ha 5 (by omega)
 have a6:=ha 6 (by omega)
 have a7:=ha 7 (by omega)
 simp only [Ci,Nat.reduceEqDiff,Bool.and_eq_true,decide_eq_true_eq,reduceIte] at a0 a1 a2 a3 a4 a5 a6 a7
 have hfr: ∀f∈s.frames,(0≤f.f∧f.f<128)∧(0≤f.pc∧f.pc<2048)∧f.loc.length≤64∧f.st.length≤256:=by
  intro f hmem
  obtain⟨k,hk⟩:=List.getElem?_of_mem hmem
  have hok:=hf k (List.getElem?_eq_some_iff.1 hk).1
  unfold J6 at hok
  rw [hk] at hok
  dsimp only at hok
  obtain⟨hin,hst⟩:=(Bool.and_eq_true _ _).mp hok
  unfold Ta at hin
  obtain⟨h1,hin⟩:=(Bool.and_eq_true _ _).mp hin
  obtain⟨h2,h3⟩:=(Bool.and_eq_true _ _).mp hin
  obtain⟨n,hn,hnl⟩:=Fw h1
  obtain⟨q,hq,hql⟩:=Fw h2
  obtain⟨fn,hfn⟩: ∃fn,m.fns[n]?=some fn:=⟨_,List.getElem?_eq_getElem hnl⟩
  obtain⟨tb,htk,hto⟩:=htb n fn hfn
  have hfo:=hm.fns fn (List.mem_of_getElem? hfn)
  have dY:Qy m f.f=fn:=by rw [hn];exact Nf hfn
  rw [dY] at h2 h3 hql
  have hnf:=hm.nf
  have J_:=hfo.few
  have hl:=LX _ _ h3
  have hls:(C8 m fn).data.toList.length=(CG m fn.t).p.size+fn.loc.size:=by
   have:(C8 m fn).size=(CG m fn.t).p.size+fn.loc.size:=by unfold C8;rw [ByteArray.size_append]
   simpa using this
  have hloc:=hfo.loc
  have hsh:(IQ t f.f f.pc).size≤256:=by
   unfold IQ
   rw [hn,hq,Int.toNat_natCast,Int.toNat_natCast,htk]
   obtain⟨sh,hsh⟩: ∃sh,tb.shapes[q]?=some sh:=⟨_,List.getElem?_eq_getElem (by rw [hto.n];exact hql)⟩
   show((tb.shapes)[q]?.getD Di).size≤256
   rw [hsh]
   exact hto.low sh (List.mem_of_getElem? hsh)
  have hstl:f.st.length≤256:=by
   split at hst
   ·have:=LX _ _ hst
    simp at this;omega
   ·obtain⟨_,hst⟩:=(Bool.and_eq_true _ _).mp hst
    have:=LX _ _ hst
    simp at this;omega
  refine⟨by omega,by omega,by omega,hstl⟩
 have hgl:s.globs.length≤64:=by
  have h1:m.globs.length=s.globs.length:=by
   by_cases e:m.globs.length=s.globs.length
   ·exact e
   ·rw [Ij e] at a6;cases a6
  have:=hm.ng
  omega
 have hf1:=hm.f2
 refine⟨by omega,by omega,by omega,by omega,by omega,by omega,a5,by omega,hgl,by omega,fun p hp=> ?_,by omega,fun f hm=>(hfr f hm).1,fun f hm=>(hfr f hm).2.1,fun f hm=>(hfr f hm).2.2.1,fun f hm=>(hfr f hm).2.2.2⟩
 have:=List.all_eq_true.1 a7.2 p hp
 simpa using this
end Go.Proofs.YtlagonfamllgjaaGreatDoor
