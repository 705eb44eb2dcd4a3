/- Part 9 of the proof: ShapeQ TypesQ Long CopyB Fits Wide WireE ModQ -/
import Derived.Lib.IndexMore
import Derived.Lib.IndexLaws
import Derived.Test.YtebgikflpgcnlaaGreatDoorT07
namespace Go.Proofs.YtebgikflpgcnlaaGreatDoor
set_option linter.unusedVariables false
set_option linter.unusedSimpArgs false
set_option linter.unusedSectionVars false
set_option maxRecDepth 100000
set_option maxHeartbeats 4000000
open Go.RowKit Tryz
def bl (s:ByteArray):List UInt8:=s.data.toList
theorem bl_len (s:ByteArray):(bl s).length=s.size:=by simp [bl]
theorem bl_inj {a b:ByteArray} (h:bl a=bl b):a=b:=by
 cases a;cases b
 unfold bl at h
 simpa using h
theorem bl_ext (s:ByteArray) (i j:Nat):bl (s.extract i j)=((bl s).take j).drop i:=by
 unfold bl
 rw [ByteArray.data_extract,Array.toList_extract,List.extract_eq_take_drop,List.drop_take]
theorem bl_app (s t:ByteArray):bl (s++t)=bl s++bl t:=by
 unfold bl
 rw [ByteArray.data_append,Array.toList_append]
theorem letS_eq (s:ByteArray):letS s=letB 256 (bl s):=rfl
theorem letB_iff (m:Nat) (l:List UInt8):letB m l=true↔l.length≤m∧ ∀c∈l,isL c=true:=by
 unfold letB;simp
theorem ends_iff (s t:ByteArray):ends s t=true↔ ∃r,bl s=r++bl t:=by
 unfold ends
 rw [Bool.and_eq_true,decide_eq_true_eq,beq_iff_eq,ByteArray.toList_eq,ByteArray.toList_eq]
 show t.size≤s.size∧bl _=bl t↔_
 rw [bl_ext,←bl_len,←bl_len,List.take_of_length_le (Nat.le_refl _)]
 constructor
 ·rintro⟨h1,h2⟩
  exact⟨(bl s).take ((bl s).length-(bl t).length),by
   have:=List.take_append_drop ((bl s).length-(bl t).length) (bl s)
   rw [h2] at this
   exact this.symm⟩
 ·rintro⟨r,hr⟩
  rw [hr]
  refine⟨by simp,?_⟩
  rw [List.drop_left' (by simp)]
theorem not_and {a b:Bool} (h: ¬(a&&b)=false):a=true∧b=true:=by cases a<;>cases b<;>simp_all
theorem pushS_ok {s t a:ByteArray} (h:pushS s t=(a,0)):letS s=true∧letS t=true∧s.size+t.size≤256∧a=s++t:=by
 unfold pushS at h
 by_cases h1:(letS s&&letS t)=false
 ·rw [if_pos h1] at h;cases h
 ·rw [if_neg h1] at h
  by_cases h2:256<s.size+t.size
  ·rw [if_pos h2] at h;cases h
  ·rw [if_neg h2] at h
   injection h with h
   exact⟨(not_and h1).1,(not_and h1).2,by omega,h.symm⟩
theorem popS_ok' {s t a:ByteArray} (h:popS s t=(a,0)):letS s=true∧letS t=true∧ends s t=true∧a=s.extract 0 (s.size-t.size):=by
 unfold popS at h
 by_cases h1:(letS s&&letS t)=false
 ·rw [if_pos h1] at h;cases h
 ·rw [if_neg h1] at h
  by_cases h2:ends s t=false
  ·rw [if_pos h2] at h;cases h
  ·rw [if_neg h2] at h
   injection h with h
   exact⟨(not_and h1).1,(not_and h1).2,by simpa using h2,h.symm⟩
theorem keepS_ok {s t a:ByteArray} {f:Int} (h:keepS s f t=(a,0)):letS s=true∧letS t=true∧0≤f∧ends s t=true∧f≤(s.size:Int)-t.size∧a=s.extract 0 f.toNat++t:=by
 unfold keepS at h
 by_cases h1:(letS s&&letS t)=false
 ·rw [if_pos h1] at h;cases h
 ·rw [if_neg h1] at h
  by_cases h2:f<0∨ends s t=false∨(s.size:Int)-t.size<f
  ·rw [if_pos h2] at h;cases h
  ·rw [if_neg h2] at h
   injection h with h
   refine⟨(not_and h1).1,(not_and h1).2,by omega,?_,by omega,h.symm⟩
   cases he:ends s t with
   | true=>rfl
   | false=>exact absurd (.inr (.inl he)) h2
theorem letS_app {s t:ByteArray} (hs:letS s=true) (ht:letS t=true) (h:s.size+t.size≤256):letS (s++t)=true:=by
 rw [letS_eq,letB_iff] at*
 rw [bl_app,List.length_append,bl_len,bl_len]
 refine⟨h,fun c hc=> ?_⟩
 rcases List.mem_append.1 hc with hc | hc
 ·exact hs.2 c hc
 ·exact ht.2 c hc
theorem letS_pre {s:ByteArray} (k:Nat) (hs:letS s=true):letS (s.extract 0 k)=true:=by
 rw [letS_eq,letB_iff] at*
 rw [bl_ext,List.drop_zero]
 exact⟨Nat.le_trans (List.length_take_le' _ _) hs.1,fun c hc=>hs.2 c (List.mem_of_mem_take hc)⟩
theorem ends_app (s t:ByteArray):ends (s++t) t=true:=(ends_iff _ _).2 ⟨bl s,bl_app s t⟩
theorem ext_app (s t:ByteArray) (k:Nat) (hk:k=s.size):(s++t).extract 0 k=s:=by
 apply bl_inj
 rw [bl_ext,bl_app,List.drop_zero,List.take_left' (by rw [bl_len,hk])]
theorem size_app (s t:ByteArray):(s++t).size=s.size+t.size:=by rw [←bl_len,bl_app,List.length_append,bl_len,bl_len]
theorem size_pre (s:ByteArray) (k:Nat) (h:k≤s.size):(s.extract 0 k).size=k:=by
 rw [←bl_len,bl_ext,List.drop_zero,List.length_take,bl_len];omega
theorem push_back {s t a:ByteArray} (h:pushS s t=(a,0)):popS a t=(s,0)∧topS a t=true∧keepS a s.size t=(a,0):=by
 obtain⟨h1,h2,h3,rfl⟩:=pushS_ok h
 have ha:=letS_app h1 h2 h3
 have he:=ends_app s t
 refine⟨?_,?_,?_⟩
 ·unfold popS
  rw [ha,h2,he,if_neg (by simp),if_neg (by simp),ext_app s t _ (by rw [size_app];omega)]
 ·unfold topS;rw [ha,h2,he];rfl
 ·unfold keepS
  rw [ha,h2,he,if_neg (by simp),if_neg (by rw [size_app];simp),Int.toNat_natCast,ext_app s t _ rfl]
theorem pop_back {s t a:ByteArray} (h:popS s t=(a,0)):pushS a t=(s,0):=by
 obtain⟨h1,h2,h3,rfl⟩:=popS_ok' h
 have ha:=letS_pre (s.size-t.size) h1
 have hle:=ends_le s t h3
 have hsz:=size_pre s (s.size-t.size) (by omega)
 have hs256:s.size≤256:=by rw [letS_eq,letB_iff,bl_len] at h1;exact h1.1
 unfold pushS
 rw [ha,h2,if_neg (by simp),if_neg (by rw [hsz];omega)]
 refine Prod.ext (bl_inj ?_) rfl
 show bl (s.extract 0 (s.size-t.size)++t)=bl s
 obtain⟨r,hr⟩:=(ends_iff s t).1 h3
 rw [bl_app,bl_ext,List.drop_zero,hr,List.take_left' (by have:=congrArg List.length hr;rw [List.length_append,bl_len,bl_len] at this;omega)]
theorem keep_back {s t a:ByteArray} {f:Int} (h:keepS s f t=(a,0)):keepS a f t=(a,0)∧topS a t=true∧(a.size:Int)=f+t.size:=by
 obtain⟨h1,h2,h3,h4,h5,rfl⟩:=keepS_ok h
 obtain⟨k,rfl⟩:=Int.eq_ofNat_of_zero_le h3
 have hle:=ends_le s t h4
 have hs256:s.size≤256:=by rw [letS_eq,letB_iff,bl_len] at h1;exact h1.1
 rw [Int.toNat_natCast]
 have hk:=size_pre s k (by omega)
 have ha:=letS_app (letS_pre k h1) h2 (by rw [hk];omega)
 have he:=ends_app (s.extract 0 k) t
 have hz:=size_app (s.extract 0 k) t
 refine⟨?_,?_,?_⟩
 ·unfold keepS
  rw [ha,h2,he,if_neg (by simp),if_neg (by rw [hz,hk];simp),Int.toNat_natCast,ext_app _ t k hk.symm]
 ·unfold topS;rw [ha,h2,he];rfl
 ·rw [hz,hk];omega
theorem sizes (s t:ByteArray) (f:Int) (hs:s.size≤1048576) (ht:t.size≤1048576):(pushS s t).1.size≤2097152∧(popS s t).1.size≤2097152∧(keepS s f t).1.size≤2097152:=by
 refine⟨?_,?_,?_⟩
 ·unfold pushS
  split
  ·simp
  ·split
   ·simp
   ·rw [size_app];omega
 ·unfold popS
  split
  ·simp
  ·split
   ·simp
   ·simp;omega
 ·unfold keepS
  split
  ·simp
  ·split
   ·simp
   ·show(s.extract 0 f.toNat++t).size≤_
    rw [size_app];simp;omega
theorem errs (s t:ByteArray) (f:Int):(pushS s t).2≤100∧(popS s t).2≤100∧(keepS s f t).2≤100:=by
 refine⟨?_,?_,?_⟩
 ·unfold pushS;repeat' split
  all_goals simp
 ·unfold popS;repeat' split
  all_goals simp
 ·unfold keepS;repeat' split
  all_goals simp
def arr:List UInt8:= [32,45,62,32]
theorem occ_app (a b:List UInt8):Lib.occAt (a++(arr++b)) arr a.length=true:=by
 unfold Lib.occAt
 rw [List.drop_left' rfl]
 rfl
theorem occ_no (a b:List UInt8) (h: ∀c∈a,c≠32): ∀j,j<a.length→Lib.occAt (a++(arr++b)) arr j=false:=by
 intro j hj
 unfold Lib.occAt
 rw [List.drop_append_of_le_length (by omega),List.drop_eq_getElem_cons hj]
 have hc:=h _ (List.getElem_mem hj)
 have hb:(32==a[j])=false:=by simpa using fun e:(32:UInt8)=a[j]=>hc e.symm
 show(32==a[j]&&_)=false
 rw [hb,Bool.false_and]
theorem cut_app (a b:List UInt8) (h: ∀c∈a,c≠32):Lib.cut (a++(arr++b)) arr=(a,b,true):=by
 have hi:=Lib.index_first (s:=a++(arr++b)) (sub:=arr) (i:=a.length) (by rw [List.length_append];omega) (occ_app a b) (occ_no a b h)
 unfold Lib.cut
 rw [hi,if_pos (by omega),Int.toNat_natCast,List.take_left' rfl]
 have:(a++(arr++b)).drop (a.length+arr.length)=b:=by
  rw [←List.drop_drop,List.drop_left' rfl,List.drop_left' rfl]
 rw [this]
theorem bl_none:bl none_= []:=rfl
theorem bl_dash:bl dash= [45]:=rfl
theorem letter_ne {c:UInt8} (h:isL c=true):c≠32∧c≠45:=by
 constructor<;>(rintro rfl;exact absurd h (by decide))
theorem side_no32 {m:Nat} {p:ByteArray} (h:letB m (bl p)=true): ∀c∈bl (sideS p),c≠32:=by
 intro c hc
 unfold sideS at hc
 split at hc
 ·rw [bl_dash] at hc
  simp at hc
  subst hc
  decide
 ·exact(letter_ne (((letB_iff _ _).1 h).2 c hc)).1
theorem meant_side {m:Nat} {p:ByteArray} (h:letB m (bl p)=true):meantS (sideS p)=(p,true):=by
 unfold sideS
 by_cases hp:p=none_
 ·rw [if_pos hp,hp];rfl
 ·rw [if_neg hp]
  unfold meantS
  rw [if_neg,decide_eq_true hp]
  rintro rfl
  have:=((letB_iff _ _).1 h).2 45 (by rw [bl_dash];simp)
  exact absurd this (by decide)
theorem bl_of (l:List UInt8):bl (⟨l.toArray⟩:ByteArray)=l:=by unfold bl;simp
theorem of_bl (s:ByteArray):(⟨(bl s).toArray⟩:ByteArray)=s:=by cases s;unfold bl;simp
theorem sig_iff (p r:ByteArray):sgB p r=true↔letB 8 (bl p)=true∧letB 8 (bl r)=true:=by unfold sgB bl;rw [Bool.and_eq_true]
theorem word_read {p r s:ByteArray} (h:wordS p r=(s,0)):readS s=(p,r,0):=by
 unfold wordS at h
 split at h
 case isFalse=>injection h with _ h;cases h
 case isTrue hs=>
  injection h with h _
  obtain⟨hp,hr⟩:=(sig_iff p r).1 hs
  have hb:bl s=bl (sideS p)++(arr++bl (sideS r)):=by
   rw [←h,bl_app,bl_app,List.append_assoc];rfl
  have hc:Lib.cut s.data.toList [32,45,62,32]=(bl (sideS p),bl (sideS r),true):=by
   rw [show s.data.toList=bl s from rfl,hb]
   exact cut_app _ _ (side_no32 hp)
  have ha:cutA s=sideS p:=by unfold cutA;rw [hc];exact of_bl _
  have hbb:cutB s=sideS r:=by unfold cutB;rw [hc];exact of_bl _
  have hk:cutK s=true:=by unfold cutK;rw [hc]
  unfold readS
  rw [ha,hbb,meant_side hp,meant_side hr,hk,if_pos ⟨rfl,rfl,rfl,hs⟩]
theorem side_meant {a:ByteArray} (h:(meantS a).2=true):sideS (meantS a).1=a:=by
 unfold meantS at h⊢
 split
 case isTrue e=>subst e;rfl
 case isFalse e=>
  rw [if_neg e] at h
  unfold sideS
  rw [if_neg (of_decide_eq_true h)]
theorem cut_spec {s:ByteArray} (h:cutK s=true):s=cutA s++arrow++cutB s:=by
 have hk:(Lib.cut s.data.toList arr).2.2=true:=h
 apply bl_inj
 rw [bl_app,bl_app,show bl arrow=arr from rfl]
 have e1:bl (cutA s)=(Lib.cut (bl s) arr).1:=by unfold cutA;rw [bl_of];rfl
 have e2:bl (cutB s)=(Lib.cut (bl s) arr).2.1:=by unfold cutB;rw [bl_of];rfl
 rw [e1,e2]
 have hk':(Lib.cut (bl s) arr).2.2=true:=hk
 generalize bl s=l at*
 unfold Lib.cut at hk'⊢
 rcases Lib.index_spec l arr with⟨h0,_⟩ | ⟨i,h0,hi,hocc,_⟩
 ·rw [h0] at hk'
  simp at hk'
 ·rw [h0,if_pos (by omega),Int.toNat_natCast]
  unfold Lib.occAt at hocc
  rw [List.isPrefixOf_iff_prefix] at hocc
  obtain⟨t,ht⟩:=hocc
  show l=l.take i++arr++l.drop (i+arr.length)
  rw [←List.drop_drop,←ht,List.drop_left' rfl,List.append_assoc,ht,List.take_append_drop]
theorem read_word {s:ByteArray} (h:(readS s).2.2=0):wordS (readS s).1 (readS s).2.1=(s,0)∧sgB (readS s).1 (readS s).2.1=true:=by
 unfold readS at h⊢
 split
 case isFalse e=>rw [if_neg e] at h;cases h
 case isTrue e=>
  obtain⟨h1,h2,h3,h4⟩:=e
  refine⟨?_,h4⟩
  unfold wordS
  rw [if_pos h4,side_meant h2,side_meant h3,←cut_spec h1]
theorem read_bad {s:ByteArray} (h:(readS s).2.2≠0):readS s=(none_,none_,15):=by
 unfold readS at h⊢
 split
 case isTrue e=>rw [if_pos e] at h;exact absurd rfl h
 case isFalse e=>rfl
def undash (a:ByteArray):ByteArray:=if a=dash then none_ else a
def ppS (s:ByteArray) (i:Nat):ByteArray:=undash (s.extract 0 i)
def rrS (s:ByteArray) (k:Nat):ByteArray:=if k≤s.size then undash (s.extract (s.size-k) s.size) else none_
theorem undash_side {m:Nat} {p:ByteArray} (h:letB m (bl p)=true):undash (sideS p)=p:=by
 unfold undash sideS
 by_cases hp:p=none_
 ·rw [if_pos hp,if_pos rfl,hp]
 ·rw [if_neg hp,if_neg]
  rintro rfl
  have:=((letB_iff _ _).1 h).2 45 (by rw [bl_dash];simp)
  exact absurd this (by decide)
theorem side_size {m:Nat} {p:ByteArray} (h:letB (m+1) (bl p)=true):(sideS p).size≤m+1:=by
 unfold sideS
 split
 ·show 1≤m+1;omega
 ·rw [←bl_len];exact((letB_iff _ _).1 h).1
theorem read_met {s:ByteArray} (h:(readS s).2.2=0): ∃i k,i<s.size∧i≤8∧k≤8∧wordS (ppS s i) (rrS s k)=(s,0):=by
 obtain⟨hw,hs⟩:=read_word h
 generalize (readS s).1=p at*
 generalize (readS s).2.1=r at*
 obtain⟨hp,hr⟩:=(sig_iff p r).1 hs
 have he:s=sideS p++arrow++sideS r:=by
  unfold wordS at hw
  rw [if_pos hs] at hw
  injection hw with hw _
  exact hw.symm
 have hsz:s.size=(sideS p).size+4+(sideS r).size:=by
  have:=congrArg ByteArray.size he
  rw [size_app,size_app] at this
  exact this
 refine⟨(sideS p).size,(sideS r).size,by omega,side_size (m:=7) hp,side_size (m:=7) hr,?_⟩
 have e1:ppS s (sideS p).size=p:=by
  unfold ppS
  have:s.extract 0 (sideS p).size=sideS p:=by
   apply bl_inj
   rw [bl_ext,he,bl_app,bl_app,←bl_len,List.append_assoc,List.take_left' rfl]
   rfl
  rw [this,undash_side hp]
 have e2:rrS s (sideS r).size=r:=by
  unfold rrS
  rw [if_pos (by omega)]
  have:s.extract (s.size-(sideS r).size) s.size=sideS r:=by
   apply bl_inj
   rw [bl_ext,←bl_len s,List.take_length]
   have hd:s.size-(sideS r).size=(bl (sideS p)++bl arrow).length:=by
    rw [List.length_append,bl_len,bl_len]
    show _=_+4
    omega
   rw [bl_len,hd,he,bl_app,bl_app,List.drop_left' rfl]
  rw [this,undash_side hr]
 rw [e1,e2]
 exact hw
def fits23 (x:ModV) (s:StV):Prop:=szMod x≤2147483647∧szSt s≤2147483647∧s.pages.length≤70∧s.frames.length≤100
theorem results_cellS {fn:Func} {p:Tmp} {ty:TypeId} (h:fn.results= #[.cell p ty]) (tmps:Array Value) (P:Program) (w:World):
 (results fn tmps).run P w=((asAddr (tmps.getD p undef)).run P w).andThen fun a w₁=>(loadVar ty a).run P w₁:=by
 simp only [results,h]
 simp [Sem.run_bind,Result.andThen]
def InsLe (x:InsV):Prop:=x.l.length≤2147483647
def FnLe (x:FnV):Prop:=x.code.length≤2147483647∧ ∀i∈x.code,InsLe i
def DatLe (x:DatV):Prop:=x.b.length≤2147483647
def FrLe (x:FrV):Prop:=x.loc.length≤2147483647∧x.st.length≤2147483647
def PgLe (x:List UInt8):Prop:=x.length≤2147483647
def ModLe (x:ModV):Prop:=x.types.length≤2147483647∧x.hosts.length≤2147483647∧x.globs.length≤2147483647∧(x.fns.length≤2147483647∧ ∀i∈x.fns,FnLe i)∧(x.dat.length≤2147483647∧ ∀i∈x.dat,DatLe i)∧x.exps.length≤2147483647
def StLe (x:StV):Prop:=(x.frames.length≤2147483647∧ ∀i∈x.frames,FrLe i)∧x.globs.length≤2147483647∧(x.pages.length≤2147483647∧ ∀i∈x.pages,PgLe i)∧x.res.length≤2147483647
def CopyOne {α:Type} (r:Rd α) (x:α) (w:World) (e:Ending) (w':World):Prop:= ∃cs',e= .returned (.agg cs'.toArray)∧r.R w' w.heap.size w'.heap.size cs' x∧Below w.heap.size w w'
theorem up2 {α:Type} {r:Rd α} {W:World} {k hi:Nat} {cs:List Value} {x:α} (h:r.R W (k+2) hi cs x):r.R W k hi cs x:=r.more (Nat.le_add_right _ 2) (Nat.le_refl _) h
def setAll (W:World) (b:Nat):Nat→List Value→World
 | _,[]=>W
 | i,v::l=>setAll (W.setCell ⟨b,i,none⟩ v) b (i+1) l
structure CpS (T:TypeId) (w W:World) (cs zs:List Value) (Q:World→Prop):Prop where
 b:Blk W w.heap.size T cs
 r:Blk W (w.heap.size+1) T zs
 H:Below w.heap.size w W
 s:w.heap.size+2≤W.heap.size
 q:Q W
 st: ∀W1 W2,Q W1→w.heap.size+2≤W1.heap.size→(Below W1.heap.size W1 W2∨ ∃p u,p.block<w.heap.size+2∧W2=W1.setCell p u)→Q W2
section
variable {T:TypeId} {w W W':World} {cs zs:List Value} {Q:World→Prop}
theorem CpS.init (T:TypeId) (w:World) (cs zs:List Value):CpS T w ((w.alloc (.cells cs.toArray T)).alloc (.cells zs.toArray T)) cs zs (fun _=>True):=
 ⟨(Blk.new w T cs).alloc _,by have:=Blk.new (w.alloc (.cells cs.toArray T)) T zs;rwa [World.size_alloc] at this,((Below.refl _ _).alloc (Nat.le_refl _) _).alloc (by simp) _,by simp,trivial,fun _ _ _ _ _=>trivial⟩
theorem CpS.below (h:CpS T w W cs zs Q) (hb:Below W.heap.size W W'):CpS T w W' cs zs Q:=
 ⟨h.b.below hb h.b.lt,h.r.below hb h.r.lt,h.H.trans (hb.mono h.H.size),Nat.le_trans h.s hb.size,h.st _ _ h.q h.s (.inl hb),h.st⟩
theorem CpS.put (h:CpS T w W cs zs Q) {α:Type} (r:Rd α) {v:Value} {x:α} (h2:r.R W' W.heap.size W'.heap.size [v] x) (hb:Below W.heap.size W W') (j:Nat):
 CpS T w (W'.setCell ⟨w.heap.size,j,none⟩ v) (cs.set j v) zs (fun W=>Q W∧r.R W (w.heap.size+2) W.heap.size [v] x):=by
 have h':=h.below hb
 have hs:=h.s
 have key: ∀W1 W2,r.R W1 (w.heap.size+2) W1.heap.size [v] x→(Below W1.heap.size W1 W2∨ ∃p u,p.block<w.heap.size+2∧W2=W1.setCell p u)→r.R W2 (w.heap.size+2) W2.heap.size [v] x:=by
  rintro W1 W2 h1 (h3 | ⟨p,u,hp,rfl⟩)
  ·exact r.more (Nat.le_refl _) h3.size (Rd.below h1 h3 (Nat.le_refl _))
  ·exact r.more (Nat.le_refl _) (by simp [World.setCell]) (Rd.set h1 u (.inl hp))
 exact⟨h'.b.set j v,h'.r.far (p:=⟨w.heap.size,j,none⟩) (by simp) v,h'.H.setCell (p:=⟨w.heap.size,j,none⟩) (Nat.le_refl _) v,by simpa [World.setCell] using h'.s,⟨h'.st _ _ h'.q h'.s (.inr ⟨_,v,by simp,rfl⟩),key _ _ (r.more hs (Nat.le_refl _) h2) (.inr ⟨_,v,by simp,rfl⟩)⟩,fun W1 W2 h1 h2 h3=>⟨h.st _ _ h1.1 h2 h3,key _ _ h1.2 h3⟩⟩
theorem CpS.setR (h:CpS T w W cs zs Q) (j:Nat) (v:Value):CpS T w (W.setCell ⟨w.heap.size+1,j,none⟩ v) cs (zs.set j v) Q:=
 ⟨h.b.far (p:=⟨w.heap.size+1,j,none⟩) (by simp) v,h.r.set j v,h.H.setCell (p:=⟨w.heap.size+1,j,none⟩) (Nat.le_succ _) v,by simpa [World.setCell] using h.s,h.st _ _ h.q h.s (.inr ⟨_,v,by simp,rfl⟩),h.st⟩
theorem CpS.fill_: ∀(l a z:List Value) {W:World},CpS T w W cs (a++z) Q→z.length=l.length→CpS T w (setAll W (w.heap.size+1) a.length l) cs (a++l) Q
 | [],a,z,W,h,hz=>by rw [List.length_eq_zero_iff.1 hz] at h;exact h
 | v::l,a,[],W,h,hz=>by cases hz
 | v::l,a,u::z,W,h,hz=>by
  have h1:=h.setR a.length v
  rw [show(a++u::z).set a.length v=(a++ [v])++z by simp] at h1
  have:=CpS.fill_ l (a++ [v]) z h1 (by simpa using hz)
  simpa [setAll] using this
theorem CpS.fill (h:CpS T w W cs zs Q) (hz:zs.length=cs.length):CpS T w (setAll W (w.heap.size+1) 0 cs) cs cs Q:=CpS.fill_ cs [] zs h hz
end
theorem infoc_code:(prog.info? 53).map (fun i=>(i.size,i.bytes,i.zero.map fun z=>z.cells.size))=some (3,40,some 3):=by kernel_rfl
def CpCodeRel (l:List InsV) (w:World) (a i:Value) (wr:World):Prop:= ∃(k:Nat) (A:Option Addr) (c:Nat) (cells:List Value),k≤l.length∧i= .int .i64 k∧a= .slice A k c∧Gath rIns 53 w.heap.size wr A k c cells (l.take k)∧Below w.heap.size w wr
theorem infoc_functions:(prog.info? 56).map (fun i=>(i.size,i.bytes,i.zero.map fun z=>z.cells.size))=some (3,48,some 3):=by kernel_rfl
def CpFunctionsRel (l:List FnV) (w:World) (a i:Value) (wr:World):Prop:= ∃(k:Nat) (A:Option Addr) (c:Nat) (cells:List Value),k≤l.length∧i= .int .i64 k∧a= .slice A k c∧Gath rFn 56 w.heap.size wr A k c cells (l.take k)∧Below w.heap.size w wr
theorem infoc_datas:(prog.info? 59).map (fun i=>(i.size,i.bytes,i.zero.map fun z=>z.cells.size))=some (2,32,some 2):=by kernel_rfl
def CpDatasRel (l:List DatV) (w:World) (a i:Value) (wr:World):Prop:= ∃(k:Nat) (A:Option Addr) (c:Nat) (cells:List Value),k≤l.length∧i= .int .i64 k∧a= .slice A k c∧Gath rDat 59 w.heap.size wr A k c cells (l.take k)∧Below w.heap.size w wr
theorem infoc_pages:(prog.info? 41).map (fun i=>(i.size,i.bytes,i.zero.map fun z=>z.cells.size))=some (1,24,some 1):=by kernel_rfl
def CpPagesRel (l:List (List UInt8)) (w:World) (a i:Value) (wr:World):Prop:= ∃(k:Nat) (A:Option Addr) (c:Nat) (cells:List Value),k≤l.length∧i= .int .i64 k∧a= .slice A k c∧Gath (Rd.u8.sl false) 41 w.heap.size wr A k c cells (l.take k)∧Below w.heap.size w wr
theorem sumBy_mem {α:Type} (f:α→Nat): ∀(l:List α) (x:α),x∈l→f x≤sumBy f l
 | y::l,x,h=>by
  have hs:sumBy f (y::l)=f y+sumBy f l:=by simp [sumBy]
  rcases List.mem_cons.1 h with rfl | h
  ·omega
  ·have:=sumBy_mem f l x h
   omega
theorem codeLe_of {l:List InsV} (h:szCode l≤2147483647):l.length≤2147483647∧ ∀i∈l,InsLe i:=
 ⟨by unfold szCode at h;omega,fun i hi=>by have:=sumBy_mem (fun i:InsV=>i.l.length) l i hi;unfold szCode at h;unfold InsLe;omega⟩
theorem pagesLe_of {l:List (List UInt8)} (h:szPages l≤2147483647):l.length≤2147483647∧ ∀i∈l,PgLe i:=
 ⟨by unfold szPages at h;omega,fun i hi=>by have:=sumBy_mem (List.length (α:=UInt8)) l i hi;unfold szPages at h;unfold PgLe;omega⟩
theorem modLe_of {x:ModV} (h:szMod x≤2147483647):ModLe x:=by
 unfold szMod at h
 refine⟨by omega,by omega,by omega,⟨by omega,fun i hi=>codeLe_of ?_⟩,⟨by omega,fun i hi=> ?_⟩,by omega⟩
 ·have:=sumBy_mem szFn x.fns i hi
  unfold szFn at this
  unfold szFn at h
  omega
 ·have:=sumBy_mem (fun d:DatV=>d.b.length) x.dat i hi
  unfold DatLe
  omega
theorem stLe_of {x:StV} (h:szSt x≤2147483647):StLe x:=by
 unfold szSt at h
 refine⟨⟨by omega,fun i hi=> ?_⟩,by omega,pagesLe_of (by omega),by omega⟩
 have:=sumBy_mem (fun f:FrV=>f.loc.length+f.st.length) x.frames i hi
 unfold FrLe
 omega
def WideRel (l:List UInt8) (g:Nat) (w:World) (i:Value) (wr:World):Prop:=
 ∃(k:Nat) (xs:List Value),k≤l.length+64∧i= .int .i64 k∧xs.length=l.length+64∧Blk wr g 5 xs∧xs.take k=(l.map bv++marksB l.length).take k∧Below g w wr
theorem info_u8:(prog.info? 5).map (fun i=>(i.zero,i.size,i.bytes))=some (some (.int .u8 0),1,1):=by kernel_rfl
theorem wide_bytes (A:Option Addr) (n c B:Nat) (w:World) (l:List UInt8) (hn:n=l.length) (h47:n≤140737488351232) (hr:Row w B A (l.map bv)) (hB:B≤w.heap.size):
 Calls prog 125 #[.slice A n c] w fun e w'=> ∃g,e= .returned (.slice (some ⟨g,0,none⟩) n (n+64))∧Blk w' g 5 (l.map bv++marksB l.length)∧Below w.heap.size w w'∧g=w.heap.size:=by
 obtain⟨i0,hi,hz,hs,hb⟩:=info_parts info_u8
 have hmk:=fun W=>run_make_zeros (P:=prog) 41 5 i0 (.int .u8 0) 1 underlying41 hi hz rfl hs hb ((n:Int)+64) (n+64) (by omega) (by omega) (by omega) W
 clear hi hz hs hb
 have Hr:=hideIt hr;clear hr
 have Hn:=hideIt hn;clear hn
 have HB:=hideIt hB;clear hB
 go_enter func125,ntmps125
 go_wp2
 go_loopw [4] (fun i wr=>WideRel l w.heap.size w i wr) (fun i _=>n+64-(intOf i).toNat)
 case atStart=>
  refine⟨0,List.replicate (n+64) (.int .u8 0),by omega,rfl,by simp [Hn.out],Blk.new _ _ _,by simp,?_⟩
  exact(Below.refl _ _).alloc (Nat.le_refl _) _
 case round=>
  obtain⟨k,xs,hk,rfl,hlen,hblk,htake,hbel⟩:=hrel
  have Ht:=hideIt htake;clear htake
  have Hb:=hideIt hblk;clear hblk
  have Hbel:=hideIt hbel;clear hbel
  have Hlen:=hideIt hlen;clear hlen
  rw [←Hn.out] at hk
  by_cases hlt:k<n+64
  ·have hx:xs[k]?=some (xs[k]'(by rw [Hlen.out,←Hn.out];exact hlt)):=List.getElem?_eq_getElem _
   have hcell:=(Hb.out.cell k).trans hx
   clear hx
   generalize xs[k]'(by rw [Hlen.out,←Hn.out];exact hlt)=old at*
   have hfr:=Hb.out.frozen k
   have hget:=hideIt (wide_get l k (by rw [←Hn.out];exact hlt))
   rw [←Hn.out] at hget
   have hi:(0:Int)≤k:=by omega
   have hi2:(k:Int)<n+64:=by omega
   by_cases hkn:k<n
   ·obtain⟨b,o,rfl,hbB,hc0⟩:=Hr.out.byte (j:=k) (by rw [←Hn.out];exact hkn)
    have hc1:wr.cell? ⟨b,o+k,none⟩=some (.int .u8 ((l[k]?.getD 0).toNat:Int)):=(Hbel.out.cell (by show b<_;have:=HB.out;omega)).trans hc0
    clear hc0
    rw [if_pos hkn] at hget
    generalize (l[k]?.getD 0).toNat=x at*
    go_wp2
    exact⟨⟨k+1,xs.set k (.int .u8 x),by rw [←Hn.out];omega,by go_num,by rw [List.length_set,Hlen.out],Hb.out.set k _,take_set_next Ht.out (by rw [Hlen.out,←Hn.out];exact hlt) (by rw [←Hn.out];exact hget.out),Hbel.out.setCell (by exact Nat.le_refl _) _⟩,by simp [intOf];omega⟩
   ·rw [if_neg hkn] at hget
    have e:markB k= .int .u8 ((279+7*(k:Int)+3)%256):=by unfold markB;congr 1;omega
    rw [e] at hget
    clear e
    go_wp2
    exact⟨⟨k+1,xs.set k (.int .u8 ((279+7*(k:Int)+3)%256)),by rw [←Hn.out];omega,by go_num,by rw [List.length_set,Hlen.out],Hb.out.set k _,take_set_next Ht.out (by rw [Hlen.out,←Hn.out];exact hlt) (by rw [←Hn.out];exact hget.out),Hbel.out.setCell (by exact Nat.le_refl _) _⟩,by simp [intOf];omega⟩
  ·have hk2:Hid (k=n+64):=hideIt (by omega)
   have hge: ¬((k:Int)<n+64):=by omega
   clear hk hlt
   go_wp2
   go_ret
   refine⟨w.heap.size,rfl,?_,Hbel.out,rfl⟩
   have h1:=Ht.out
   rw [List.take_of_length_le (by rw [Hlen.out,hk2.out,Hn.out];exact Nat.le_refl _),List.take_of_length_le (by rw [List.length_append,marksB_len,List.length_map,hk2.out,Hn.out];exact Nat.le_refl _)] at h1
   rw [←h1]
   exact Hb.out
def SpareRel (n:Nat) (w:World) (i:Value) (wr:World):Prop:= ∃k:Nat,(n≤k∧k≤n+64)∧i= .int .i64 k∧wr=w
theorem spare_bytes (b o n c:Nat) (w:World) (h47:n≤140737488351232) (hc:n+64≤c) (hm: ∀j,n≤j→j<n+64→w.cell? ⟨b,o+j,none⟩=some (markB j)):
 Calls prog 139 #[.slice (some ⟨b,o,none⟩) n c] w fun e w'=>w=w'∧e= .returned (.bool true):=by
 have Hm:=hideIt hm;clear hm
 have hc2:(n:Int)+64≤c:=by omega
 go_enter func139,ntmps139
 go_wp2
 go_loopw [4] (fun i wr=>SpareRel n w i wr) (fun i _=>n+64-(intOf i).toNat)
 case atStart=>exact⟨n,⟨Nat.le_refl _,by omega⟩,rfl,rfl⟩
 case round=>
  obtain⟨k,⟨hk0,hk1⟩,rfl,rfl⟩:=hrel
  by_cases hlt:k<n+64
  ·have hcell:=Hm.out k hk0 hlt
   rw [show markB k= .int .u8 ((279+7*(k:Int)+3)%256)from by unfold markB;congr 1;omega] at hcell
   have hi:(0:Int)≤k:=by omega
   have hi2:(k:Int)<n+64:=by omega
   have heq:((279+7*(k:Int)+3)%256==(279+7*(k:Int)+3)%256)=true:=by simp
   clear hk1
   go_wp2
   exact⟨⟨k+1,⟨by omega,by omega⟩,by go_num,rfl⟩,by simp [intOf];omega⟩
  ·have hge: ¬((k:Int)<n+64):=by omega
   go_wp2
   go_ret
   exact⟨rfl,rfl⟩
theorem app_bytes (w:World) {ops:Array Oper} {rest:List Oper} {o:Oper} {a:Act} {Q:Exit→Act→World→Prop} (hgd:o.guard=none) (s x:Operand)
 (ho:o.op= .call {callee:= .builtin .append,args:= #[s,x],argTypes:= #[41,41]}) (base:Nat)
 (A:Option Addr) (n c:Nat) (xs:List Value) (hs:a.eval s= .slice A n c) (hown:w.ownsRow base 5 1 (.slice A n c) n xs)
 (B:Nat) (A2:Option Addr) (m c2:Nat) (ys:List Value) (hx:a.eval x= .slice A2 m c2) (hm:m=ys.length) (hr:Row w B A2 ys) (h1: ∀u∈ys,u.oneCell'=true)
 (h47:n+m≤140737488351232) (hbase:base≤w.heap.size)
 (h: ∀A' c' w',w'.ownsRow base 5 1 (.slice A' (n+m) c') (n+m) (xs++ys)→w.grownBy w' (Value.slice A n c).ownBlock→Below base w w'→wpList prog ops Q rest (a.put o.dst (.slice A' (n+m) c')) w'):wpList prog ops Q (o::rest) a w:=by
 obtain⟨i0,hi,hz,hs',hb⟩:=info_parts info_u8
 exact wpList_app w hgd s x 41 ho base 5 i0 (.int .u8 0) 1 underlying41 hi hz hs' hb rfl _ n xs hs hown B A2 m c2 ys hx hm hr h1 (by unfold maxLen;omega) (by omega) hbase
  fun A' c' w' h2 h3 _=>h A' c' w' h2 h3 (own_below hown h3 hbase)
theorem wire_put (A A2:Option Addr) (n c m c2 B base:Nat) (w:World) (xs ys:List Value) (hown:w.ownsRow base 5 1 (.slice A n c) n xs) (hm:m=ys.length) (hr:Row w B A2 ys) (h1: ∀u∈ys,u.oneCell'=true)
 (h47:n+m≤140737488351232) (hbase:base≤w.heap.size):
 Calls prog 197 #[.slice A n c,.slice A2 m c2] w fun e w'=> ∃A' c',e= .returned (.slice A' (n+m) c')∧w'.ownsRow base 5 1 (.slice A' (n+m) c') (n+m) (xs++ys)∧w.grownBy w' (Value.slice A n c).ownBlock:=by
 obtain⟨i0,hi,hz,hs,hb⟩:=info_parts info_u8
 have Hm:=hideIt hm;clear hm
 go_enter func197,ntmps197
 go_wp2_with (at_builtin;refine wpList_app _ rfl _ _ 41 rfl base 5 i0 (.int .u8 0) 1 underlying41 hi hz hs hb rfl _ n xs rfl hown B A2 m c2 ys rfl Hm.out hr h1 (by unfold maxLen;omega) (by omega) hbase ?_;intro A' c' w' h2 h3 _)
 go_ret
 exact⟨A',c',rfl,h2,h3⟩
def UvRel (v0:Nat) (w:World) (L V:Value) (wr:World):Prop:=
 ∃(v:Nat) (xs:List UInt8) (A:Option Addr) (c:Nat),L= .slice A xs.length c∧V= .int .u64 v∧v<18446744073709551616∧xs++enc v=enc v0∧
  wr.ownsRow w.heap.size 5 1 (.slice A xs.length c) xs.length (xs.map bv)∧Below w.heap.size w wr
theorem wire_Uvar (v0:Nat) (hv0:v0<18446744073709551616) (w:World):
 Calls prog 159 #[.int .u64 v0] w fun e w'=> ∃A c,e= .returned (.slice A (enc v0).length c)∧w'.ownsRow w.heap.size 5 1 (.slice A (enc v0).length c) (enc v0).length ((enc v0).map bv)∧Below w.heap.size w w':=by
 have hl10:=enc_len10 v0 hv0
 go_enter func159,ntmps159
 go_wp2_with fail
 go_loopw [3,0] (fun L V wr=>UvRel v0 w L V wr) (fun _ V _=>(intOf V).toNat)
 case atStart=>exact⟨v0,[],none,0,rfl,rfl,hv0,rfl,World.ownsRow_nil _ _ _ _,Below.refl _ _⟩
 case round=>
  obtain⟨v,xs,A,c,rfl,rfl,hv,hR,hown,hbel⟩:=hrel
  have HR:=hideIt hR;clear hR
  have Hown:=hideIt hown;clear hown
  have Hbel:=hideIt hbel;clear hbel
  have hxs:xs.length≤10:=by have:=congrArg List.length HR.out;rw [List.length_append] at this;omega
  by_cases hlt:v<128
  ·have hge: ¬(128:Int)≤v:=by omega
   have Henc:Hid (xs.map bv++ [.int .u8 (v:Int)]=(enc v0).map bv):=hideIt (by rw [←HR.out,enc_small v hlt,List.map_append];simp [ofNat_small v (by omega)])
   have Hlen:Hid (xs.length+1=(enc v0).length):=hideIt (by rw [←HR.out,enc_small v hlt,List.length_append];rfl)
   go_wp2_with fail
   have hsz:w.heap.size≤(wr.alloc (.cells #[.int .u8 (v:Int)] 5)).heap.size:=by have:=Hbel.out.size;simp;omega
   refine(wire_put A _ xs.length c 1 1 (wr.heap.size+1) w.heap.size _ (xs.map bv) [.int .u8 (v:Int)] (Hown.out.alloc _) rfl (row_one _ _ _) (by simp [Value.oneCell']) (by omega) hsz).mono ?_
   rintro e w1 ⟨A',c',rfl,h2,h3⟩
   have H2:=hideIt h2;clear h2
   have H3:Hid (Below w.heap.size w w1):=hideIt (((Hbel.out.alloc Hbel.out.size _)).trans (own_below (Hown.out.alloc _) h3 hsz))
   clear h3 hsz
   go_wp2_with fail
   go_ret
   rw [←Hlen.out,←Henc.out]
   exact⟨A',c',rfl,H2.out,H3.out⟩
  ·have hge:(128:Int)≤v:=by omega
   have hx:bits .or .u8 ((v:Int)%256) 128=((v%128+128:Nat):Int):=by
    rw [show(v:Int)%256=((v%256:Nat):Int)from by omega,or128 _ (by omega)]
    omega
   have Hx:=hideIt hx;clear hx
   have Hnext:Hid ((xs++ [UInt8.ofNat (v%128+128)])++enc (v/128)=enc v0):=hideIt (by rw [←HR.out,enc_great v hlt,List.append_assoc];rfl)
   go_wp2_with fail
   rw [Hx.out]
   have hsz:w.heap.size≤(wr.alloc (.cells #[.int .u8 ((v%128+128:Nat):Int)] 5)).heap.size:=by have:=Hbel.out.size;simp;omega
   refine(wire_put A _ xs.length c 1 1 (wr.heap.size+1) w.heap.size _ (xs.map bv) [.int .u8 ((v%128+128:Nat):Int)] (Hown.out.alloc _) rfl (row_one _ _ _) (by simp [Value.oneCell']) (by omega) hsz).mono ?_
   rintro e w1 ⟨A',c',rfl,h2,h3⟩
   have H2:=hideIt h2;clear h2
   have H3:Hid (Below w.heap.size w w1):=hideIt (((Hbel.out.alloc Hbel.out.size _)).trans (own_below (Hown.out.alloc _) h3 hsz))
   clear h3 hsz
   go_wp2_with fail
   refine⟨⟨v/128,xs++ [UInt8.ofNat (v%128+128)],A',c',by simp,by go_num,by omega,Hnext.out,?_,H3.out⟩,?_⟩
   ·have:=H2.out
    rw [←ofNat_small _ (by omega),show [bv (UInt8.ofNat (v%128+128))]= [UInt8.ofNat (v%128+128)].map bv from rfl,←List.map_append] at this
    simpa using this
   ·simp [intOf];omega
theorem flat_sz {α:Type} {f:α→List UInt8} {h:α→Nat} {c:Nat}: ∀ {l:List α},(∀x∈l,(f x).length≤c+h x)→(l.flatMap f).length≤c*l.length+sumBy h l
 | [],_=>by simp
 | x::l,hx=>by
  have h1:=hx x (List.mem_cons_self ..)
  have h2:=flat_sz (fun y hy=>hx y (List.mem_cons_of_mem _ hy)) (l:=l)
  have h3:sumBy h (x::l)=h x+sumBy h l:=by simp [sumBy]
  rw [List.flatMap_cons,List.length_append,List.length_cons,h3,Nat.mul_add,Nat.mul_one]
  omega
theorem flat_take_sz {α:Type} {f:α→List UInt8} {h:α→Nat} {c:Nat} {l:List α} (hx: ∀x∈l,(f x).length≤c+h x) (k:Nat):((l.take k).flatMap f).length≤c*l.length+sumBy h l:=by
 have h1:=flat_sz (l:=l.take k) (fun x hm=>hx x (List.mem_of_mem_take hm))
 have h2:=sumBy_take h l k
 have h3:c*(l.take k).length≤c*l.length:=Nat.mul_le_mul_left _ (by rw [List.length_take];omega)
 omega
theorem sumBy_zero {α:Type} (l:List α):sumBy (fun _:α=>0) l=0:=by unfold sumBy;induction l with | nil=>rfl | cons a l ih=>simpa using ih
theorem textB_len {s:ByteArray} (h:s.size≤2147483647):(textB s).length≤10+s.size:=by
 unfold textB
 rw [List.length_append]
 have:=enc_len10 s.size (by omega)
 have h2:s.data.toList.length=s.size:=by simp
 omega
structure ModNum (m:ModV):Prop where
 hosts: ∀t∈m.hosts,t<9223372036854775808
 globs: ∀x∈m.globs,x.v<18446744073709551616
 first:m.first<9223372036854775808
 most:m.most<9223372036854775808
 fns: ∀f∈m.fns,f.t<9223372036854775808∧ ∀x∈f.code,Rd.B63 x.a∧ ∀n∈x.l,n<9223372036854775808
 dat: ∀d∈m.dat,d.at_<9223372036854775808
 exps: ∀x∈m.exps,x.f<9223372036854775808
theorem enc_int {t:Int} (h:t<9223372036854775808):(enc t.toNat).length≤10:=enc_len10 _ (by omega)
theorem signB_lt {x:GlobV} (h:x.v<18446744073709551616) (hf:fitN x.v x.l.toNat=true): -9223372036854775808≤signB x∧signB x<9223372036854775808:=by
 unfold signB
 split
 ·rename_i h1
  unfold fitN at hf
  rw [h1.1] at hf
  simp at hf
  omega
 ·split<;>omega
theorem globB_len {x:GlobV} (h:x.v<18446744073709551616) (hf:fitN x.v x.l.toNat=true):(globB x).length≤12:=by
 unfold globB
 rw [List.length_append]
 have:=enc_len10 (folded (signB x)) (folded_lt _ (signB_lt h hf).1 (signB_lt h hf).2)
 simp
 omega
theorem insB_len {x:InsV} (h:Rd.B63 x.a∧ ∀n∈x.l,n<9223372036854775808) (hl:x.l.length≤2147483647):(insB x).length≤11+10*x.l.length:=by
 unfold insB
 cases hr:opRow x.op.toNat with
 | none=>simp
 | some r=>
  simp only [List.length_cons]
  have h1:=enc_len10 (folded x.a) (folded_lt _ h.1.1 h.1.2)
  have h2:=enc_len10 x.l.length (by omega)
  have h3:=flat_len (f:=fun n:Int=>enc n.toNat) (c:=10) (l:=x.l) (fun n hn=>enc_int (h.2 n hn))
  have h4:=enc_int h.1.2
  split
  ·simp;omega
  split
  ·omega
  split
  ·rw [List.length_append];omega
  ·omega
section
variable {m:ModV} (hn:ModNum m) (hs:szMod m≤2147483647)
include hn hs
theorem types_len (n k:Nat) (h:n≤2147483647):(enc n++(m.types.take k).flatMap sigB).length≤10+42*szMod m:=by
 rw [List.length_append]
 have h1:=enc_len10 n (by omega)
 have h2:=flat_take_sz (f:=sigB) (h:=fun t:SigV=>t.p.size+t.r.size) (c:=20) (l:=m.types) (fun x hx=>by
  have:=sumBy_mem (fun t:SigV=>t.p.size+t.r.size) m.types x hx
  unfold szMod at hs
  unfold sigB
  rw [List.length_append]
  have:=textB_len (s:=x.p) (by omega)
  have:=textB_len (s:=x.r) (by omega)
  omega) k
 unfold szMod at*
 omega
theorem hosts_len (n k:Nat) (h:n≤2147483647):(enc n++(m.hosts.take k).flatMap (fun t=>enc t.toNat)).length≤10+42*szMod m:=by
 rw [List.length_append]
 have h1:=enc_len10 n (by omega)
 have h2:=flat_take_sz (f:=fun t:Int=>enc t.toNat) (h:=fun _=>0) (c:=10) (l:=m.hosts) (fun x hx=>enc_int (hn.hosts x hx)) k
 rw [sumBy_zero] at h2
 unfold szMod at*
 omega
theorem globs_len (n k:Nat) (h:n≤2147483647) (hf: ∀j x,j<k→m.globs[j]?=some x→fitN x.v x.l.toNat=true):(enc n++(m.globs.take k).flatMap globB).length≤10+42*szMod m:=by
 rw [List.length_append]
 have h1:=enc_len10 n (by omega)
 have h2:=flat_sz (f:=globB) (h:=fun _=>0) (c:=12) (l:=m.globs.take k) (fun x hx=>by
  obtain⟨j,hj⟩:=List.getElem?_of_mem hx
  rw [List.getElem?_take] at hj
  split at hj
  ·rename_i hlt;exact globB_len (hn.globs x (List.mem_of_getElem? hj)) (hf j x hlt hj)
  ·cases hj)
 rw [sumBy_zero,List.length_take] at h2
 unfold szMod at*
 omega
theorem fnB_len {f:FnV} (hf:f∈m.fns) (j:Nat):(enc f.t.toNat++textB f.loc++enc f.code.length++(f.code.take j).flatMap insB).length≤30+11*szFn f:=by
 have hsz:=sumBy_mem szFn m.fns f hf
 have h0:=hn.fns f hf
 have h1:=enc_int h0.1
 unfold szMod at hs
 unfold szFn szCode at hsz⊢
 unfold szFn szCode at hs
 have h2:=textB_len (s:=f.loc) (by omega)
 have h3:=enc_len10 f.code.length (by omega)
 have h4:=flat_take_sz (f:=insB) (h:=fun x:InsV=>10*x.l.length) (c:=11) (l:=f.code) (fun x hx=>by
  have:=sumBy_mem (fun i:InsV=>i.l.length) f.code x hx
  exact insB_len (h0.2 x hx) (by omega)) j
 have h5:sumBy (fun x:InsV=>10*x.l.length) f.code=10*sumBy (fun x:InsV=>x.l.length) f.code:=by
  unfold sumBy
  induction f.code with
  | nil=>rfl
  | cons a l ih=>simp only [List.map_cons,List.sum_cons,Nat.mul_add,ih]
 rw [h5] at h4
 simp only [List.length_append]
 omega
theorem fns_len (n k:Nat) (h:n≤2147483647):(enc n++(m.fns.take k).flatMap fnB).length≤10+42*szMod m:=by
 rw [List.length_append]
 have h1:=enc_len10 n (by omega)
 have h2:=flat_take_sz (f:=fnB) (h:=fun f=>11*szFn f) (c:=30) (l:=m.fns) (fun f hf=>by
  have:=fnB_len hn hs hf f.code.length
  rw [List.take_length] at this
  exact this) k
 have h5:sumBy (fun f:FnV=>11*szFn f) m.fns=11*sumBy szFn m.fns:=by
  unfold sumBy
  induction m.fns with
  | nil=>rfl
  | cons a l ih=>simp only [List.map_cons,List.sum_cons,Nat.mul_add,ih]
 unfold szMod at*
 omega
theorem datB_len {d:DatV} (hd:d∈m.dat):(datB d).length≤20+d.b.length:=by
 have:=sumBy_mem (fun d:DatV=>d.b.length) m.dat d hd
 unfold datB
 simp only [List.length_append]
 have h1:=enc_int (hn.dat d hd)
 unfold szMod at hs
 have h2:=enc_len10 d.b.length (by omega)
 omega
theorem dat_len (n k:Nat) (h:n≤2147483647):(enc n++(m.dat.take k).flatMap datB).length≤10+42*szMod m:=by
 rw [List.length_append]
 have h1:=enc_len10 n (by omega)
 have h2:=flat_take_sz (f:=datB) (h:=fun d:DatV=>d.b.length) (c:=20) (l:=m.dat) (fun d hd=>datB_len hn hs hd) k
 unfold szMod at*
 omega
theorem expB_len {x:ExpV} (hx:x∈m.exps):(expB x).length≤20+x.n.size:=by
 have:=sumBy_mem (fun x:ExpV=>x.n.size) m.exps x hx
 unfold expB
 simp only [List.length_append]
 have h1:=enc_int (hn.exps x hx)
 unfold szMod at hs
 have h2:=textB_len (s:=x.n) (by omega)
 omega
theorem exps_len (n k:Nat) (h:n≤2147483647):(enc n++(m.exps.take k).flatMap expB).length≤10+42*szMod m:=by
 rw [List.length_append]
 have h1:=enc_len10 n (by omega)
 have h2:=flat_take_sz (f:=expB) (h:=fun x:ExpV=>x.n.size) (c:=20) (l:=m.exps) (fun d hd=>expB_len hn hs hd) k
 unfold szMod at*
 omega
theorem headB_len (hf: ∀j x,j<m.globs.length→m.globs[j]?=some x→fitN x.v x.l.toNat=true):(headB m).length≤50+126*szMod m:=by
 have h1:=types_len hn hs m.types.length m.types.length (by unfold szMod at hs;omega)
 have h2:=hosts_len hn hs m.hosts.length m.hosts.length (by unfold szMod at hs;omega)
 have h3:=globs_len hn hs m.globs.length m.globs.length (by unfold szMod at hs;omega) hf
 rw [List.take_length] at h1 h2 h3
 have h4:=enc_int hn.first
 have h5:=enc_int hn.most
 unfold headB typesB hostsB globsB
 simp only [List.length_append] at*
 omega
end
theorem globE_fit {m:ModV} {k:Nat} (h:firstE k (globE m)=0): ∀j x,j<k→m.globs[j]?=some x→isN x.l.toNat=true∧fitN x.v x.l.toNat=true:=by
 intro j x hj hx
 have h1:=firstE_zero h j hj
 unfold globE at h1
 rw [hx] at h1
 have h2:=orE_zero h1
 constructor
 ·have:=h2.1;unfold askE at this;split at this
  ·assumption
  ·cases this
 ·have:=h2.2;unfold askE at this;split at this
  ·assumption
  ·cases this
end Go.Proofs.YtebgikflpgcnlaaGreatDoor
