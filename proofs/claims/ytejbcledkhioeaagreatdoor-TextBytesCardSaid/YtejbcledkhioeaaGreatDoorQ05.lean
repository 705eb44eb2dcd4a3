/- Part 5 of the proof: InsS SlT WireF WireH Gath EqA CopyA OpsB OpsA -/
import Derived.Lib.AppendStr
import Derived.Laws.StructEq
import Derived.KernelRfl
import Derived.Test.YtejbcledkhioeaaGreatDoorQ03
import Derived.Test.YtejbcledkhioeaaGreatDoorQ04
namespace Go.Proofs.YtejbcledkhioeaaGreatDoor
set_option linter.unusedVariables false
set_option linter.unusedSimpArgs false
set_option maxRecDepth 100000
set_option maxHeartbeats 4000000
open Go.RowKit Tryz
def wconst:ByteArray:=⟨#[119,46,99,111,110,115,116]⟩
def Aw (r:XD):Int×Int:=
 if r.takes=1∨r.takes=2∨r.takes=4∨r.takes=5∨r.takes=6∨r.takes=7 then(0,2147483647) else
 if r.takes=9 then(0,4294967295) else
 if r.takes=8 then(if r.word=wconst then(-2147483648,2147483647) else(-9223372036854775808,9223372036854775807)) else(0,0)
def Ai (x:DL):Int:=match DU x.op.toNat with
 | none=>21
 | some r=>if ¬((Aw r).1≤x.a∧x.a≤(Aw r).2) then 17 else
  if r.takes≠3 then(if 0<x.l.length then 17 else 0) else
  if x.l.length<1∨16<x.l.length then 17 else
  if x.l.all (fun n=>decide (0≤n∧n≤2147483647)) then 0 else 17
theorem bQ {α:Type} {r:Rd α} {sp:Bool} {W:World} {lo hi:Nat} {A:Option Addr} {n c:Nat} {xs:List α} (h:(r.sl sp).R W lo hi [.slice A n c] xs):n≤c:=by
 obtain⟨A',c',he,hs,_⟩:=h
 injection he with he _
 injection he with h1 h2 h3
 have:=hs.2
 omega
theorem fH {α:Type} {r:Rd α} {W:World} {lo hi:Nat} {A:Option Addr} {n c:Nat} {xs:List α} (h:(r.sl false).R W lo hi [.slice A n c] xs) {k:Nat} (hk:k≤n):(r.sl false).R W lo hi [.slice A k c] (xs.take k):=by
 have hc:=bQ h
 have hn:=EI h
 obtain⟨A',c',he,hs,hx⟩:=h
 injection he with he _
 injection he with h1 h2 h3
 subst h1 h2 h3
 have hl:(xs.take k).length=k:=by rw [List.length_take];omega
 refine⟨A,c,by rw [hl],⟨fun h=>(by cases h),by rw [hl];omega⟩,fun h0=> ?_⟩
 obtain⟨b,o,e,b1,b2,hx⟩:=hx (by omega)
 refine⟨b,o,e,b1,b2,fun j x hj=>hx j x ?_⟩
 rw [List.getElem?_take] at hj
 split at hj
 ·exact hj
 ·cases hj
theorem Wd (v:Int) (h0: -9223372036854775808≤v) (h1:v<9223372036854775808) (w:World):
 Calls prog 118 #[.int .i64 v] w fun e w'=> ∃A c,e= .returned (.slice A (enc (folded v)).length c)∧w'.ownsRow w.heap.size 5 1 (.slice A (enc (folded v)).length c) (enc (folded v)).length ((enc (folded v)).map bv)∧Below w.heap.size w w':=by
 go_enter func118,ntmps118
 go_wp2_with fail
 rw [gU v h0 h1]
 refine(La (folded v) (M4 v h0 h1) w).mono ?_
 rintro e w1 ⟨A,c,rfl,h2,h3⟩
 have H2:=AA h2;clear h2
 have H3:=AA h3;clear h3
 go_wp2_with fail
 go_ret
 exact⟨A,c,rfl,H2.out,H3.out⟩
theorem jN (w:World) (e:TypeId) (s:ByteArray):Row (Lib.bytesWorld w e s) (w.heap.size+1) (some ⟨w.heap.size,0,none⟩) (s.data.toList.map bv):=by
 intro _
 refine⟨w.heap.size,0,rfl,Nat.lt_succ_self _,fun j u hu=> ?_⟩
 have hj:j<s.size:=by have:=(List.getElem?_eq_some_iff.1 hu).1;simpa using this
 rw [Nat.zero_add,Lib.bytesWorld_cell w e s j hj,←hu,List.getElem?_map]
 have hj':j<s.data.toList.length:=by simpa using hj
 rw [List.getElem?_eq_getElem hj',List.getD,List.getElem?_eq_getElem hj']
 rfl
theorem ZQ (w:World) (e:TypeId) (s:ByteArray):Below w.heap.size w (Lib.bytesWorld w e s):=
 ⟨rfl,rfl,rfl,by rw [Lib.bytesWorld_size];omega,fun k hk=>Lib.bytesWorld_at_old w e s k hk⟩
theorem E5 {w w':World} {base:Nat} {e:TypeId} {v:Value} {n:Nat} {xs:List Value} (h:w.ownsRow base e 1 v n xs) (hb:Below w.heap.size w w'):w'.ownsRow base e 1 v n xs:=
 h.kept (row:=some w.heap.size) ⟨hb.os,hb.tape,hb.output,hb.size,fun k hk _=>hb.block k hk⟩ (by
  cases hv:v.ownBlock with
  | none=>exact .inl rfl
  | some k=>right;intro e;injection e with e;have:=(h.lt k hv).2;omega)
theorem jO (s:ByteArray) (h47:s.size≤70368744177664) (w:World):
 Calls prog 157 #[.string s] w fun e w'=> ∃A c,e= .returned (.slice A ((enc s.size).length+s.size) c)∧w'.ownsRow w.heap.size 5 1 (.slice A ((enc s.size).length+s.size) c) ((enc s.size).length+s.size) ((enc s.size++s.data.toList).map bv)∧Below w.heap.size w w':=by
 have hl:=BA s.size (by omega)
 go_enter func157,ntmps157
 go_wp2_with fail
 refine(La s.size (by omega) w).mono ?_
 rintro e w1 ⟨A,c,rfl,h2,h3⟩
 have hcv:=Lib.run_convert_string_bytes (P:=prog) w1 9 41 5 s underlying9 underlying41 underlying5
 have H2:=AA h2;clear h2
 have H3:=AA h3;clear h3
 have HT:=AA (jN w1 5 s)
 have HB:=AA (ZQ w1 5 s)
 generalize hw2:Lib.bytesWorld w1 5 s=w2 at*
 clear hw2
 have hsz:w.heap.size≤w2.heap.size:=by have:=HB.out.size;have:=H3.out.size;omega
 go_wp2_with fail
 refine(Ui A _ (enc s.size).length c s.size _ (w1.heap.size+1) w.heap.size w2 ((enc s.size).map bv) (s.data.toList.map bv) (E5 H2.out HB.out) (by simp) HT.out (Nc _) (by omega) hsz).mono ?_
 rintro e w3 ⟨A',c',rfl,h4,h5⟩
 have H4:=AA h4;clear h4
 have H5:Hid (Below w.heap.size w w3):=AA ((H3.out.trans (HB.out.mono (by have:=H3.out.size;omega))).trans (own_below (E5 H2.out HB.out) h5 hsz))
 clear h5 hsz hcv
 go_wp2_with fail
 go_ret
 rw [List.map_append]
 exact⟨A',c',rfl,H4.out,H5.out⟩

structure Vl {α:Type} (r:Rd α) (e:TypeId) (base:Nat) (W:World) (A:Option Addr) (n c:Nat) (cells:List Value) (xs:List α):Prop where
 own:W.ownsRow base e r.z (.slice A n c) n cells
 len:n=xs.length
 els: ∀(k:Nat) x,xs[k]?=some x→ ∃lo hi,base≤lo∧hi≤W.heap.size∧(∀g,(Value.slice A n c).ownBlock=some g→g<lo∨hi≤g)∧r.R W lo hi ((cells.drop (k*r.z)).take r.z) x
section
variable {α:Type} {r:Rd α} {e:TypeId} {base:Nat} {W W':World} {A:Option Addr} {n c:Nat} {cells:List Value} {xs:List α}
theorem Vl.nil (r:Rd α) (e:TypeId) (base:Nat) (W:World):Vl r e base W none 0 0 [] []:=
 ⟨⟨by simp,.inl ⟨rfl,rfl⟩⟩,rfl,fun k x h=>by simp at h⟩
theorem Vl.below (h:Vl r e base W A n c cells xs) (hb:Below W.heap.size W W'):Vl r e base W' A n c cells xs:=by
 refine⟨BI h.own hb,h.len,fun k x hk=> ?_⟩
 obtain⟨lo,hi,h1,h2,h3,h4⟩:=h.els k x hk
 exact⟨lo,hi,h1,Nat.le_trans h2 hb.size,h3,r.below h4 hb h2⟩
theorem Vl.reads (h:Vl r e base W A n c cells xs):(r.sl false).R W base W.heap.size [.slice A n c] xs:=by
 refine Rd.own false h.own h.len fun k x hk=> ?_
 obtain⟨lo,hi,h1,h2,_,h4⟩:=h.els k x hk
 exact r.more h1 h2 h4
theorem Vl.snoc (h:Vl r e base W A n c cells xs) (hbase:base≤W.heap.size) {A':Option Addr} {c' lo hi:Nat} {cs:List Value} {x:α} (hr:r.R W lo hi cs x) (hlo:base≤lo) (hhi:hi≤W.heap.size) (hap: ∀g,(Value.slice A n c).ownBlock=some g→g<lo∨hi≤g)
 (ho:W'.ownsRow base e r.z (.slice A' (n+1) c') (n+1) (cells++cs)) (hg:W.grownBy W' (Value.slice A n c).ownBlock) (hat:(Value.slice A' (n+1) c').ownBlock=(Value.slice A n c).ownBlock∨(Value.slice A' (n+1) c').ownBlock=some W.heap.size):
 Vl r e base W' A' (n+1) c' (cells++cs) (xs++ [x]):=by
 have hl:cells.length=n*r.z:=h.own.1
 have hcs:cs.length=r.z:=r.len hr
 have hnew: ∀ {lo hi:Nat},hi≤W.heap.size→(∀g,(Value.slice A n c).ownBlock=some g→g<lo∨hi≤g)→ ∀g,(Value.slice A' (n+1) c').ownBlock=some g→g<lo∨hi≤g:=fun hh ha g hg'=>by
  rcases hat with h1 | h1
  ·exact ha g (h1▸hg')
  ·rw [h1] at hg';injection hg' with hg';right;omega
 refine⟨ho,by rw [List.length_append,←h.len];rfl,fun k y hk=> ?_⟩
 rw [List.getElem?_append] at hk
 split at hk
 ·rename_i hlt
  obtain⟨l1,h1,g1,g2,g3,g4⟩:=h.els k y hk
  refine⟨l1,h1,g1,Nat.le_trans g2 hg.size,hnew g2 g3,?_⟩
  have hkn:k*r.z+r.z≤cells.length:=by
   rw [hl,←Nat.succ_mul]
   exact Nat.mul_le_mul_right _ (by rw [h.len];exact hlt)
  rw [List.drop_append_of_le_length (by omega),List.take_append_of_le_length (by rw [List.length_drop];omega)]
  exact r.grown g4 hg g2 g3
 ·rename_i hge
  have hk0:k=xs.length:=by
   have:=(List.getElem?_eq_some_iff.1 hk).1
   simp at this;omega
  subst hk0
  rw [Nat.sub_self] at hk
  simp at hk
  subst hk
  refine⟨lo,hi,hlo,Nat.le_trans hhi hg.size,hnew hhi hap,?_⟩
  rw [←h.len,←hl,List.drop_left' rfl,←hcs,List.take_length]
  exact r.grown hr hg hhi hap
end
structure Flat {α:Type} (r:Rd α) (f:α→List Value) (ok:α→Prop):Prop where
 iff: ∀ {W:World} {lo hi:Nat} {cs:List Value} {x:α},r.R W lo hi cs x↔cs=f x∧ok x
 one: ∀x,∀u∈f x,u.oneCell'=true
 len: ∀x,(f x).length=r.z
 pos:0<r.z
theorem dL:Flat Rd.u8 (fun x=> [bv x]) (fun _=>True):=⟨Iff.rfl,fun x u h=>by rw [List.mem_singleton] at h;subst h;rfl,fun _=>rfl,by decide⟩
theorem Yc:Flat Rd.i64 (fun x=> [Value.int .i64 x]) Rd.ER:=⟨Iff.rfl,fun x u h=>by rw [List.mem_singleton] at h;subst h;rfl,fun _=>rfl,by decide⟩
def Qj (x:DI):List Value:= [.string x.p,.string x.r]
theorem Yd:Flat LD Qj (fun x=>Rd.Yb x.p∧Rd.Yb x.r):=⟨Mw,fun x u h=>by unfold Qj at h;simp at h;rcases h with rfl | rfl<;>rfl,fun _=>rfl,by decide⟩
theorem Sz {α:Type} {f:α→List Value} {z:Nat} (hl: ∀x,(f x).length=z): ∀l:List α,(l.flatMap f).length=l.length*z
 | []=>by simp
 | x::l=>by rw [List.flatMap_cons,List.length_append,hl,Sz hl l,List.length_cons,Nat.succ_mul,Nat.add_comm]
theorem Nf {α:Type} {f:α→List Value} {z:Nat} (hl: ∀x,(f x).length=z): ∀(l:List α) (k:Nat) (x:α),l[k]?=some x→((l.flatMap f).drop (k*z)).take z=f x
 | [],k,x,h=>by simp at h
 | y::l,0,x,h=>by
  simp at h
  subst h
  rw [Nat.zero_mul,List.drop_zero,List.flatMap_cons,←hl y,List.take_left' rfl]
 | y::l,k+1,x,h=>by
  rw [List.getElem?_cons_succ] at h
  rw [List.flatMap_cons,Nat.succ_mul,Nat.add_comm,←hl y,←List.drop_drop,List.drop_left' rfl,hl y]
  exact Nf hl l k x h
section
variable {α:Type} {r:Rd α} {f:α→List Value} {ok:α→Prop} {W:World} {lo hi:Nat} {A:Option Addr} {n c:Nat} {l:List α}
theorem Flat.row (hf:Flat r f ok) (h:(r.sl false).R W lo hi [.slice A n c] l):Row W hi A (l.flatMap f):=fun hn=>by
 have hlen:=Sz hf.len l
 have h0:0<l.length:=by
  rcases Nat.eq_zero_or_pos l.length with h0 | h0
  ·rw [h0,Nat.zero_mul] at hlen;omega
  ·exact h0
 obtain⟨A',c',he,_,h⟩:=h
 injection he with he _
 injection he with h1 h2 h3
 subst h1 h2
 obtain⟨b,o,e,_,hhi,hx⟩:=h h0
 refine⟨b,o,e,hhi,fun j u hu=> ?_⟩
 have hj:j<l.length*r.z:=by have:=(List.getElem?_eq_some_iff.1 hu).1;rwa [hlen] at this
 have hk:j/r.z<l.length:=(Nat.div_lt_iff_lt_mul hf.pos).2 hj
 obtain⟨cs,hc,hr⟩:=hx (j/r.z) _ (List.getElem?_eq_getElem hk)
 obtain⟨rfl,_⟩:=hf.iff.1 hr
 have ht:=Nf hf.len l (j/r.z) _ (List.getElem?_eq_getElem hk)
 have hm:j%r.z<r.z:=Nat.mod_lt _ hf.pos
 have hd:j/r.z*r.z+j%r.z=j:=by rw [Nat.mul_comm];exact Nat.div_add_mod j r.z
 have:=hc (j%r.z) u (by
  rw [←ht,List.getElem?_take,if_pos hm,List.getElem?_drop,hd]
  exact hu)
 rw [Nat.add_assoc,hd] at this
 exact this
theorem Flat.reads (hf:Flat r f ok) {base:Nat} {e:TypeId} (h:W.ownsRow base e r.z (.slice A n c) n (l.flatMap f)) (hn:n=l.length) (hok: ∀x∈l,ok x):(r.sl false).R W base W.heap.size [.slice A n c] l:=
 Rd.own false h hn fun k x hk=>hf.iff.2 ⟨Nf hf.len l k x hk,hok x (List.mem_of_getElem? hk)⟩
theorem Flat.cells (hf:Flat r f ok) (l:List α): ∀u∈l.flatMap f,u.oneCell'=true:=fun u hu=>by
 obtain⟨x,_,hx⟩:=List.mem_flatMap.1 hu
 exact hf.one x u hx
end
theorem Rd.set {α:Type} {r:Rd α} {W:World} {lo hi:Nat} {cs:List Value} {x:α} (h:r.R W lo hi cs x) {p:Addr} (u:Value) (hp:p.block<lo∨hi≤p.block):r.R (W.setCell p u) lo hi cs x:=
 r.keep (fun q h1 h2=>by
  have hb:=Below.heap_setCell W p u q.block (by omega)
  simp only [World.cell?,hb]) h
theorem info_parts' {P:Program} {t:TypeId} {s b:Nat} (h:(P.info? t).map (fun i=>(i.size,i.bytes,i.zero.map fun z=>z.cells.size))=some (s,b,some s)): ∃i z,P.info? t=some i∧i.zero=some z∧i.size=s∧i.bytes=b∧z.cells.size=s:=by
 cases hi:P.info? t with
 | none=>rw [hi] at h;cases h
 | some i=>
  rw [hi] at h
  simp only [Option.map_some,Option.some.injEq,Prod.mk.injEq] at h
  obtain⟨h1,h2,h3⟩:=h
  cases hz:i.zero with
  | none=>rw [hz] at h3;cases h3
  | some z=>
   rw [hz] at h3
   exact⟨i,z,rfl,hz,h1,h2,by simpa using h3⟩
def IV {α:Type} (l l':α) (w:World) (e:Ending) (w':World):Prop:=Below w.heap.size w w'∧ ∃b,e= .returned (.bool b)∧(b=true↔l=l')
theorem Ol {a b:ByteArray} (h:a≠b):(a.toList==b.toList)=false:=by
 rw [beq_eq_false_iff_ne]
 intro he
 rw [ByteArray.toList_eq,ByteArray.toList_eq] at he
 exact h (ByteArray.ext (Array.toList_inj.1 he))
theorem int_ne {a b:Nat} (h:a≠b):((a:Int)==(b:Int))=false:=by rw [beq_eq_false_iff_ne];omega
theorem int_ne' {a b:Int} (h:a≠b):(a==b)=false:=by rw [beq_eq_false_iff_ne];exact h
theorem wD {a b:UInt8} (h:a≠b):((a.toNat:Int)==(b.toNat:Int))=false:=by
 rw [beq_eq_false_iff_ne]
 intro he
 exact h (UInt8.toNat_inj.1 (by omega))
theorem sU {a b:Bool} (h:a≠b):(a==b)=false:=by cases a<;>cases b<;>simp_all
theorem ZH (l:List UInt8):(l.flatMap fun x=> [bv x])=l.map bv:=by induction l with | nil=>rfl | cons a l ih=>rw [List.flatMap_cons,ih];rfl
theorem WV (l:List Int):(l.flatMap fun x=> [Value.int .i64 x])=WB l:=by unfold WB;induction l with | nil=>rfl | cons a l ih=>rw [List.flatMap_cons,ih];rfl
theorem nK {P:Program} {f:FuncId} {args:Array Value} {w:World} {α:Type} [DecidableEq α] {l l':α} (h:Calls P f args w fun e w'=>(∃k,w'=w.drewN k)∧e= .returned (.bool (decide (l=l')))):Calls P f args w (IV l l' w):=
 h.mono fun e w' ⟨⟨k,hk⟩,he⟩=>⟨by rw [hk];exact below_drewN (Below.refl _ _) k,_,he,decide_eq_true_iff⟩
theorem nL (A A':Option Addr) (n n' c c' hi hi':Nat) (l l':List UInt8) (w:World) (h:(Rd.u8.sl false).R w 0 hi [.slice A n c] l) (h':(Rd.u8.sl false).R w 0 hi' [.slice A' n' c'] l') (h47:n≤140737488351232):
 Calls prog 19 #[.slice A n c,.slice A' n' c'] w (IV l l' w):=
 nK (ZG A A' n n' c c' hi hi' w l l' (EI h) (EI h') h47 (by rw [←ZH];exact dL.row h) (by rw [←ZH];exact dL.row h'))
theorem eT (A A':Option Addr) (n n' c c' hi hi':Nat) (l l':List Int) (w:World) (h:(Rd.i64.sl false).R w 0 hi [.slice A n c] l) (h':(Rd.i64.sl false).R w 0 hi' [.slice A' n' c'] l') (h47:n≤140737488351232):
 Calls prog 45 #[.slice A n c,.slice A' n' c'] w (IV l l' w):=
 nK (sS A A' n n' c c' hi hi' w l l' (EI h) (EI h') h47 (by rw [←WV];exact Yc.row h) (by rw [←WV];exact Yc.row h'))
def iL (l l':List DI) (w:World) (n:Nat) (i:Value) (wr:World):Prop:= ∃k m:Nat,k≤n∧i= .int .i64 k∧wr=w.drewN m∧l.take k=l'.take k
theorem sV (A A':Option Addr) (n n' c c' hi hi':Nat) (l l':List DI) (w:World) (h:(LD.sl false).R w 0 hi [.slice A n c] l) (h':(LD.sl false).R w 0 hi' [.slice A' n' c'] l') (h47:n≤140737488351232):
 Calls prog 44 #[.slice A n c,.slice A' n' c'] w (IV l l' w):=by
 have hn:=EI h
 have hn':=EI h'
 by_cases hnn:n=n'
 ·subst hnn
  have Hh:=AA h;clear h
  have nM:=AA h';clear h'
  have Hn:=AA hn;clear hn
  have TY:=AA hn';clear hn'
  go_enter func44,ntmps44
  go_wp2
  go_loopw [5] (fun i wr=>iL l l' w n i wr) (fun i _=>n-(intOf i).toNat)
  case atStart=>exact⟨0,0,by omega,rfl,rfl,rfl⟩
  case round=>
   obtain⟨k,m,hk,rfl,rfl,hR⟩:=hrel
   have HR:=AA hR;clear hR
   by_cases hlt:k<n
   ·obtain⟨x,hx⟩: ∃x,l[k]?=some x:=⟨_,List.getElem?_eq_getElem (by rw [←Hn.out];exact hlt)⟩
    obtain⟨y,hy⟩: ∃y,l'[k]?=some y:=⟨_,List.getElem?_eq_getElem (by rw [←TY.out];exact hlt)⟩
    obtain⟨b,o,rfl,_,_,hc0,hc1,XY,XZ⟩:=KF Hh.out hx
    obtain⟨b',o',rfl,_,_,hd0,hd1,qo_p,qo_r⟩:=KF nM.out hy
    have hi:(0:Int)≤k:=by omega
    have HT:Hid (x=y→l.take (k+1)=l'.take (k+1)):=AA (fun e=>by rw [List.take_add_one,List.take_add_one,HR.out,hx,hy,e])
    have HF:Hid (x≠y→l≠l'):=AA (fun e he=>e (by rw [he,hy] at hx;exact(Option.some.inj hx).symm))
    clear hx hy XY qo_p XZ qo_r
    by_cases h0:x.p=y.p
    case neg=>
     have HX:Hid (x≠y):=AA (fun e=>h0 (by rw [e]))
     have hne:=Ol h0
     clear h0
     go_wp2
     go_quiet (fail)
     go_wp2
     go_ret
     exact⟨below_drewN (below_drewN (Below.refl _ _) _) _,false,rfl,by simp;exact HF.out HX.out⟩
    rw [h0] at hc0
    by_cases h1:x.r=y.r
    case neg=>
     have HX:Hid (x≠y):=AA (fun e=>h1 (by rw [e]))
     have hne:=Ol h1
     clear h1
     go_wp2
     go_quiet (fail)
     go_wp2
     go_ret
     exact⟨below_drewN (below_drewN (Below.refl _ _) _) _,false,rfl,by simp;exact HF.out HX.out⟩
    rw [h1] at hc1
    have HX:Hid (x=y):=AA (by cases x;cases y;simp_all)
    clear h0 h1
    go_wp2
    go_quiet (fail)
    go_wp2
    exact⟨⟨k+1,m+nq,by omega,by go_num,rfl,HT.out HX.out⟩,by simp [intOf];omega⟩
   ·obtain rfl:k=n:=by omega
    have hT:Hid (l=l'):=by
     have:=HR.out
     rw [List.take_of_length_le (by rw [Hn.out];exact Nat.le_refl _),List.take_of_length_le (by rw [TY.out];exact Nat.le_refl _)] at this
     exact AA this
    go_wp2
    go_ret
    exact⟨below_drewN (Below.refl _ _) _,true,rfl,by simp;exact hT.out⟩
 ·have hF:Hid (l≠l'):=AA (fun h=>hnn (by rw [hn,hn',h]))
  have hne:((n:Int) !=n')=true:=by simp;omega
  clear h h' hn hn'
  go_enter func44,ntmps44
  go_wp2
  go_ret
  exact⟨Below.refl _ _,false,rfl,by simp;exact hF.out⟩
def Xa (l l':List EJ) (w:World) (n:Nat) (i:Value) (wr:World):Prop:= ∃k m:Nat,k≤n∧i= .int .i64 k∧wr=w.drewN m∧l.take k=l'.take k
theorem aj (A A':Option Addr) (n n' c c' hi hi':Nat) (l l':List EJ) (w:World) (h:(Jf.sl false).R w 0 hi [.slice A n c] l) (h':(Jf.sl false).R w 0 hi' [.slice A' n' c'] l') (h47:n≤140737488351232):
 Calls prog 46 #[.slice A n c,.slice A' n' c'] w (IV l l' w):=by
 have hn:=EI h
 have hn':=EI h'
 by_cases hnn:n=n'
 ·subst hnn
  have Hh:=AA h;clear h
  have nM:=AA h';clear h'
  have Hn:=AA hn;clear hn
  have TY:=AA hn';clear hn'
  go_enter func46,ntmps46
  go_wp2
  go_loopw [5] (fun i wr=>Xa l l' w n i wr) (fun i _=>n-(intOf i).toNat)
  case atStart=>exact⟨0,0,by omega,rfl,rfl,rfl⟩
  case round=>
   obtain⟨k,m,hk,rfl,rfl,hR⟩:=hrel
   have HR:=AA hR;clear hR
   by_cases hlt:k<n
   ·obtain⟨x,hx⟩: ∃x,l[k]?=some x:=⟨_,List.getElem?_eq_getElem (by rw [←Hn.out];exact hlt)⟩
    obtain⟨y,hy⟩: ∃y,l'[k]?=some y:=⟨_,List.getElem?_eq_getElem (by rw [←TY.out];exact hlt)⟩
    obtain⟨b,o,rfl,_,_,hc0,hc1,hc2,po_v⟩:=OX Hh.out hx
    obtain⟨b',o',rfl,_,_,hd0,hd1,hd2,qo_v⟩:=OX nM.out hy
    have hi:(0:Int)≤k:=by omega
    have HT:Hid (x=y→l.take (k+1)=l'.take (k+1)):=AA (fun e=>by rw [List.take_add_one,List.take_add_one,HR.out,hx,hy,e])
    have HF:Hid (x≠y→l≠l'):=AA (fun e he=>e (by rw [he,hy] at hx;exact(Option.some.inj hx).symm))
    clear hx hy po_v qo_v
    by_cases h0:x.l=y.l
    case neg=>
     have HX:Hid (x≠y):=AA (fun e=>h0 (by rw [e]))
     have hne:=wD h0
     clear h0
     go_wp2
     go_quiet (fail)
     go_wp2
     go_ret
     exact⟨below_drewN (below_drewN (Below.refl _ _) _) _,false,rfl,by simp;exact HF.out HX.out⟩
    rw [h0] at hc0
    by_cases h1:x.m=y.m
    case neg=>
     have HX:Hid (x≠y):=AA (fun e=>h1 (by rw [e]))
     have hne:=sU h1
     clear h1
     go_wp2
     go_quiet (fail)
     go_wp2
     go_ret
     exact⟨below_drewN (below_drewN (Below.refl _ _) _) _,false,rfl,by simp;exact HF.out HX.out⟩
    rw [h1] at hc1
    by_cases h2:x.v=y.v
    case neg=>
     have HX:Hid (x≠y):=AA (fun e=>h2 (by rw [e]))
     have hne:=int_ne h2
     clear h2
     go_wp2
     go_quiet (fail)
     go_wp2
     go_ret
     exact⟨below_drewN (below_drewN (Below.refl _ _) _) _,false,rfl,by simp;exact HF.out HX.out⟩
    rw [h2] at hc2
    have HX:Hid (x=y):=AA (by cases x;cases y;simp_all)
    clear h0 h1 h2
    go_wp2
    go_quiet (fail)
    go_wp2
    exact⟨⟨k+1,m+nq,by omega,by go_num,rfl,HT.out HX.out⟩,by simp [intOf];omega⟩
   ·obtain rfl:k=n:=by omega
    have hT:Hid (l=l'):=by
     have:=HR.out
     rw [List.take_of_length_le (by rw [Hn.out];exact Nat.le_refl _),List.take_of_length_le (by rw [TY.out];exact Nat.le_refl _)] at this
     exact AA this
    go_wp2
    go_ret
    exact⟨below_drewN (Below.refl _ _) _,true,rfl,by simp;exact hT.out⟩
 ·have hF:Hid (l≠l'):=AA (fun h=>hnn (by rw [hn,hn',h]))
  have hne:((n:Int) !=n')=true:=by simp;omega
  clear h h' hn hn'
  go_enter func46,ntmps46
  go_wp2
  go_ret
  exact⟨Below.refl _ _,false,rfl,by simp;exact hF.out⟩
def Xb (l l':List Jy) (w:World) (n:Nat) (i:Value) (wr:World):Prop:= ∃k m:Nat,k≤n∧i= .int .i64 k∧wr=w.drewN m∧l.take k=l'.take k
theorem ak (A A':Option Addr) (n n' c c' hi hi':Nat) (l l':List Jy) (w:World) (h:(Lf.sl false).R w 0 hi [.slice A n c] l) (h':(Lf.sl false).R w 0 hi' [.slice A' n' c'] l') (h47:n≤140737488351232):
 Calls prog 49 #[.slice A n c,.slice A' n' c'] w (IV l l' w):=by
 have hn:=EI h
 have hn':=EI h'
 by_cases hnn:n=n'
 ·subst hnn
  have Hh:=AA h;clear h
  have nM:=AA h';clear h'
  have Hn:=AA hn;clear hn
  have TY:=AA hn';clear hn'
  go_enter func49,ntmps49
  go_wp2
  go_loopw [5] (fun i wr=>Xb l l' w n i wr) (fun i _=>n-(intOf i).toNat)
  case atStart=>exact⟨0,0,by omega,rfl,rfl,rfl⟩
  case round=>
   obtain⟨k,m,hk,rfl,rfl,hR⟩:=hrel
   have HR:=AA hR;clear hR
   by_cases hlt:k<n
   ·obtain⟨x,hx⟩: ∃x,l[k]?=some x:=⟨_,List.getElem?_eq_getElem (by rw [←Hn.out];exact hlt)⟩
    obtain⟨y,hy⟩: ∃y,l'[k]?=some y:=⟨_,List.getElem?_eq_getElem (by rw [←TY.out];exact hlt)⟩
    obtain⟨b,o,rfl,_,_,hc0,hc1,po_n,po_f⟩:=NY Hh.out hx
    obtain⟨b',o',rfl,_,_,hd0,hd1,qo_n,qo_f⟩:=NY nM.out hy
    have hi:(0:Int)≤k:=by omega
    have HT:Hid (x=y→l.take (k+1)=l'.take (k+1)):=AA (fun e=>by rw [List.take_add_one,List.take_add_one,HR.out,hx,hy,e])
    have HF:Hid (x≠y→l≠l'):=AA (fun e he=>e (by rw [he,hy] at hx;exact(Option.some.inj hx).symm))
    clear hx hy po_n qo_n po_f qo_f
    by_cases h0:x.n=y.n
    case neg=>
     have HX:Hid (x≠y):=AA (fun e=>h0 (by rw [e]))
     have hne:=Ol h0
     clear h0
     go_wp2
     go_quiet (fail)
     go_wp2
     go_ret
     exact⟨below_drewN (below_drewN (Below.refl _ _) _) _,false,rfl,by simp;exact HF.out HX.out⟩
    rw [h0] at hc0
    by_cases h1:x.f=y.f
    case neg=>
     have HX:Hid (x≠y):=AA (fun e=>h1 (by rw [e]))
     have hne:=int_ne' h1
     clear h1
     go_wp2
     go_quiet (fail)
     go_wp2
     go_ret
     exact⟨below_drewN (below_drewN (Below.refl _ _) _) _,false,rfl,by simp;exact HF.out HX.out⟩
    rw [h1] at hc1
    have HX:Hid (x=y):=AA (by cases x;cases y;simp_all)
    clear h0 h1
    go_wp2
    go_quiet (fail)
    go_wp2
    exact⟨⟨k+1,m+nq,by omega,by go_num,rfl,HT.out HX.out⟩,by simp [intOf];omega⟩
   ·obtain rfl:k=n:=by omega
    have hT:Hid (l=l'):=by
     have:=HR.out
     rw [List.take_of_length_le (by rw [Hn.out];exact Nat.le_refl _),List.take_of_length_le (by rw [TY.out];exact Nat.le_refl _)] at this
     exact AA this
    go_wp2
    go_ret
    exact⟨below_drewN (Below.refl _ _) _,true,rfl,by simp;exact hT.out⟩
 ·have hF:Hid (l≠l'):=AA (fun h=>hnn (by rw [hn,hn',h]))
  have hne:((n:Int) !=n')=true:=by simp;omega
  clear h h' hn hn'
  go_enter func49,ntmps49
  go_wp2
  go_ret
  exact⟨Below.refl _ _,false,rfl,by simp;exact hF.out⟩
theorem aF:(prog.info? 51).map (fun i=>(i.size,i.bytes,i.zero.map fun z=>z.cells.size))=some (2,32,some 2):=by kernel_rfl
set_option maxHeartbeats 40000000 in
theorem Vu (w:World): ∀r∈EB,Calls prog 132 #[.int .u8 (r.op:Nat)] w fun e w'=>w=w'∧e= .returned (.int .i8 r.takes):=by
 unfold EB
 iterate 90
  refine List.forall_mem_cons.2 ⟨?_,?_⟩
  ·simp only [Int.cast_ofNat_Int]
   try simp only [Int.natCast_zero]
   go_enter func132,ntmps132
   go_wp2_with fail
   go_ret
   exact⟨rfl,rfl⟩
 exact fun _ h=>by cases h
theorem sj {P:Program} {f:FuncId} {args:Array Value} {w:World} {a b:ByteArray} {R:Ending→World→Prop} (h:Calls P f args w fun e w'=>w=w'∧e= .returned (.tuple #[.string a,.string b])) (hr:R (.returned (.tuple #[.string a,.string b])) w):Calls P f args w R:=
 h.mono fun e w' hh=>by obtain⟨rfl,rfl⟩:=hh;exact hr
set_option maxHeartbeats 40000000 in
theorem Vt (w:World): ∀r∈EB,Calls prog 131 #[.int .u8 (r.op:Nat)] w fun e w'=>w=w'∧e= .returned (.tuple #[.string r.pops,.string r.pushes,.bool r.plain]):=by
 unfold EB
 iterate 90
  refine List.forall_mem_cons.2 ⟨?_,?_⟩
  ·simp only [Int.cast_ofNat_Int]
   go_enter func131,ntmps131
   go_wp2_with fail
   first
    | (go_ret3;exact⟨rfl,rfl⟩)
    | (apply sj
       ·go_enter func172,ntmps172
        go_wp2_with fail
        go_ret2
        exact⟨rfl,rfl⟩
       ·go_wp2_with fail
        go_ret3
        exact⟨rfl,rfl⟩)
 exact fun _ h=>by cases h
end Go.Proofs.YtejbcledkhioeaaGreatDoor
