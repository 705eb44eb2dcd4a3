/- Part 28 of the proof: OpsF FamO OpsG RdrQ -/
import Derived.Test.YtebgikflpgcnlaaGreatDoorT13
import Derived.Test.YtebgikflpgcnlaaGreatDoorT25
namespace Go.Proofs.YtebgikflpgcnlaaGreatDoor
set_option linter.unusedVariables false
set_option linter.unusedSimpArgs false
set_option maxRecDepth 100000
set_option maxHeartbeats 4000000
open Go.RowKit Tryz
def opsTo (n:Nat):List UInt8:=((List.range n).filter (fun k=>(opRow k).isSome)).map UInt8.ofNat
theorem opsTo_next (n:Nat):opsTo (n+1)=opsTo n++(if(opRow n).isSome then [UInt8.ofNat n] else []):=by
 unfold opsTo
 rw [List.range_succ,List.filter_append,List.map_append]
 congr 1
 by_cases h:(opRow n).isSome=true
 ·simp [List.filter_cons,h]
 ·simp [List.filter_cons,h]
theorem opsTo_len (n:Nat):(opsTo n).length≤n:=by
 unfold opsTo
 rw [List.length_map]
 exact Nat.le_trans (List.length_filter_le _ _) (by simp)
theorem opsTo_all:opsTo 256=opTab.map (fun r=>UInt8.ofNat r.op):=by kernel_rfl
def AllRel (w:World) (l i:Value) (wr:World):Prop:=
 ∃(n:Nat) (A:Option Addr) (c:Nat),n≤256∧i= .int .i64 n∧l= .slice A (opsTo n).length c∧wr.ownsRow w.heap.size 5 1 (.slice A (opsTo n).length c) (opsTo n).length ((opsTo n).map bv)∧Below w.heap.size w wr
theorem ops_all (w:World) (htab:Lib.TabIs prog w "strings.asciiSpace" .u8 Lib.asciiSpaceTab):
 Calls prog 192 #[] w fun e w'=> ∃A c,e= .returned (.slice A (opsTo 256).length c)∧w'.ownsRow w.heap.size 5 1 (.slice A (opsTo 256).length c) (opsTo 256).length ((opsTo 256).map bv)∧Below w.heap.size w w':=by
 have Ht:=hideIt (Lib.tabBelow_of_tabIs htab)
 clear htab
 obtain⟨i0,hi0,hz,hs',hby⟩:=info_parts info_u8
 go_enter func192,ntmps192
 go_wp2_with fail
 go_loopw [1,6] (fun l i wr=>AllRel w l i wr) (fun _ i _=>256-(intOf i).toNat)
 case atStart=>exact⟨0,none,0,Nat.zero_le _,rfl,rfl,⟨by simp [opsTo],.inl ⟨rfl,rfl⟩⟩,Below.refl _ _⟩
 case round=>
  obtain⟨n,A,c,hn,rfl,rfl,hown,hb⟩:=hrel
  have HOWN:=hideIt hown;have HB:=hideIt hb
  have hlen:=opsTo_len n
  clear hown hb
  by_cases hlt:n<256
  ·have d1:decide ((n:Int)<256)=true:=decide_eq_true (by omega)
   have hm:(n:Int)%256=(n:Int):=by omega
   have HC:=hideIt (ops_run n wr (by omega) (Ht.out wr HB.out))
   go_wp2_with fail
   refine HC.out.mono ?_
   clear HC
   rintro e w2 ⟨hb2,⟨hl,rfl⟩ | ⟨hl,g,rfl,hg1,hg2,hc⟩⟩
   ·have hno:(opRow n).isSome=false:=by
     cases hr:opRow n with
     | none=>rfl
     | some r=>
      obtain⟨x,hx,_⟩:=opRow_some (by omega) hr
      have:=(List.getElem?_eq_some_iff.1 hx).1
      omega
    have hnx:opsTo (n+1)=opsTo n:=by rw [opsTo_next,hno];simp
    have hfin:AllRel w (.slice A (opsTo n).length c) (.int .i64 ((n+1:Nat):Int)) w2:=⟨n+1,A,c,by omega,rfl,by rw [hnx],by rw [hnx];exact own_keptz HOWN.out hb2,HB.out.trans (hb2.mono HB.out.size)⟩
    have HFIN:=hideIt hfin
    clear hl hb2 hno hnx hfin
    go_wp2_with fail
    exact⟨HFIN.out,by show 256-((n:Int)+1).toNat<256-(n:Int).toNat;omega⟩
   ·have hyes:(opRow n).isSome=true:=by
     cases hr:opRow n with
     | none=>have:=opRow_none (by omega) hr;omega
     | some r=>rfl
    have hnx:opsTo (n+1)=opsTo n++ [UInt8.ofNat n]:=by rw [opsTo_next,hyes];rfl
    have hge:decide ((0:Int)≤((n-(runOf n).1:Nat):Int))=true:=decide_eq_true (by omega)
    have HO2:=hideIt (own_keptz HOWN.out hb2);have HB2:=hideIt (HB.out.trans (hb2.mono HB.out.size));have HNX:=hideIt hnx
    generalize (runOf n).2.2=ah at*
    generalize (Lib.fields (runOf n).2.1.data.toList).length=fl at*
    generalize n-(runOf n).1=nn at*
    have Hrow:Hid (Row (w2.alloc (.cells #[.int .u8 n] 5)) (w2.heap.size+1) (some ⟨w2.heap.size,0,none⟩) [.int .u8 n]):=hideIt (row_cells w2 [.int .u8 n] 5)
    have hsz2:=HB2.out.size
    generalize hLL:opsTo n=LL at*
    clear hl hb2 hyes hnx hc
    go_wp2_with (at_builtin;refine wpList_appz _ rfl (.tmp 18) (.tmp 21) 41 rfl w.heap.size 5 i0 _ 1 1 underlying41 hi0 hz hs' hby rfl (by omega) _ LL.length (LL.map bv) rfl (HO2.out.alloc _) (w2.heap.size+1) _ 1 1 [.int .u8 n] rfl rfl Hrow.out (by intro u hu;simp at hu;subst hu;rfl) (by unfold maxLen;omega) (by omega) (by simp;omega) ?_)
    intro A4 c4 w9 h2 h3 h4
    have hfin:AllRel w (.slice A4 (LL.length+1) c4) (.int .i64 ((n+1:Nat):Int)) w9:=by
     refine⟨n+1,A4,c4,by omega,rfl,?_,?_,?_⟩
     ·rw [HNX.out,List.length_append];rfl
     ·rw [HNX.out,List.length_append,List.map_append]
      have hv:bv (UInt8.ofNat n)= .int .u8 n:=by
       unfold bv
       rw [UInt8.toNat_ofNat',Nat.mod_eq_of_lt (by omega)]
      show World.ownsRow _ _ _ _ _ _ (LL.map bv++ [bv (UInt8.ofNat n)])
      rw [hv]
      exact h2
     ·have h1:=HB2.out.alloc hsz2 (.cells #[.int .u8 n] 5)
      exact⟨h3.os.trans h1.os,h3.tape.trans h1.tape,h3.output.trans h1.output,Nat.le_trans h1.size h3.size,fun q hq=>(h3.block q (Nat.lt_of_lt_of_le hq h1.size) (fun e=>by have:=(HO2.out.lt q e.symm).1;omega)).trans (h1.block q hq)⟩
    have HFIN:=hideIt hfin
    clear h2 h3 h4 hfin
    go_wp2_with fail
    exact⟨HFIN.out,by show 256-((n:Int)+1).toNat<256-(n:Int).toNat;omega⟩
  ·have d1:decide ((n:Int)<256)=false:=decide_eq_false (by omega)
   have hn6:n=256:=by omega
   subst hn6
   go_wp2_with fail
   go_ret
   exact⟨A,c,rfl,HOWN.out,HB.out⟩
structure Fam (k:Nat) (w:World) (base:Nat) (e:TypeId) (f:Nat→Value×List Value):Prop where
 own: ∀i,i<k→w.ownsRow base e 1 (f i).1 (f i).2.length (f i).2
 apart: ∀i j,i<k→j<k→i≠j→ ∀b,(f i).1.ownBlock=some b→(f j).1.ownBlock≠some b
def updF (f:Nat→Value×List Value) (i:Nat) (x:Value×List Value):Nat→Value×List Value:=fun j=>if j=i then x else f j
section
variable {k:Nat} {w w':World} {base:Nat} {e:TypeId} {f g:Nat→Value×List Value}
theorem Fam.congr (h:Fam k w base e f) (hg: ∀i,i<k→g i=f i):Fam k w base e g:=
 ⟨fun i hi=>by rw [hg i hi];exact h.own i hi,fun i j hi hj hn=>by rw [hg i hi,hg j hj];exact h.apart i j hi hj hn⟩
theorem Fam.below (h:Fam k w base e f) (hb:Below w.heap.size w w'):Fam k w' base e f:=
 ⟨fun i hi=>own_keptz (h.own i hi) hb,h.apart⟩
theorem Fam.put (h:Fam k w base e f) {i:Nat} (hi:i<k) {v:Value} {xs:List Value} (hg:w.grownBy w' (f i).1.ownBlock) (ho:w'.ownsRow base e 1 v xs.length xs)
 (hb:v.ownBlock=(f i).1.ownBlock∨ ∃n,w.heap.size≤n∧v.ownBlock=some n):Fam k w' base e (updF f i (v,xs)):=by
 constructor
 ·intro j hj
  unfold updF
  split
  ·exact ho
  ·rename_i hn
   refine(h.own j hj).kept hg ?_
   cases hv:(f j).1.ownBlock with
   | none=>exact .inl rfl
   | some b=>exact .inr fun e=>h.apart j i hj hi hn b hv e.symm
 ·intro a b ha hb' hn c hc hd
  unfold updF at hc hd
  split at hc
  ·rename_i ea
   rw [if_neg (by omega)] at hd
   rcases hb with e | ⟨n,hn2,e⟩
   ·rw [e] at hc;exact h.apart i b hi hb' (by omega) c hc hd
   ·rw [e] at hc
    injection hc with hc
    have:=((h.own b hb').lt c hd).2
    omega
  ·split at hd
   ·rcases hb with e | ⟨n,hn2,e⟩
    ·rw [e] at hd;exact h.apart a i ha hi (by omega) c hc hd
    ·rw [e] at hd
     injection hd with hd
     have:=((h.own a ha).lt c hc).2
     omega
   ·exact h.apart a b ha hb' hn c hc hd
theorem Fam.set (h:Fam k w base e f) {i:Nat} (hi:i<k) {b n c:Nat} (hv:(f i).1= .slice (some ⟨b,0,none⟩) n c) (hn:n=(f i).2.length) (p:Nat) (u:Value):
 Fam k (w.setCell ⟨b,p,none⟩ u) base e (updF f i ((f i).1,(f i).2.set p u)):=by
 subst hn
 have ho:=h.own i hi
 rw [hv] at ho
 have hs:=ho.stored p u
 refine h.put hi (v:=(f i).1) (xs:=(f i).2.set p u) ?_ ?_ (.inl rfl)
 ·rw [hv];exact hs.2
 ·rw [List.length_set,hv];exact hs.1
theorem Fam.o (h:Fam k w base e f) (i:Nat) (hi:i<k) {v:Value} {xs:List Value} {n:Nat} (hf:f i=(v,xs)) (hn:n=xs.length):w.ownsRow base e 1 v n xs:=by
 have:=h.own i hi
 rw [hf] at this
 rw [hn];exact this
theorem Fam.app (h:Fam k w base e f) (i:Nat) (hi:i<k) {v:Value} {xs news:List Value} {A:Option Addr} {c n m:Nat} (hf:f i=(v,xs)) (hn:n+m=(xs++news).length) (hg:w.grownBy w' v.ownBlock)
 (ho:w'.ownsRow base e 1 (.slice A (n+m) c) (n+m) (xs++news)) (hb:(Value.slice A (n+m) c).ownBlock=v.ownBlock∨(Value.slice A (n+m) c).ownBlock=some w.heap.size):
 Fam k w' base e (updF f i (.slice A (n+m) c,xs++news)):=by
 refine h.put hi (by rw [hf];exact hg) (by rw [←hn];exact ho) ?_
 rw [hf]
 rcases hb with e | e
 ·exact .inl e
 ·exact .inr ⟨_,Nat.le_refl _,e⟩
def fam4 (v1 v2 v3 v4:Value) (x1 x2 x3 x4:List Value):Nat→Value×List Value:=fun i=>match i with
 | 0=>(v1,x1)
 | 1=>(v2,x2)
 | 2=>(v3,x3)
 | _=>(v4,x4)
theorem lt4 {i:Nat} (h:i<4):i=0∨i=1∨i=2∨i=3:=by omega
theorem own_block {v:Value} {n:Nat} {xs:List Value} (h:w.ownsRow base e 1 v n xs) (hn:0<n): ∃b c,v= .slice (some ⟨b,0,none⟩) n c∧base≤b∧b<w.heap.size∧n≤c:=by
 rcases h.2 with⟨_,h0⟩ | ⟨g,cap,cur,hv,hb,hg,hle,_⟩
 ·omega
 ·exact⟨g,cap,hv,hb,(Array.getElem?_eq_some_iff.1 hg).1,hle⟩
theorem own_prefix {A:Option Addr} {n c m size:Nat} {xs:List Value} (h:w.ownsRow base e size (.slice A n c) n xs) (hm:m≤n):w.ownsRow base e size (.slice A m c) m (xs.take (m*size)):=by
 have hl:=h.1
 have hms:m*size≤n*size:=Nat.mul_le_mul_right _ hm
 refine⟨by rw [List.length_take];omega,?_⟩
 rcases h.2 with⟨hv,h0⟩ | ⟨g,cap,cur,hv,hb,hg,hle,hcm,hcs,htake⟩
 ·injection hv with h1 h2 h3
  subst h1 h3
  exact .inl ⟨by rw [show m=0 from by omega],by omega⟩
 ·injection hv with h1 h2 h3
  subst h1 h3
  exact .inr ⟨g,c,cur,rfl,hb,hg,by omega,hcm,hcs,by rw [←htake,List.take_take,Nat.min_eq_left hms]⟩
end
theorem own_ints {w:World} {base:Nat} {e:TypeId} {A:Option Addr} {n c:Nat} {xs:List Int} (h:w.ownsRow base e 1 (.slice A n c) n (xs.map (Value.int .i64))) (hb: ∀x∈xs,Rd.B63 x):
 (Rd.i64.sl false).R w base w.heap.size [.slice A n c] xs:=by
 have hl:n=xs.length:=by have:=h.1;simpa using this.symm
 refine Rd.own false (r:=Rd.i64) h hl fun k x hk=> ?_
 show(((xs.map (Value.int .i64)).drop (k*1)).take 1)= [Value.int .i64 x]∧Rd.B63 x
 have hlt:=(List.getElem?_eq_some_iff.1 hk)
 refine⟨?_,hb x (List.mem_of_getElem? hk)⟩
 rw [Nat.mul_one,←List.map_drop,List.drop_eq_getElem_cons hlt.1,hlt.2]
 rfl
theorem row_all: ∀r∈opTab,opRow r.op=some r:=by
 unfold opTab
 repeat (refine List.forall_mem_cons.2 ⟨by kernel_rfl,?_⟩)
 exact fun _ h=>by cases h
theorem op_lt:opTab.all (fun r=>decide (r.op<256))=true:=by kernel_rfl
theorem find_at {α:Type} (p:α→Bool): ∀(l:List α) (k:Nat) (x:α),l[k]?=some x→p x=true→(∀j y,j<k→l[j]?=some y→p y=false)→l.find? p=some x
 | [],k,x,h,_,_=>by cases h
 | y::l,0,x,h,hp,_=>by
  injection h with h
  subst h
  rw [List.find?_cons,hp]
 | y::l,k+1,x,h,hp,hn=>by
  rw [List.find?_cons,hn 0 y (by omega) rfl]
  exact find_at p l k x h hp (fun j z hj hz=>hn (j+1) z (by omega) hz)
def findAns (w:ByteArray):Value:=match opFind w with
 | none=> .tuple #[.int .u8 0,.bool false]
 | some r=> .tuple #[.int .u8 (r.op:Nat),.bool true]
def FindRel (s:ByteArray) (w:World) (i:Value) (wr:World):Prop:=
 ∃k:Nat,k≤opTab.length∧i= .int .i64 k∧Below w.heap.size w wr∧ ∀j y,j<k→opTab[j]?=some y→y.word≠s
theorem ops_findw (s:ByteArray) (w:World) {hi:Nat} (htab: ∀w',Below hi w w'→Lib.TabIs prog w' "strings.asciiSpace" .u8 Lib.asciiSpaceTab) (hhi:hi≤w.heap.size):
 Calls prog 149 #[.string s] w fun e w'=>Below w.heap.size w w'∧e= .returned (findAns s):=by
 have HT:=hideIt htab;have HHI:=hideIt hhi
 have HA:=hideIt (ops_all w (htab w (Below.refl _ _)))
 clear htab hhi
 go_enter func149,ntmps149
 go_wp2_with fail
 refine HA.out.mono ?_
 clear HA
 rintro e w1 ⟨A,c,rfl,hown,hb1⟩
 have hL:(opsTo 256).length=90:=by kernel_rfl
 rw [hL] at hown⊢
 obtain⟨g,cap,hAe,hg0,hg1⟩: ∃g cap,(Value.slice A 90 c)= .slice (some ⟨g,0,none⟩) 90 cap∧w.heap.size≤g∧g<w1.heap.size:=by
  obtain⟨b,cc,he,h1,h2,_⟩:=own_block hown (by decide)
  exact⟨b,cc,he,h1,h2⟩
 injection hAe with hA1 hA2 hA3
 subst hA1 hA3
 have hcell: ∀(k:Nat) (r:OpV),opTab[k]?=some r→w1.cell? ⟨g,k,none⟩=some (.int .u8 (r.op:Nat)):=by
  intro k r hr
  have hu:((opsTo 256).map bv)[k]?=some (.int .u8 (r.op:Nat)):=by
   rw [opsTo_all,List.map_map,List.getElem?_map,hr]
   show some (bv (UInt8.ofNat r.op))=_
   have:=of_decide_eq_true (List.all_eq_true.1 op_lt r (List.mem_of_getElem? hr))
   unfold bv
   rw [UInt8.toNat_ofNat',Nat.mod_eq_of_lt (by omega)]
  have:=hown.cells (g:=g) rfl k _ hu
  rwa [Addr.add_lit,Nat.zero_add] at this
 have HC:=hideIt hcell;have HB1:=hideIt hb1
 clear hcell hb1 hown hL
 go_wp2_with fail
 go_loopw [10] (fun i wr=>FindRel s w1 i wr) (fun i _=>90-(intOf i).toNat)
 case atStart=>exact⟨0,Nat.zero_le _,rfl,Below.refl _ _,fun j y hj=>by omega⟩
 case round=>
  obtain⟨k,hk,rfl,hb,hne⟩:=hrel
  have hlen:opTab.length=90:=by kernel_rfl
  rw [hlen] at hk
  have HB:=hideIt hb;have HNE:=hideIt hne
  clear hb hne
  by_cases hlt:k<90
  ·have d1:decide ((k:Int)<90)=true:=decide_eq_true (by omega)
   obtain⟨r,hr⟩: ∃r,opTab[k]?=some r:=⟨_,List.getElem?_eq_getElem (by omega)⟩
   have hm:=List.mem_of_getElem? hr
   have hk0:(0:Int)≤k:=by omega
   have q0:wr.cell? ⟨g,k,none⟩=some (.int .u8 (r.op:Nat)):=(HB.out.cell (p:=⟨g,k,none⟩) hg1).trans (HC.out k r hr)
   have hop:=of_decide_eq_true (List.all_eq_true.1 op_lt r hm)
   have hof:=ops_of r.op wr hop (HT.out wr ((HB1.out.mono HHI.out).trans (HB.out.mono (Nat.le_trans HHI.out HB1.out.size))))
   have hans:ofAns r.op= .tuple #[.agg (opC r),.bool true]:=by unfold ofAns;rw [row_all r hm]
   rw [hans] at hof
   have HOF:=hideIt hof;have HR:=hideIt hr
   clear hof hans hm hr
   go_wp2_with fail
   refine HOF.out.mono ?_
   clear HOF
   rintro e w2 ⟨hb2,rfl⟩
   have HB2:=hideIt (HB.out.trans (hb2.mono HB.out.size))
   clear hb2
   unfold opC
   by_cases hw:r.word=s
   ·have hq:(r.word.toList==s.toList)=true:=by rw [hw];exact beq_self_eq_true _
    have hF:opFind s=some r:=find_at _ opTab k r HR.out (decide_eq_true hw) (fun j y hj hy=>decide_eq_false (HNE.out j y hj hy))
    have HF:Hid (findAns s= .tuple #[.int .u8 (r.op:Nat),.bool true]):=hideIt (by unfold findAns;rw [hF])
    clear hF hw
    go_wp2_with fail
    go_ret2
    exact⟨HB1.out.trans ((HB2.out.alloc HB2.out.size _).mono HB1.out.size),by rw [HF.out];rfl⟩
   ·have hq:(r.word.toList==s.toList)=false:=by
     rw [beq_eq_false_iff_ne,ByteArray.toList_eq,ByteArray.toList_eq]
     exact fun e=>hw (by cases hx:r.word;cases hy:s;rw [hx,hy] at e;simp at e;rw [e])
    have hnx: ∀j y,j<k+1→opTab[j]?=some y→y.word≠s:=by
     intro j y hj hy
     by_cases e:j=k
     ·subst e
      rw [HR.out] at hy
      injection hy with hy
      subst hy
      exact hw
     ·exact HNE.out j y (by omega) hy
    have HNX:=hideIt hnx
    clear hnx hw
    go_wp2_with fail
    exact⟨⟨k+1,by rw [hlen];omega,rfl,HB2.out.alloc HB2.out.size _,HNX.out⟩,by show 90-((k:Int)+1).toNat<90-(k:Int).toNat;omega⟩
  ·have d1:decide ((k:Int)<90)=false:=decide_eq_false (by omega)
   have hF:opFind s=none:=by
    unfold opFind
    rw [List.find?_eq_none]
    intro y hy
    obtain⟨j,hj,e⟩:=List.mem_iff_getElem.1 hy
    have:=HNE.out j y (by omega) (by rw [List.getElem?_eq_getElem hj,e])
    simpa using this
   have HF:Hid (findAns s= .tuple #[.int .u8 0,.bool false]):=hideIt (by unfold findAns;rw [hF])
   clear hF
   go_wp2_with fail
   go_ret2
   exact⟨HB1.out.trans (HB.out.mono HB1.out.size),by rw [HF.out];rfl⟩
theorem putIns_last (fs:List FnV) (f:FnV) (x:InsV):putIns (fs++ [f]) x=fs++ [{f with code:=f.code++ [x]}]:=by
 unfold putIns
 rw [List.getLast?_concat,List.dropLast_concat]
theorem FnO.own_at {B lo:Nat} {col:Nat→Nat} {W w3 w4:World} {gF c:Nat} {cells:List Value} {vc:Value} {fs:List FnV} {f:FnV} (h:FnO B lo col W (some ⟨gF,0,none⟩) c cells vc fs f) (hb:Below W.heap.size W w3) {v:Value} (hg:w3.grownBy w4 v.ownBlock) (hv: ∀g,v.ownBlock=some g→lo≤g∧g<W.heap.size):
 w4.frozen? ⟨gF,fs.length*3+2,none⟩=false∧w4.cell? ⟨gF,fs.length*3+2,none⟩=some vc:=by
 have h1:=own_keptz h.own hb
 have h2:=h1.kept hg (.inr (fun e=>by
  have e2:v.ownBlock=some gF:=e.symm
  have:=(hv gF e2).1
  have:=(h.at_ gF rfl).2
  omega))
 have hcl:cells.length=fs.length*3:=by
  have:=h.own.1
  rw [List.length_append] at this
  simp at this
  omega
 constructor
 ·rcases h2.2 with⟨_,h0⟩ | ⟨g,cap,cur,hv,_,hg,_⟩
  ·omega
  ·injection hv with e1
   injection e1 with e1
   injection e1 with e1
   subst e1
   exact Blk.frozen (xs:=cur.toList) (t:=56) hg _
 ·have:=h2.cells (g:=gF) rfl (fs.length*3+2) vc (by rw [List.getElem?_append,if_neg (by omega),show fs.length*3+2-cells.length=2 by omega];rfl)
  rwa [Addr.add_lit,Nat.zero_add] at this
section
variable {B b:Nat} {w w3 w4:World} {m:ModV} {ln:Nat} {fs:List FnV} {f:FnV} {lo:Nat} {col:Nat→Nat} {v1 v2 v3 v7 v8:Value} {gF c:Nat} {cells:List Value}
theorem RdO.push (vc:Value) {Ac:Option Addr} {cc:Nat} {cellsC:List Value} (h:RdO B b w m ln fs f lo col v1 v2 v3 v7 v8 (some ⟨gF,0,none⟩) c cells (.slice Ac f.code.length cc)) (hP:PrtC rIns 53 lo (fun _=>True) w Ac f.code.length cc cellsC f.code)
 (hb:Below w.heap.size w w3) {A':Option Addr} {c' l1 h1:Nat} {cs:List Value} {x:InsV} (hr:rIns.R w3 l1 h1 cs x) (hlo:w.heap.size≤l1) (hhi:h1≤w3.heap.size)
 (ho:w4.ownsRow lo 53 3 (.slice A' (f.code.length+1) c') (f.code.length+1) (cellsC++cs)) (hg:w3.grownBy w4 (Value.slice Ac f.code.length cc).ownBlock) (hat:(Value.slice A' (f.code.length+1) c').ownBlock=(Value.slice Ac f.code.length cc).ownBlock∨(Value.slice A' (f.code.length+1) c').ownBlock=some w3.heap.size):
 Keep (fun k=>k<B∧k≠b) w (w4.setCell ⟨gF,fs.length*3+2,none⟩ (.slice A' (f.code.length+1) c'))∧RdOpen B b (w4.setCell ⟨gF,fs.length*3+2,none⟩ (.slice A' (f.code.length+1) c')) {m with fns:=putIns m.fns x} ln:=by
 have hF:=h.fn
 have hlow:=h.low
 have htop:=h.top
 have hgF:=hF.at_ gF rfl
 have hgB:B≤gF:=(hF.own.lt gF rfl).1
 have hK:=push_keep (b:=gF) hb hg (fs.length*3+2) (.slice A' (f.code.length+1) c')
 have hcb: ∀k,(Value.slice Ac f.code.length cc).ownBlock=some k→lo≤k∧k<w.heap.size:=fun k e=>hP.lt k e
 have hlB:=hF.lo_
 have hhl:=hF.hi_
 have hsz34:w3.heap.size≤w4.heap.size:=hg.size
 have hszb:=hb.size
 have hKB: ∀k,k<w.heap.size→k<lo→k≠gF→(k≠gF∧(Value.slice Ac f.code.length cc).ownBlock≠some k):=fun k h1 h2 h3=>⟨h3,fun e=>by have:=(hcb k e).1;omega⟩
 refine⟨hK.mono0 fun k hk hk2=>hKB k hk (by omega) (by omega),?_⟩
 have hcolo: ∀k,k<w.heap.size→colU w col 9 k=col k:=fun k hk=>colU_old hk rfl
 have hc9: ∀k,k<w.heap.size→(col k=1∨col k=2∨col k=3∨col k=7∨col k=8∨col k=6)→k<lo:=fun k hk hc=>by
  refine Decidable.byContradiction fun hn=> ?_
  have:=hF.new k (by omega) hk
  omega
 have hsn:=hP.snoc hb (Nat.le_trans (Nat.le_refl _) hhl) hr hlo hhi ho hg hat (S':=fun _=>True) (fun _ _ _=>trivial) (fun _ _=>trivial)
 have hrow:w4.ownsRow B 56 3 (.slice (some ⟨gF,0,none⟩) (fs.length+1) c) (fs.length+1) (cells++ [.int .i64 f.t,.string f.loc,.slice Ac f.code.length cc]):=by
  have h1:=own_keptz hF.own hb
  exact h1.kept hg (.inr (fun e=>by
   have e2:(Value.slice Ac f.code.length cc).ownBlock=some gF:=e.symm
   have:=(hcb gF e2).1
   omega))
 have hst:=hrow.stored (fs.length*3+2) (.slice A' (f.code.length+1) c')
 have hcl:cells.length=fs.length*3:=by
  have:=hF.own.1
  rw [List.length_append] at this
  simp at this
  omega
 have hset:(cells++ [Value.int .i64 f.t,.string f.loc,.slice Ac f.code.length cc]).set (fs.length*3+2) (.slice A' (f.code.length+1) c')=cells++ [.int .i64 f.t,.string f.loc,.slice A' (f.code.length+1) c']:=by
  rw [List.set_append,if_neg (by omega),show fs.length*3+2-cells.length=2 by omega]
  rfl
 rw [hset] at hst
 have hl1:(f.code++ [x]).length=f.code.length+1:=by rw [List.length_append];rfl
 have hblk:Blk (w4.setCell ⟨gF,fs.length*3+2,none⟩ (.slice A' (f.code.length+1) c')) b 104 [v1,v2,v3,.int .i64 m.first,.int .i64 m.most,.slice (some ⟨gF,0,none⟩) (fs.length+1) c,v7,v8,.int .i64 (6:Nat),.int .i64 ln]:=
  h.blk.keep hK ⟨by omega,fun e=>by have:=(hcb b e).1;omega⟩
 refine⟨fs,{f with code:=f.code++ [x]},lo,colU w col 9,v1,v2,v3,v7,v8,some ⟨gF,0,none⟩,c,cells,.slice A' (f.code.length+1) c',⟨hblk,?_,⟨hst.1,?_,?_,hF.t,hF.loc,?_,hlB,Nat.le_trans hhl hK.size,?_⟩,?_,hlow,Nat.le_trans htop hK.size,h.first,h.most⟩⟩
 ·exact h.five.keep hK (fun k hBk hk hc=>hKB k hk (hc9 k hk (by omega)) (fun e=>by rw [e] at hc;omega)) _ (fun k hk _=>hcolo k hk) rfl rfl rfl rfl rfl
 ·intro g hg'
  have:=hF.at_ g hg'
  exact⟨by rw [hcolo g (by omega)];exact this.1,this.2⟩
 ·intro k y hk
  obtain⟨l,hh,g1,g2,g3,g4,g5⟩:=hF.els k y hk
  refine⟨l,hh,g1,g2,g3,fun g ha hb'=>by rw [hcolo g (by omega)];exact g4 g ha hb',?_⟩
  refine Rd.keepK (K:=fun k=>k≠gF∧(Value.slice Ac f.code.length cc).ownBlock≠some k) g5 hK (by omega) (fun k ha hb'=>hKB k (by omega) (by omega) (fun e=> ?_))
  have:=g3 gF rfl
  omega
 ·refine⟨A',c',cellsC++cs,by show _=Value.slice A' (f.code++ [x]).length c';rw [hl1],?_⟩
  show PrtC rIns 53 lo _ _ A' (f.code++ [x]).length c' (cellsC++cs) (f.code++ [x])
  rw [hl1]
  refine hsn.keep (K:=fun k=>k≠gF) ((Keep.refl _ w4).setCell (p:=⟨gF,fs.length*3+2,none⟩) (fun e=>e rfl) _) (fun k hk _ _=>by omega) (fun k _ e=>e)
 ·intro k hk hk2
  by_cases h2:k<w.heap.size
  ·rw [hcolo k h2];exact hF.new k hk h2
  ·exact colU_new (by omega)
 ·show putIns m.fns x=_
  rw [h.fns,putIns_last]
end
end Go.Proofs.YtebgikflpgcnlaaGreatDoor
