/- Part 45 of the proof: SnwA SnwB -/
import Derived.Deep.MidRow
import Derived.Stop.BytesEq
import Derived.Test.YtlagonfamllgjaaGreatDoorK19
namespace Go.Proofs.YtlagonfamllgjaaGreatDoor
set_option linter.unusedVariables false
set_option linter.unusedSimpArgs false
set_option maxRecDepth 100000
set_option maxHeartbeats 4000000
open Go.RowKit Tryz
structure SwV (W:World) (base g:Nat) (K:Nat→Prop) (l:List UInt8) (A:Option Addr) (c:Nat):Prop where
 blk:AQ W g 132 [.slice A l.length c,.bool false]
 own:Ey W base 5 (.slice A l.length c) l.length (l.map bv)
 low:base≤g
 kg: ¬K g
 apart: ∀k,(Value.slice A l.length c).ownBlock=some k→ ¬K k∧k≠g
 lt: ∀k,K k→k<W.heap.size
def Sw (W:World) (base g:Nat) (K:Nat→Prop) (l:List UInt8):Prop:= ∃A c,SwV W base g K l A c
section
variable {W W':World} {base g:Nat} {K:Nat→Prop} {l:List UInt8} {A:Option Addr} {c:Nat}
theorem SwV.Ee (h:SwV W base g K l A c) (hb:Below W.heap.size W W'):SwV W' base g K l A c:=
 ⟨h.blk.below hb h.blk.lt,h.own.SG hb,h.low,h.kg,h.apart,fun k hk=>Nat.lt_of_lt_of_le (h.lt k hk) hb.size⟩
theorem Sw.Ee (h:Sw W base g K l) (hb:Below W.heap.size W W'):Sw W' base g K l:=let ⟨A,c,h⟩:=h;⟨A,c,h.Ee hb⟩
theorem Sw.bad (h:Sw W base g K l):W.cell? ⟨g,1,none⟩=some (.bool false):=let ⟨_,_,h⟩:=h;h.blk.cell 1
theorem Sw.lt (h:Sw W base g K l):g<W.heap.size:=let ⟨_,_,h⟩:=h;h.blk.lt
theorem SwV.put (h:SwV W base g K l A c) {news:List UInt8} {A':Option Addr} {c' m:Nat} (hm:m=news.length) (hg:W.grownBy W' (Value.slice A l.length c).ownBlock)
 (ho:W'.ownsRow base 5 1 (.slice A' (l.length+m) c') (l.length+m) (l.map bv++news.map bv))
 (hb:(Value.slice A' (l.length+m) c').ownBlock=(Value.slice A l.length c).ownBlock∨(Value.slice A' (l.length+m) c').ownBlock=some W.heap.size):
 Keep K W (W'.setCell ⟨g,0,none⟩ (.slice A' (l.length+m) c'))∧Sw (W'.setCell ⟨g,0,none⟩ (.slice A' (l.length+m) c')) base g K (l++news):=by
 subst hm
 have hgl:=h.blk.lt
 have hap: ∀k,(Value.slice A' (l.length+news.length) c').ownBlock=some k→ ¬K k∧k≠g:=fun k hk=>by
  rcases hb with e | e
  ·exact h.apart k (e▸hk)
  ·rw [e] at hk;injection hk with hk;subst hk
   exact⟨fun hK=>by have:=h.lt _ hK;omega,by omega⟩
 have hblk:AQ W' g 132 [.slice A l.length c,.bool false]:=(hg.block g hgl (fun e=>(h.apart g e.symm).2 rfl)).trans h.blk
 refine⟨((Keep.refl K W).grown hg (fun k hk=>(h.apart k hk).1)).setCell h.kg _,A',c',⟨?_,?_,h.low,h.kg,?_,fun k hk=> ?_⟩⟩
 ·rw [List.length_append];exact hblk.set 0 _
 ·rw [List.length_append,List.map_append]
  exact .inl (BD ho (fun e=>(hap g e).2 rfl) _)
 ·rw [List.length_append];exact hap
 ·have h1:=h.lt k hk
  have h2:=hg.size
  simp [World.setCell];omega
end
def Wt (base g:Nat) (K:Nat→Prop) (l news:List UInt8) (w:World) (e:Ending) (w':World):Prop:=e= .returned (.tuple #[])∧Keep K w w'∧Sw w' base g K (l++news)
theorem JM (n most:Nat) (hn:n<9223372036854775808) (hm:n≤most) (base g:Nat) (K:Nat→Prop) (l:List UInt8) (w:World) (h:Sw w base g K l) (hl:l.length≤1099511627776) (hbase:base≤w.heap.size):
 Calls prog 67 #[.pointer (some ⟨g,0,none⟩),.int .i64 n,.int .u64 most] w (Wt base g K l (enc n) w):=by
 obtain⟨A,c,h⟩:=h
 have H:=AA h
 have hc0:=h.blk.q 0 rfl
 have hlt:=h.blk.lt
 have hf:=h.blk.frozen 0
 have henc:=AU n (by omega)
 have hwr:IntKind.u64.wrap (n:Int)=(n:Int):=by rw [IntKind.wrap_u64];omega
 have hn0: ¬(n:Int)<0:=by omega
 have hm0: ¬(most:Int)<n:=by omega
 clear h
 obtain⟨i0,hi0,hz,hs',hby⟩:=info_parts EJ
 go_enter func67,ntmps67
 go_wp2_with fail
 go_region_law
  (first
   | (go_simp;go_at_call 102;refine(Gd n (by omega) _).mono ?_;rintro e w1 ⟨A1,c1,rfl,h2,h3⟩;have hb1:Below w.heap.size w w1:=⟨h3.os,h3.tape,h3.output,h3.size,h3.block⟩;have HR:=AA (Row.own h2);have H1:=AA (H.out.Ee hb1);have HB1:=AA hb1;have Pt:Hid (Keep K w w1):=AA (Keep.DK hb1);have hc1:=H1.out.blk.q 0 rfl;have hf1:=H1.out.blk.frozen 0;clear h2 h3 hb1)
   | (refine Gc rfl (.tmp 21) (.tmp 24) 40 rfl base 5 i0 _ 1 underlying40 hi0 hz hs' hby rfl _ l.length (l.map bv) rfl (by exact H1.out.own) _ A1 (enc n).length c1 ((enc n).map bv) (E9 n) rfl (by rw [List.length_map,Nat.mul_one]) (by exact HR.out) (Ew _) (by unfold maxLen;omega) (by omega) (Nat.le_trans hbase HB1.out.size) ?_;intro A4 c4 w4 h2 h3 h4;have HP:=AA (H1.out.put rfl h3 h2 h4);have Xj:=(Av h3 H1.out.blk (fun e=>(H1.out.apart g e).2 rfl)).frozen 0;have hc4:=(Av h3 H1.out.blk (fun e=>(H1.out.apart g e).2 rfl)).cell 0;clear h2 h3 h4))
 all_goals
  go_end0
  exact⟨rfl,Pt.out.trans HP.out.1,HP.out.2⟩
def AE2 (vs:List Nat) (base g:Nat) (K:Nat→Prop) (l:List UInt8) (w:World) (i:Value) (wr:World):Prop:=
 ∃k:Nat,k≤vs.length∧i= .int .i64 k∧Keep K w wr∧Sw wr base g K (l++(enc vs.length++(vs.take k).flatMap enc))
theorem Kz {α:Type} {vs:List α} {f:α→List UInt8} {k:Nat} {x:α} (hx:vs[k]?=some x):(vs.take (k+1)).flatMap f=(vs.take k).flatMap f++f x:=by
 have hk:=(List.getElem?_eq_some_iff.1 hx).1
 rw [List.take_succ_eq_append_getElem hk,List.flatMap_append]
 rw [List.getElem?_eq_getElem hk] at hx
 injection hx with hx
 rw [hx]
 simp
theorem Wu {vs:List Nat} (hv: ∀x∈vs,Rd.XK x):(vs.flatMap enc).length≤10*vs.length:=by
 induction vs with
 | nil=>simp
 | cons x xs ih=>
  rw [List.flatMap_cons,List.length_append,List.length_cons]
  have:=AU x (hv x (by simp))
  have:=ih (fun y hy=>hv y (by simp [hy]))
  omega
theorem NW (vs:List Nat) (A0:Option Addr) (c0 most lo hi:Nat) (hm:vs.length≤most) (hmm:vs.length≤1000) (base g:Nat) (K:Nat→Prop) (l:List UInt8) (w:World) (hr:(Rd.u64.sl false).R w lo hi [.slice A0 vs.length c0] vs) (hhi:hi≤w.heap.size) (hK: ∀k,lo≤k→k<hi→K k)
 (h:Sw w base g K l) (hl:l.length≤549755813888) (hbase:base≤w.heap.size):
 Calls prog 68 #[.pointer (some ⟨g,0,none⟩),.slice A0 vs.length c0,.int .u64 most] w (Wt base g K l (BS vs) w):=by
 have H:=AA h;have HR:=AA hr;have HK:=AA hK
 clear h hr hK
 obtain⟨i0,hi0,hz,hs',hby⟩:=info_parts EJ
 have henc:=AU vs.length (by omega)
 go_enter func68,ntmps68
 go_wp2_with fail
 refine(JM vs.length most (by omega) hm base g K l w H.out (by omega) hbase).mono ?_
 rintro e w1 ⟨rfl,hk1,hs1⟩
 have Pt:=AA hk1;have RG:=AA hs1
 have hbad:=hs1.bad
 clear hk1 hs1
 go_wp2_with fail
 go_loopw [19] (fun i wr=>AE2 vs base g K l w i wr) (fun i _=>vs.length-(intOf i).toNat)
 case atStart=>exact⟨0,Nat.zero_le _,rfl,Pt.out,by simpa using RG.out⟩
 case round=>
  obtain⟨k,hk,rfl,hkp,hsw⟩:=hrel
  have RN:=AA hkp;have dU:=AA hsw
  clear hkp hsw hbad
  by_cases hlt:k<vs.length
  ·obtain⟨x,hx⟩: ∃x,vs[k]?=some x:=⟨_,List.getElem?_eq_getElem hlt⟩
   have hB:Rd.XK x:=Rd.Hw HR.out x (List.mem_of_getElem? hx)
   obtain⟨b,o,rfl,_,hcell⟩:=(Rd.GV (Rd.C8 HR.out RN.out hhi HK.out)).2.word (j:=k) (by rw [←(Rd.GV HR.out).1];exact hlt)
   rw [hx] at hcell
   have HX:=AA hx
   have hk0:(0:Int)≤k:=by omega
   have hfl:=Wu (vs:=vs.take k) (fun y hy=>Rd.Hw HR.out y (List.mem_of_mem_take hy))
   have HL:Hid ((l++(enc vs.length++(vs.take k).flatMap enc)).length≤1099511627776):=AA (by rw [List.length_append,List.length_append];rw [List.length_take] at hfl;omega)
   have HT:Hid ((l++(enc vs.length++(vs.take k).flatMap enc))++enc x=l++(enc vs.length++(vs.take (k+1)).flatMap enc)):=AA (by rw [Kz hx];simp)
   clear hx hfl
   obtain⟨A,c,h⟩:=dU.out
   have H:=AA h
   generalize l++(enc vs.length++(vs.take k).flatMap enc)=L at*
   have hc0:=h.blk.q 0 rfl
   have AE3:=h.blk.lt
   have hf:=h.blk.frozen 0
   have hex:=AU x hB
   have hll:=HL.out
   have Ws:base≤wr.heap.size:=Nat.le_trans hbase RN.out.size
   clear h
   go_wp2_with fail
   go_region_law
    (first
     | (go_simp;go_at_call 102;refine(Gd x hB _).mono ?_;rintro e w2 ⟨A1,c1,rfl,h2,h3⟩;have hb1:Below wr.heap.size wr w2:=⟨h3.os,h3.tape,h3.output,h3.size,h3.block⟩;have HRX:=AA (Row.own h2);have H1:=AA (H.out.Ee hb1);have HB1:=AA hb1;have Iu:Hid (Keep K wr w2):=AA (Keep.DK hb1);have hc1:=H1.out.blk.q 0 rfl;have hf1:=H1.out.blk.frozen 0;clear h2 h3 hb1)
     | (refine Gc rfl (.tmp 27) (.tmp 29) 40 rfl base 5 i0 _ 1 underlying40 hi0 hz hs' hby rfl _ L.length (L.map bv) rfl (by exact H1.out.own) _ A1 (enc x).length c1 ((enc x).map bv) (E9 x) rfl (by rw [List.length_map,Nat.mul_one]) (by exact HRX.out) (Ew _) (by unfold maxLen;omega) (by omega) (Nat.le_trans Ws HB1.out.size) ?_;intro A4 c4 w4 h2 h3 h4;have HP:=AA (H1.out.put rfl h3 h2 h4);have Xj:=(Av h3 H1.out.blk (fun e=>(H1.out.apart g e).2 rfl)).frozen 0;have hc4:=(Av h3 H1.out.blk (fun e=>(H1.out.apart g e).2 rfl)).cell 0;clear h2 h3 h4))
   all_goals
    go_wp2_with fail
    refine⟨⟨k+1,by omega,by go_num,(RN.out.trans Iu.out).trans HP.out.1,?_⟩,by simp [intOf];omega⟩
    rw [←HT.out]
    exact HP.out.2
  ·obtain rfl:vs.length=k:=by omega
   go_wp2_with fail
   go_end0
   refine⟨rfl,RN.out,?_⟩
   have:=dU.out
   rw [List.take_length] at this
   exact this
theorem ig:(prog.info? 163).map (·.size)=some 4096:=by kernel_rfl
theorem wJ (W:World):(sizeOf 5).run prog W= .ok 1 W:=by kernel_rfl
theorem wK:zeroCells163=(CB.map bv).toArray:=by kernel_rfl
theorem AE4 {p:List UInt8} (hp:p.length=4096):(!(p==CB))=XW p:=by
 have h: ∀(n:Nat) (p:List UInt8),p.length=n→(!(p==List.replicate n 0))=p.any (fun c=>c !=0):=by
  intro n
  induction n with
  | zero=>intro p hp;rw [List.length_eq_zero_iff.1 hp];rfl
  | succ n ih=>
   intro p hp
   cases p with
   | nil=>cases hp
   | cons c p=>
    rw [List.any_cons,←ih p (by simpa using hp),List.replicate_succ,List.cons_beq_cons,Bool.not_and]
    rfl
 exact h 4096 p hp
theorem wL {p:List UInt8} (hp:p.length=4096) (W:World):(Op.equalIn 10000 163 (.agg (p.map bv).toArray) (.agg zeroCells163)).run prog W= .ok (!XW p) W:=by
 have hb:bv=Extern.Stop.cell:=rfl
 rw [wK,hb,run_equalIn_bytes W 9998 163 5 4096 underlying163 underlying5 wJ p CB hp (List.length_replicate ..),←AE4 hp,Bool.not_not]
theorem o_ (A:Option Addr) (c:Nat) (W:World):(Instr.arrayAt 163 (.slice A 4096 c)).run prog W= .ok (.pointer A) W:=by
 simp [Instr.arrayAt,run_underlying underlying163]
theorem Tn {P:Program} {ops:Array Oper} {rest:List Oper} {op:Oper} {a:Act} {w:World} {Q:Exit→Act→World→Prop} (hg:Region.wanted op (yielded ops a.tmps)=true) (ty:TypeId) (x:Operand) (ho:op.op= .load ty x)
 (b o:Nat) (hx:a.eval x= .pointer (some ⟨b,o,none⟩)) (cs:List Value) (d:TypeDesc) (hc:w.rangeAt b o cs)
 (hu:P.underlying ty=some d) (hd:d.isRow=true) (hi:(P.info? ty).map (·.size)=some cs.length)
 (h:wpList P ops Q rest (a.put op.dst (.agg cs.toArray)) w):wpList P ops Q (op::rest) a w:=
 BigFrame.wpList_want hg fun _ hK=>wp_load_mid ty x ho b o hx cs d hc hu hd hi (hK _ _ h)
theorem Sw.with_ {w1 w2:World} {base g:Nat} {K P:Nat→Prop} {l:List UInt8} (h:Sw w1 base g K l) (hb:Below w1.heap.size w1 w2) (hv: ∀k,P k→w1.heap.size≤k∧k<w2.heap.size):Sw w2 base g (fun k=>K k∨P k) l:=by
 obtain⟨A,c,h⟩:=h
 have hl:=h.own.lt
 refine⟨A,c,h.blk.below hb h.blk.lt,h.own.SG hb,h.low,fun hk=> ?_,fun k hk=>⟨fun hk2=> ?_,(h.apart k hk).2⟩,fun k hk=> ?_⟩
 ·rcases hk with hk | hk
  ·exact h.kg hk
  ·have:=(hv _ hk).1;have:=h.blk.lt;omega
 ·rcases hk2 with hk2 | hk2
  ·exact(h.apart k hk).1 hk2
  ·have:=(hv _ hk2).1;have:=(hl _ hk).2;omega
 ·rcases hk with hk | hk
  ·exact Nat.lt_of_lt_of_le (h.lt k hk) hb.size
  ·exact(hv _ hk).2
theorem Sw.less {w:World} {base g:Nat} {K K':Nat→Prop} {l:List UInt8} (h:Sw w base g K' l) (hk: ∀k,K k→K' k):Sw w base g K l:=
 let ⟨A,c,h⟩:=h;⟨A,c,h.blk,h.own,h.low,fun x=>h.kg (hk _ x),fun k x=>⟨fun y=>(h.apart k x).1 (hk _ y),(h.apart k x).2⟩,fun k x=>h.lt k (hk _ x)⟩
theorem Wv {l:List (List UInt8)} (hp: ∀p∈l,p.length=4096) (ix:List Nat) (hx: ∀i∈ix,i<64):(ix.flatMap (OD l)).length≤5000*ix.length:=by
 induction ix with
 | nil=>simp
 | cons i ix ih=>
  rw [List.flatMap_cons,List.length_append,List.length_cons]
  have h1:=AU i (by have:=hx i (by simp);omega)
  have h2:(l[i]?.getD []).length≤4096:=by
   cases h:l[i]? with
   | none=>simp
   | some p=>have:=hp p (List.mem_of_getElem? h);simp;omega
  have h3:=ih (fun j hj=>hx j (by simp [hj]))
  unfold OD at*
  rw [List.length_append]
  omega
def wM (n:Nat):Value:= .int .i64 (n:Int)
def AE5 (l:List (List UInt8)) (w1:World) (v i:Value) (wr:World):Prop:=
 ∃(k:Nat) (A:Option Addr) (c:Nat),k≤l.length∧i= .int .i64 k∧v= .slice A (Bu l k).length c∧wr.ownsRow w1.heap.size 3 1 (.slice A (Bu l k).length c) (Bu l k).length ((Bu l k).map wM)∧Below w1.heap.size w1 wr
theorem pE (l:List (List UInt8)) (A0:Option Addr) (c0 lo hi:Nat) (hm:l.length≤64) (hp: ∀p∈l,p.length=4096) (base g:Nat) (K:Nat→Prop) (b:List UInt8) (w:World) (hr:((Rd.u8.sl false).sl false).R w lo hi [.slice A0 l.length c0] l) (hhi:hi≤w.heap.size) (hK: ∀k,lo≤k→k<hi→K k)
 (h:Sw w base g K b) (hl:b.length≤274877906944) (hbase:base≤w.heap.size):
 Calls prog 69 #[.pointer (some ⟨g,0,none⟩),.slice A0 l.length c0] w (Wt base g K b (Oz l) w):=by
 have H:=AA h;have HR:=AA hr;have HK:=AA hK;have HP:=AA hp
 clear h hr hK hp
 have henc:=AU l.length (by omega)
 have har:=o_
 obtain⟨i0,Ms,Mt,Mv,Il⟩:=info_parts Jk
 have Hi0:=AA Ms;have Hz0:=AA Mt;have Hs0:=AA Mv;have aW:=AA Il
 clear Ms Mt Mv Il
 go_enter func69,ntmps69
 go_wp2_with fail
 refine(JM l.length 64 (by omega) hm base g K b w H.out (by omega) hbase).mono ?_
 rintro e w1 ⟨rfl,hk1,hs1⟩
 have Pt:=AA hk1;have RG:=AA hs1
 have hbad:=hs1.bad
 have HR1:=AA (Rd.C8 HR.out hk1 hhi HK.out)
 have hz1:=hk1.size
 clear hk1 hs1
 go_wp2_with fail
 go_loopw [4,19] (fun v i wr=>AE5 l w1 v i wr) (fun _ i _=>l.length-(intOf i).toNat)
 case atStart=>exact⟨0,none,0,Nat.zero_le _,rfl,rfl,World.ownsRow_nil _ _ _ _,Below.refl _ _⟩
 case round=>
  obtain⟨k,A,c,hk,rfl,rfl,hown,hbel⟩:=hrel
  have HO:=AA hown;have HB:=AA hbel
  have hix:=MQ l k
  have UZ:=hbel.size
  clear hown hbel hbad
  by_cases hlt:k<l.length
  ·obtain⟨p,hpk⟩: ∃p,l[k]?=some p:=⟨_,List.getElem?_eq_getElem hlt⟩
   have hpl:=HP.out p (List.mem_of_getElem? hpk)
   obtain⟨bb,o,eA,_,Oe,cs',hc',hr'⟩:=DC (Rd.below HR1.out HB.out (Nat.le_trans hhi hz1)) hpk
   subst eA
   obtain⟨v',rfl,hr'⟩:=Co hr'
   obtain⟨A',c',rfl⟩:=AB hr'
   have f0:wr.cell? ⟨bb,o+k,none⟩=some (.slice A' p.length c'):=by have:=hc' 0 _ rfl;simpa [Rd.sl] using this
   rw [hpl] at f0 hr'
   obtain⟨b2,o2,rfl,_,hcell⟩:=(Rd.GV hr').2 (by rw [List.length_map];omega)
   have HC:Hid (wr.rangeAt b2 o2 (p.map bv)):=AA (fun j v hv=>hcell j v hv)
   have HI:Hid ((prog.info? 163).map (·.size)=some (p.map bv).length):=by rw [List.length_map,hpl];exact AA ig
   have hk0:(0:Int)≤k:=by omega
   have hk1:(k:Int)<l.length:=by omega
   have hq:=wL hpl
   have HN:Hid (Bu l (k+1)=if XW p=true then Bu l k++ [k] else Bu l k):=AA (by rw [NH];unfold ZV;rw [hpk])
   clear hpk hc' hr' hcell Oe
   generalize XW p=bb1 at*
   cases bb1 with
   | false=>
    rw [if_neg (by simp)] at HN
    go_wp2_with (refine Tn rfl 163 _ rfl b2 o2 rfl (p.map bv) _ HC.out underlying163 rfl HI.out ?_)
    exact⟨⟨k+1,A,c,by omega,by go_num,by rw [HN.out],by rw [HN.out];exact HO.out,HB.out⟩,by simp [intOf];omega⟩
   | true=>
    rw [if_pos rfl] at HN
    have HL:Hid ((Bu l (k+1)).length=(Bu l k).length+1):=AA (by rw [HN.out,List.length_append];rfl)
    have HM:Hid ((Bu l (k+1)).map wM=(Bu l k).map wM++ [.int .i64 (k:Int)]):=AA (by rw [HN.out,List.map_append];rfl)
    have Ir:=AA (row_one wr (.int .i64 (k:Int)) 3)
    clear HN
    go_wp2_with (first
     | refine Tn rfl 163 _ rfl b2 o2 rfl (p.map bv) _ HC.out underlying163 rfl HI.out ?_
     | (at_builtin;refine BP _ rfl _ _ 23 rfl w1.heap.size 3 i0 _ 1 8 underlying23 Hi0.out Hz0.out Hs0.out aW.out rfl (by omega) _ (Bu l k).length ((Bu l k).map wM) rfl (HO.out.alloc _) (wr.heap.size+1) _ 1 1 [.int .i64 (k:Int)] rfl rfl Ir.out (by simp [Value.oneCell']) (by unfold maxLen;omega) (by omega) (by simp;omega) ?_;intro A6 c6 w6 h2 h3 h4;have H2:=AA h2;have H3:=AA h3;clear h2 h3 h4))
    refine⟨⟨k+1,A6,c6,by omega,by go_num,by rw [HL.out],by rw [HL.out,HM.out];exact H2.out,(HB.out.alloc UZ _).trans (BK (HO.out.alloc _) H3.out (by simp;omega))⟩,by simp [intOf];omega⟩
  ·obtain rfl:l.length=k:=by omega
   have AE6:=AA (RG.out.with_ (P:=fun k=>(Value.slice A (Bu l l.length).length c).ownBlock=some k) HB.out HO.out.lt)
   have gG:Hid (Keep K w wr):=AA (Pt.out.trans (Keep.DK HB.out))
   have HRr:=AA (Rd.below HR1.out HB.out (Nat.le_trans hhi hz1))
   have HZX:Hid (∀i∈Bu l l.length,i<l.length):=AA (fun i hi=>RY hi)
   have HTG:Hid ((b++enc l.length)++enc (Bu l l.length).length++(Bu l l.length).flatMap (OD l)=b++Oz l):=AA (by unfold Oz;simp)
   have Me:=AA (Wv HP.out)
   have hKK:=HK.out
   obtain⟨K2,hK2⟩: ∃K2:Nat→Prop,K2=fun k=>K k∨(Value.slice A (Bu l l.length).length c).ownBlock=some k:=⟨_,rfl⟩
   rw [←hK2] at AE6
   have HKK:Hid (∀k,K k→K2 k):=AA (fun k hk=>by rw [hK2];exact .inl hk)
   have HKO:Hid (∀k,(Value.slice A (Bu l l.length).length c).ownBlock=some k→K2 k):=AA (fun k hk=>by rw [hK2];exact .inr hk)
   have hbr:base≤wr.heap.size:=by omega
   have hhr:hi≤wr.heap.size:=by omega
   clear hK2 HB HR HR1 RG H Pt
   go_wp2_with fail
   have hbl:(b++enc l.length).length≤274877907944:=by rw [List.length_append];omega
   refine(JM (Bu l l.length).length 64 (by omega) (by omega) base g K2 (b++enc l.length) wr AE6.out (by omega) hbr).mono ?_
   rintro e w2 ⟨rfl,hk2,hs2⟩
   have hen2:=AU (Bu l l.length).length (by omega)
   have Iu:=AA hk2;have HS2:=AA hs2
   have HO2:=AA (DZ HO.out hk2 HKO.out)
   have hbl2:(b++enc l.length++enc (Bu l l.length).length).length≤274877917944:=by rw [List.length_append];omega
   clear hk2 hs2 hbl
   generalize b++enc l.length++enc (Bu l l.length).length=bx at*
   clear henc hen2
   go_wp2_with fail
   generalize hix2:Bu l l.length=ix at*
   clear hix2
   obtain⟨wo,rfl⟩: ∃wo:World,wo=wr:=⟨_,rfl⟩
   go_loopw [46] (fun i wq=> ∃k:Nat,k≤ix.length∧i= .int .i64 k∧Keep K2 wo wq∧Sw wq base g K2 (bx++(ix.take k).flatMap (OD l))) (fun i _=>ix.length-(intOf i).toNat)
   case atStart=>exact⟨0,Nat.zero_le _,rfl,Iu.out,by simpa using HS2.out⟩
   case round=>
    obtain⟨k,hk,rfl,hkp,hsw⟩:=hrel
    have RN:=AA hkp;have dU:=AA hsw
    have HOr:=AA (DZ HO.out hkp HKO.out)
    have HRw:=AA (Rd.C8 HRr.out hkp hhr (fun k h1 h2=>HKK.out k (HK.out k h1 h2)))
    have hzw:=hkp.size
    clear hkp hsw
    by_cases hlt:k<ix.length
    ·obtain⟨j,hj⟩: ∃j,ix[k]?=some j:=⟨_,List.getElem?_eq_getElem hlt⟩
     have hjl:=HZX.out j (List.mem_of_getElem? hj)
     have AE8: ∀i∈ix.take k,i<64:=fun i hi=>by have:=HZX.out i (List.mem_of_mem_take hi);omega
     have hfl:=Me.out (ix.take k) AE8
     have HT:Hid ((bx++(ix.take k).flatMap (OD l))++OD l j=bx++(ix.take (k+1)).flatMap (OD l)):=AA (by rw [Kz hj,List.append_assoc])
     obtain⟨g2,o2,eA,_,hcell⟩:=(Row.own HOr.out).at (j:=k) (u:= .int .i64 (j:Int)) (by rw [List.getElem?_map,hj];rfl)
     obtain⟨p,hpk⟩: ∃p,l[j]?=some p:=⟨_,List.getElem?_eq_getElem hjl⟩
     have hpl:=HP.out p (List.mem_of_getElem? hpk)
     have HPB:Hid (OD l j=enc j++p):=AA (by unfold OD;rw [hpk];rfl)
     have HPK:=AA hpk
     have hj10:=AU j (by omega)
     have hL:(bx++(ix.take k).flatMap (OD l)).length≤274878317944:=by rw [List.length_append];rw [List.length_take] at hfl;omega
     have hk0:(0:Int)≤k:=by omega
     subst eA
     clear hj hfl AE8 hpk
     generalize yJ:bx++(ix.take k).flatMap (OD l)=L at*
     clear yJ
     go_wp2_with fail
     refine(JM j 64 (by omega) (by omega) base g K2 L wr dU.out (by omega) (Nat.le_trans hbr hzw)).mono ?_
     rintro e w3 ⟨rfl,hk3,hs3⟩
     have Lp:=AA hk3
     obtain⟨bb,ob,eA,_,Oe,cs',hc',hr'⟩:=DC (Rd.C8 HRw.out hk3 (Nat.le_trans hhr hzw) (fun k h1 h2=>HKK.out k (HK.out k h1 h2))) HPK.out
     subst eA
     obtain⟨v',rfl,hr'⟩:=Co hr'
     obtain⟨A',c',rfl⟩:=AB hr'
     have f0:w3.cell? ⟨bb,ob+j,none⟩=some (.slice A' p.length c'):=by have:=hc' 0 _ rfl;simpa [Rd.sl] using this
     rw [hpl] at f0 hr'
     have iB:=AA (Rd.GV hr').2
     obtain⟨A,c,h⟩:=hs3
     have H:=AA h
     have Qs:(L++enc j).length≤274878317954:=by rw [List.length_append];omega
     generalize hLg:L++enc j=LJ at*
     have hc0:=h.blk.q 0 rfl
     have AE3:=h.blk.lt
     have hf:=h.blk.frozen 0
     have Ws:base≤w3.heap.size:=Nat.le_trans (Nat.le_trans hbr hzw) hk3.size
     have hj0:(0:Int)≤j:=by omega
     have hjI:(j:Int)<l.length:=by omega
     obtain⟨i1,hi1,Wi,Wj,ABB⟩:=info_parts EJ
     clear h hk3 hc' hr' Oe hcell
     go_wp2_with fail
     go_region_law
      (first
       | (refine Gc rfl (.tmp 57) (.tmp 61) 40 rfl base 5 i1 _ 1 underlying40 hi1 Wi Wj ABB rfl _ LJ.length (LJ.map bv) rfl (by exact H.out.own) _ A' 4096 c' (p.map bv) (by omega) rfl (by rw [List.length_map,Nat.mul_one];exact hpl) (by exact iB.out) (Ew _) (by unfold maxLen;omega) (by omega) Ws ?_;intro A4 c4 w4 h2 h3' h4;have h3:w3.grownBy w4 (Value.slice A LJ.length c).ownBlock:=⟨h3'.os,h3'.tape,h3'.output,h3'.size,h3'.block⟩;have jY:=AA (H.out.put hpl.symm h3 h2 h4);have Xj:=(Av h3 H.out.blk (fun e=>(H.out.apart g e).2 rfl)).frozen 0;have hc4:=(Av h3 H.out.blk (fun e=>(H.out.apart g e).2 rfl)).cell 0;clear h2 h3 h3' h4))
     all_goals
      go_wp2_with fail
      refine⟨⟨k+1,by omega,by go_num,(RN.out.trans Lp.out).trans jY.out.1,?_⟩,by simp [intOf];omega⟩
      rw [←HT.out,HPB.out,←List.append_assoc,hLg]
      exact jY.out.2
    ·obtain rfl:ix.length=k:=by omega
     go_wp2_with fail
     go_end0
     refine⟨rfl,gG.out.trans (RN.out.mono HKK.out),?_⟩
     rw [←HTG.out]
     have:=dU.out
     rw [List.take_length] at this
     exact this.less HKK.out
end Go.Proofs.YtlagonfamllgjaaGreatDoor
