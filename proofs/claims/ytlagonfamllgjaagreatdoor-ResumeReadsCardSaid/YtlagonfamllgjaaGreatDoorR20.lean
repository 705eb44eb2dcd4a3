/- Part 20 of the proof: VdL VdO -/
import Derived.Test.YtlagonfamllgjaaGreatDoorR10
import Derived.Test.YtlagonfamllgjaaGreatDoorR18
import Derived.Test.YtlagonfamllgjaaGreatDoorR19
namespace Go.Proofs.YtlagonfamllgjaaGreatDoor
set_option linter.unusedVariables false
set_option linter.unusedSimpArgs false
set_option maxRecDepth 100000
set_option maxHeartbeats 4000000
open Go.RowKit Tryz
theorem Ag.then_ {m:AP} {f:Bt} {AB:List Int} {p:Nat} {st:Cm} {y:Ad} {w w1 w':World} {lo g:Nat} {x:Fx} {e:Ending} (hb:Below lo w w1) (h:Ag m f AB p st y w1 w' lo g x e):Ag m f AB p st y w w' lo g x e:=⟨hb.trans h.1,h.2⟩
theorem gK {c:Nat} (h:MQ c=true):c=119∨c=108:=by unfold MQ at h;simpa using h
theorem sM: ∀r∈Dk,r.pops.size≤8∧r.pushes.size≤8:=by
 have h:Dk.all (fun r=>decide (r.pops.size≤8∧r.pushes.size≤8))=true:=by kernel_rfl
 exact fun r hr=>of_decide_eq_true (List.all_eq_true.1 h r hr)
structure Gv (m:AP) (f:Bt) (AB:List Int) (p:Nat) (st:Cm) (y:Ad) (lo hi g:Nat) (x:Fx) (w:World) (v:Value):Prop where
 inn:EM m f p st y lo hi g x w
 els:Sq w lo x AB
 few:AB.length≤1000000
 live:Ah y.op=false→st.dead=false
 shut:Ah y.op=true→st.dead=true→st.shape=(Bg st).base++(Bg st).s.r
 opn: ∀o∈st.op,o.o.toNat=4→ ∃q:Nat,o.pc=q∧q<AB.length
 lab:(Rd.i64.sl false).R w 0 hi [v] y.l
 tab: ∀w',Below hi w w'→Lib.TabIs prog w' "strings.asciiSpace" .u8 Lib.asciiSpaceTab
section
variable {m:AP} {f:Bt} {AB:List Int} {p:Nat} {st:Cm} {y:Ad} {lo hi g:Nat} {x:Fx} {w:World} {v:Value}
theorem Gv.boxed (h:Gv m f AB p st y lo hi g x w v):Below lo w (w.alloc (.cells #[.int .u8 (y.op.toNat:Int),.int .i64 y.a,v] 122))∧Gv m f AB p st y lo hi g x (w.alloc (.cells #[.int .u8 (y.op.toNat:Int),.int .i64 y.a,v] 122)) v:=by
 obtain⟨hb,h1⟩:=h.inn.boxed v
 exact⟨hb,h1,h.els.below hb,h.few,h.live,h.shut,h.opn,Rd.below h.lab hb h.inn.hhi,fun w' hw'=>h.tab w' ((hb.mono h.inn.hhi).trans hw')⟩
theorem AC2 (h:Gv m f AB p st y lo hi g x w v) (hop:y.op.toNat=2∨y.op.toNat=3∨y.op.toNat=4):
 Calls prog 164 #[.pointer (some ⟨g,0,none⟩),.agg #[.int .u8 (y.op.toNat:Int),.int .i64 y.a,v]] w fun e w'=>Ag m f AB p st y w w' lo g x e:=by
 by_cases hi0:Eo y.a m.types.length=true
 ·obtain⟨k,hya,hkl⟩:=Fw hi0
  exact WL v y w h.inn hop k _ hya (List.getElem?_eq_getElem hkl) (h.live (by unfold Ah;exact decide_eq_false (by omega)))
 ·exact YE v y w h.inn hop (by simpa using hi0)
theorem AC3 (h:Gv m f AB p st y lo hi g x w v) (hop:y.op.toNat=5∨y.op.toNat=6):
 Calls prog 165 #[.pointer (some ⟨g,0,none⟩),.agg #[.int .u8 (y.op.toNat:Int),.int .i64 y.a,v]] w fun e w'=>Ag m f AB p st y w w' lo g x e:=by
 have hcl:Ah y.op=true:=by unfold Ah;exact decide_eq_true (by omega)
 exact sK v y w h.inn hcl h.els h.few (h.shut hcl) h.opn
theorem AC4 (h:Gv m f AB p st y lo hi g x w v) (hop:y.op.toNat=0∨y.op.toNat=7∨y.op.toNat=8∨y.op.toNat=9∨y.op.toNat=10):
 Calls prog 166 #[.pointer (some ⟨g,0,none⟩),.agg #[.int .u8 (y.op.toNat:Int),.int .i64 y.a,v]] w fun e w'=>Ag m f AB p st y w w' lo g x e:=by
 have hd:=(h.live (by unfold Ah;exact decide_eq_false (by omega)))
 rcases hop with hop | hop | hop | hop | hop
 ·exact WM v y w h.inn hop hd
 ·exact WO v y w h.inn hop hd
 ·exact WQ v y w h.inn hop hd
 ·exact WR v y w h.inn hop hd h.lab
 ·exact Tz v y w h.inn hop hd
theorem AC5 (h:Gv m f AB p st y lo hi g x w v) (hop:y.op.toNat=11∨y.op.toNat=12):
 Calls prog 167 #[.pointer (some ⟨g,0,none⟩),.agg #[.int .u8 (y.op.toNat:Int),.int .i64 y.a,v]] w fun e w'=>Ag m f AB p st y w w' lo g x e:=by
 by_cases hi0:y.op.toNat=11∧Eo y.a m.fns.length=true∨y.op.toNat=12∧Eo y.a m.hosts.length=true
 ·exact WG v y w h.inn hi0 (h.live (by unfold Ah;exact decide_eq_false (by omega)))
 have hi1:y.op.toNat=11∧Eo y.a m.fns.length=false∨y.op.toNat=12∧Eo y.a m.hosts.length=false:=by
  rcases hop with hop | hop
  ·exact .inl ⟨hop,Bool.eq_false_iff.2 fun e=>hi0 (.inl ⟨hop,e⟩)⟩
  ·exact .inr ⟨hop,Bool.eq_false_iff.2 fun e=>hi0 (.inr ⟨hop,e⟩)⟩
 refine YC v y w h.inn hi1 ?_
 have hrow:(Au y.op.toNat).map (·.plain)=some false:=by rcases hop with hop | hop<;>rw [hop]<;>kernel_rfl
 obtain⟨WH,hr1,hr2⟩:=Option.map_eq_some_iff.1 hrow
 unfold BN Cn
 rw [hr1]
 rcases hi1 with⟨hop,hi⟩ | ⟨hop,hi⟩<;>simp [hop,hr2,hi]
theorem AC6 (h:Gv m f AB p st y lo hi g x w v) (hop:y.op.toNat=16∨y.op.toNat=17):
 Calls prog 168 #[.pointer (some ⟨g,0,none⟩),.agg #[.int .u8 (y.op.toNat:Int),.int .i64 y.a,v]] w fun e w'=>Ag m f AB p st y w w' lo g x e:=by
 have hd:=(h.live (by unfold Ah;exact decide_eq_false (by omega)))
 rcases hop with hop | hop
 ·by_cases ha:1≤(AV st).size
  ·exact Sm v y w h.inn hop hd ha
  ·exact Tw v y w h.inn hop hd ha
 ·by_cases ha:3≤(AV st).size
  ·exact Sn v y w h.inn hop hd ha
  ·exact Tx v y w h.inn hop hd ha
theorem AC7 (h:Gv m f AB p st y lo hi g x w v) (hop:y.op.toNat=18∨y.op.toNat=19∨y.op.toNat=20∨y.op.toNat=21∨y.op.toNat=22):
 Calls prog 169 #[.pointer (some ⟨g,0,none⟩),.agg #[.int .u8 (y.op.toNat:Int),.int .i64 y.a,v]] w fun e w'=>Ag m f AB p st y w w' lo g x e:=by
 have hd:=(h.live (by unfold Ah;exact decide_eq_false (by omega)))
 by_cases hlo:y.op.toNat=18∨y.op.toNat=19∨y.op.toNat=20
 ·by_cases hi0:Eo y.a (C8 m f).size=true
  ·exact Tt v y w h.inn hlo hi0 hd
  ·exact WJ v y w h.inn hlo (by simpa using hi0)
 have hgl:y.op.toNat=21∨y.op.toNat=22:=by omega
 by_cases hi0:Eo y.a m.globs.length=true
 ·obtain⟨k,hya,hkl⟩:=Fw hi0
  obtain⟨gv,hgv⟩: ∃gv,m.globs[k]?=some gv:=⟨_,List.getElem?_eq_getElem hkl⟩
  have hl:=gK (h.inn.Yn.glob gv (List.mem_of_getElem? hgv))
  exact Tv v y w h.inn hgl gv k hya hgv hd hl
 ·exact WK v y w h.inn hgl (by simpa using hi0)
theorem sN (h:Gv m f AB p st y lo hi g x w v) (hc:y.op.toNat=2∨y.op.toNat=3∨y.op.toNat=4∨y.op.toNat=5∨y.op.toNat=6∨y.op.toNat=0∨y.op.toNat=7∨y.op.toNat=8∨y.op.toNat=9∨y.op.toNat=10∨y.op.toNat=11∨y.op.toNat=12∨y.op.toNat=16∨y.op.toNat=17∨y.op.toNat=18∨y.op.toNat=19∨y.op.toNat=20∨y.op.toNat=21∨y.op.toNat=22):
 Calls prog 135 #[.pointer (some ⟨g,0,none⟩),.agg #[.int .u8 (y.op.toNat:Int),.int .i64 y.a,v]] w fun e w'=>Ag m f AB p st y w w' lo g x e:=by
 obtain⟨hb,h1⟩:=h.boxed
 have b2:=(Kz w y v h.inn.LP).2
 have HB:=AA hb
 have hx0:=b2.cell 0
 have hx1:=b2.cell 1
 have hx2:=b2.cell 2
 rcases hc with hc | hc | hc | hc | hc | hc | hc | hc | hc | hc | hc | hc | hc | hc | hc | hc | hc | hc | hc
 all_goals
  first
  | have HC:=AA (AC2 h1 (by omega))
  | have HC:=AA (AC3 h1 (by omega))
  | have HC:=AA (AC4 h1 (by omega))
  | have HC:=AA (AC5 h1 (by omega))
  | have HC:=AA (AC6 h1 (by omega))
  | have HC:=AA (AC7 h1 (by omega))
  replace hx0:=hx0.trans (congrArg (fun n:Nat=>some (Value.int .u8 (n:Int))) hc)
  rw [hc] at HC
  rw [hc] at hb HB hx0 hx1 hx2⊢
  simp only [Int.cast_ofNat_Int,List.getElem_cons_zero,List.getElem_cons_succ] at hx0 hx1 hx2
  clear h h1 b2 hc hb
  go_enter func135,ntmps135
  go_upto_region 1 with fail
  generalize w.alloc _=w1 at*
  go_wp2_with fail
  refine HC.out.mono ?_
  rintro e w2 hh
  have HH:=AA (Ag.then_ HB.out hh)
  have h2:=hh.2
  clear hh
  cases hr:EA m f AB p st y with
  | inl err=>
   rw [hr] at h2
   obtain⟨rfl,_⟩:=h2
   clear hr
   go_wp2_with fail
   exact⟨rfl,HH.out⟩
  | inr st'=>
   rw [hr] at h2
   obtain⟨rfl,_⟩:=h2
   clear hr
   go_wp2_with fail
   go_end0
   exact HH.out
theorem sO (h:Gv m f AB p st y lo hi g x w v) (hown:ownB y.op.toNat=false) (r:Yz) (hrr:Au y.op.toNat=some r):
 Calls prog 135 #[.pointer (some ⟨g,0,none⟩),.agg #[.int .u8 (y.op.toNat:Int),.int .i64 y.a,v]] w fun e w'=>Ag m f AB p st y w w' lo g x e:=by
 obtain⟨hb,h1⟩:=h.boxed
 have b2:=(Kz w y v h.inn.LP).2
 have HB:=AA hb;have HR:=AA h1.inn
 have ho:=of_decide_eq_false hown
 have hm:=JC hrr
 have hpl:r.plain=true:=by rw [Qz r hm.1,hm.2,hown];rfl
 obtain⟨hp8,hq8⟩:=sM r hm.1
 have hcl:Ah y.op=false:=by unfold Ah;exact decide_eq_false (by omega)
 have HE:Hid (Eff m f st y r.pops r.pushes):=AA (by
  refine⟨hcl,?_,?_,?_,h.live hcl⟩
  ·unfold BD;exact decide_eq_false (by omega)
  ·unfold DV;exact decide_eq_false (by omega)
  ·unfold BN;rw [hrr];simp [hpl])
 obtain⟨o,rr,hop1,hrl⟩:=h.inn.ne
 have hop2:=AA hop1
 have htop:o.base.size≤st.shape.size:=by have:=h.inn.top;unfold Bg at this;rw [hop1] at this;exact this
 have hsz:=h.inn.size
 have hx0:=b2.q 0 rfl
 have hof:=ZR y.op.toNat _ (UInt8.toNat_lt y.op) (h.tab _ (hb.mono h.inn.hhi))
 unfold EZ at hof
 rw [hrr] at hof
 have Jt:=AA hof
 obtain⟨vS,vF,vO,bs,hk⟩:=h1.inn.wk
 have HK:=AA hk
 have g2:((y.op.toNat:Int)==2)=false:=by simp;omega
 have g3:((y.op.toNat:Int)==3)=false:=by simp;omega
 have g4:((y.op.toNat:Int)==4)=false:=by simp;omega
 have g5:((y.op.toNat:Int)==5)=false:=by simp;omega
 have g6:((y.op.toNat:Int)==6)=false:=by simp;omega
 have g0:((y.op.toNat:Int)==0)=false:=by simp;omega
 have g7:((y.op.toNat:Int)==7)=false:=by simp;omega
 have g8:((y.op.toNat:Int)==8)=false:=by simp;omega
 have g9:((y.op.toNat:Int)==9)=false:=by simp;omega
 have g10:((y.op.toNat:Int)==10)=false:=by simp;omega
 have g11:((y.op.toNat:Int)==11)=false:=by simp;omega
 have g12:((y.op.toNat:Int)==12)=false:=by simp;omega
 have g16:((y.op.toNat:Int)==16)=false:=by simp;omega
 have g17:((y.op.toNat:Int)==17)=false:=by simp;omega
 have g18:((y.op.toNat:Int)==18)=false:=by simp;omega
 have g19:((y.op.toNat:Int)==19)=false:=by simp;omega
 have g20:((y.op.toNat:Int)==20)=false:=by simp;omega
 have g21:((y.op.toNat:Int)==21)=false:=by simp;omega
 have g22:((y.op.toNat:Int)==22)=false:=by simp;omega
 clear h h1 b2 hb ho hm hpl hof hk hop1 hrr hown
 go_enter func135,ntmps135
 go_upto_region 1 with fail
 generalize w.alloc (.cells #[.int .u8 (y.op.toNat:Int),.int .i64 y.a,v] 122)=w1 at*
 go_wp2_with fail
 refine Jt.out.mono ?_
 rintro e w2 ⟨hb2,rfl⟩
 have GN:=AA (HK.out.below hb2)
 have HB2:=AA (HB.out.trans (hb2.mono HR.out.LP))
 have hl2:lo≤w2.heap.size:=Nat.le_trans HR.out.LP hb2.size
 clear hb2
 unfold opC
 go_upto_region 3 with fail
 generalize hw3:w2.alloc (.cells #[.int .u8 (r.op:Int),.string r.word,.int .i8 r.takes,.string r.pops,.string r.pushes,.bool r.plain] 236)=w3
 have hb3:Below w2.heap.size w2 w3:=by rw [←hw3];exact(Below.refl _ _).alloc (Nat.le_refl _) _
 have Us:AQ w3 w2.heap.size 236 [.int .u8 (r.op:Int),.string r.word,.int .i8 r.takes,.string r.pops,.string r.pushes,.bool r.plain]:=by rw [←hw3];exact AQ.new w2 236 _
 have hr3:=Us.q 3 rfl
 have hr4:=Us.q 4 rfl
 have GQ:=AA (GN.out.below hb3)
 have HB3:=AA (HB2.out.trans (hb3.mono hl2))
 have hl3:lo≤w3.heap.size:=Nat.le_trans hl2 hb3.size
 have hwg:w2.heap.size≠g:=by have:=GN.out.blk.lt;omega
 have hwl:w2.heap.size<w3.heap.size:=Us.lt
 clear hw3 hb3 Us
 go_wp2_with fail
 refine(SI r.pops _ GQ.out hop2.out (by omega) htop (by omega) (by omega)).mono ?_
 rintro e w4 ⟨MI,⟨h0,rfl,hk4⟩ | ⟨h0,rfl,hc4⟩⟩
 all_goals have hb4:=Bu MI GQ.out.low hl3
 case inr=>
  have H0:=AA h0;clear h0
  go_wp2_with fail
  exact⟨rfl,.gD HE.out (HB3.out.trans hb4) H0.out hc4⟩
 have H0:=AA h0;clear h0
 have Ct:=AA (HB3.out.trans hb4)
 have hr44:w4.cell? ⟨w2.heap.size,4,none⟩=some (.string r.pushes):=(KU MI hwl hwg).trans hr4
 have HU:=AA hk4
 have hl4:lo≤w4.heap.size:=Nat.le_trans hl3 hb4.size
 clear hk4 MI hb4
 go_wp2_with fail
 refine(QY (st.shape.extract 0 (st.shape.size-r.pops.size)) r.pushes (st.shape.size-r.pops.size) (by rw [ByteArray.size_extract];omega) _ HU.out (by simp only [ByteArray.size_extract];omega) (by omega)).mono ?_
 rintro e w5 ⟨lV,⟨h1,rfl,hk5⟩ | ⟨h1,rfl,hc5⟩⟩
 all_goals have hb5:=Bu lV GQ.out.low hl4
 ·go_wp2_with fail
  go_end0
  exact .done HE.out (Ct.out.trans hb5) H0.out h1 ⟨_,_,_,_,hk5⟩
 ·have H1:=AA h1;clear h1
  go_wp2_with fail
  exact⟨rfl,.gF HE.out (Ct.out.trans hb5) H0.out H1.out hc5⟩
theorem zR (h:Gv m f AB p st y lo hi g x w v):
 Calls prog 135 #[.pointer (some ⟨g,0,none⟩),.agg #[.int .u8 (y.op.toNat:Int),.int .i64 y.a,v]] w fun e w'=>Ag m f AB p st y w w' lo g x e:=by
 by_cases hown:ownB y.op.toNat=true
 ·have ho:=of_decide_eq_true hown
  have hc:y.op.toNat=2∨y.op.toNat=3∨y.op.toNat=4∨y.op.toNat=5∨y.op.toNat=6∨y.op.toNat=0∨y.op.toNat=7∨y.op.toNat=8∨y.op.toNat=9∨y.op.toNat=10∨y.op.toNat=11∨y.op.toNat=12∨y.op.toNat=16∨y.op.toNat=17∨y.op.toNat=18∨y.op.toNat=19∨y.op.toNat=20∨y.op.toNat=21∨y.op.toNat=22:=by omega
  exact sN h hc
 ·have hi:=h.inn.ins
  unfold Aq at hi
  cases hr:Au y.op.toNat with
  | none=>rw [hr] at hi;cases hi
  | some r=>exact sO h (by simpa using hown) r hr
end
theorem QZ:(prog.info? 9).map (fun i=>(i.zero,i.size,i.bytes))=some (some (.string ⟨#[]⟩),1,16):=by kernel_rfl
section
variable {W W':World} {lo g:Nat} {x:Fx} {st:Cm} {pc:Int} {vS vF vO:Value} {bs:List Nat}
theorem E5.high (h:E5 W lo g x st pc vS vF vO bs) (n:Nat):Below lo W (W.setCell ⟨g,16,none⟩ (.int .i64 (n:Int)))∧E5 (W.setCell ⟨g,16,none⟩ (.int .i64 (n:Int))) lo g x {st with high:=n} pc vS vF vO bs:=by
 obtain⟨a,b,c,d,e,ex⟩:=h.kV 16 (.int .i64 (n:Int))
 exact⟨a,h.blk.set 16 _,b,c,d,h.bl,e,h.low,h.et,ex⟩
theorem E5.V5 (h:E5 W lo g x st pc vS vF vO bs) {A:Option Addr} {c n:Nat} {s:ByteArray} (hn:n=st.shapes.length) (hg:W.grownBy W' vS.ownBlock) (ho:W'.ownsRow lo 9 1 (.slice A (n+1) c) (n+1) (st.shapes.map Value.string++ [.string s])) (hlo:lo≤W.heap.size):
 Below lo W (W'.setCell ⟨g,12,none⟩ (.slice A (n+1) c))∧E5 (W'.setCell ⟨g,12,none⟩ (.slice A (n+1) c)) lo g x {st with shapes:=st.shapes++ [s]} pc (.slice A (n+1) c) vF vO bs:=by
 subst hn
 have kept: ∀ {e:TypeId} {v:Value} {m:Nat} {xs:List Value},W.ownsRow lo e 1 v m xs→e≠9→W'.ownsRow lo e 1 v m xs:=fun {e v m xs} hr hne=>by
  refine hr.kept hg ?_
  cases hv:v.ownBlock with
  | none=>exact .inl rfl
  | some k=>exact .inr fun e'=>Om hr h.sh hne k hv e'.symm
 have blk: ∀ {k:Nat} {t:TypeId} {xs:List Value},AQ W k t xs→t≠9→AQ W' k t xs:=fun {k t xs} hk hne=>Ay hg hk (fun e=>A_ h.sh hk (Ne.symm hne) e)
 have hw:=blk h.blk (by decide)
 have hob:Below lo W W':=BG h.sh hg hlo
 refine⟨hob.setCell h.low _,hw.set 12 _,?_,?_,?_,h.bl,fun k o b h1 h2=>⟨(h.each k o b h1 h2).1,(blk (h.each k o b h1 h2).2 (by decide)).far (p:=⟨g,12,none⟩) (FR (blk (h.each k o b h1 h2).2 (by decide)) hw (by decide)) _⟩,h.low,h.et,
  fun q hq=>⟨(blk (h.ex q hq).1 (h.et q hq).2.1).far (p:=⟨g,12,none⟩) (FR (blk (h.ex q hq).1 (h.et q hq).2.1) hw (h.et q hq).1) _,(h.ex q hq).2⟩⟩
 ·have:=BH ho (p:=⟨g,12,none⟩) (A_ ho hw (by decide)) (.slice A (st.shapes.length+1) c)
  rw [List.map_append,List.length_append]
  exact this
 ·exact BH (kept h.fl (by decide)) (p:=⟨g,12,none⟩) (A_ (kept h.fl (by decide)) hw (by decide)) _
 ·exact BH (kept h.op (by decide)) (p:=⟨g,12,none⟩) (A_ (kept h.op (by decide)) hw (by decide)) _
theorem E5.sP (h:E5 W lo g x st pc vS vF vO bs) {A:Option Addr} {c n:Nat} {v:Int} (hn:n=st.floors.length) (hg:W.grownBy W' vF.ownBlock) (ho:W'.ownsRow lo 3 1 (.slice A (n+1) c) (n+1) (st.floors.map iv++ [iv v]))
 (hb:(Value.slice A (n+1) c).ownBlock=vF.ownBlock∨(Value.slice A (n+1) c).ownBlock=some W.heap.size) (hlo:lo≤W.heap.size):
 Below lo W (W'.setCell ⟨g,15,none⟩ (.slice A (n+1) c))∧E5 (W'.setCell ⟨g,15,none⟩ (.slice A (n+1) c)) lo g x {st with floors:=st.floors++ [v]} pc vS (.slice A (n+1) c) vO bs:=by
 subst hn
 have kept: ∀ {e:TypeId} {v:Value} {m:Nat} {xs:List Value},W.ownsRow lo e 1 v m xs→e≠3→W'.ownsRow lo e 1 v m xs:=fun {e v m xs} hr hne=>by
  refine hr.kept hg ?_
  cases hv:v.ownBlock with
  | none=>exact .inl rfl
  | some k=>exact .inr fun e'=>Om hr h.fl hne k hv e'.symm
 have blk: ∀ {k:Nat} {t:TypeId} {xs:List Value},AQ W k t xs→t≠3→AQ W' k t xs:=fun {k t xs} hk hne=>Ay hg hk (fun e=>A_ h.fl hk (Ne.symm hne) e)
 have hw:=blk h.blk (by decide)
 have hob:Below lo W W':=BG h.fl hg hlo
 refine⟨hob.setCell h.low _,hw.set 15 _,?_,?_,?_,h.bl,fun k o b h1 h2=>⟨(h.each k o b h1 h2).1,(blk (h.each k o b h1 h2).2 (by decide)).far (p:=⟨g,15,none⟩) (FR (blk (h.each k o b h1 h2).2 (by decide)) hw (by decide)) _⟩,h.low,h.et,fun q hq=> ?_⟩
 ·exact BH (kept h.sh (by decide)) (p:=⟨g,15,none⟩) (A_ (kept h.sh (by decide)) hw (by decide)) _
 ·have:=BH ho (p:=⟨g,15,none⟩) (A_ ho hw (by decide)) (.slice A (st.floors.length+1) c)
  rw [List.map_append,List.length_append]
  exact this
 ·exact BH (kept h.op (by decide)) (p:=⟨g,15,none⟩) (A_ (kept h.op (by decide)) hw (by decide)) _
 ·have h1:=Ay hg (h.ex q hq).1 (h.ex q hq).2
  refine⟨h1.far (p:=⟨g,15,none⟩) (FR h1 hw (h.et q hq).1) _,?_⟩
  rcases hb with e | e
  ·rw [e];exact(h.ex q hq).2
  ·rw [e];intro e'
   injection e' with e'
   have:=(h.ex q hq).1.lt
   omega
theorem E5.withExt (h:E5 W lo g x st pc vS vF vO bs) (hb:Below W.heap.size W W') (l:List (Nat×TypeId×List Value)) (hl: ∀q∈l,(q.2.1≠172∧q.2.1≠9∧q.2.1≠173∧q.2.1≠175)∧W.heap.size≤q.1∧AQ W' q.1 q.2.1 q.2.2):
 E5 W' lo g {x with ext:=l} st pc vS vF vO bs:=by
 have h':=h.below hb
 refine⟨h'.blk,h'.sh,h'.fl,h'.op,h'.bl,h'.each,h'.low,fun q hq=>(hl q hq).1,fun q hq=>⟨(hl q hq).2.2,fun e=> ?_⟩⟩
 have:=(h.fl.lt q.1 e).2
 have:=(hl q hq).2.1
 omega
end
end Go.Proofs.YtlagonfamllgjaaGreatDoor
