/- Part 33 of the proof: RdrK RdrL -/
import Derived.Laws.EntriesVeiled
import Derived.Test.YtebgikflpgcnlaaGreatDoorP31
import Derived.Test.YtebgikflpgcnlaaGreatDoorP32
namespace Go.Proofs.YtebgikflpgcnlaaGreatDoor
set_option linter.unusedVariables false
set_option linter.unusedSimpArgs false
set_option maxRecDepth 100000
set_option maxHeartbeats 4000000
open Go.RowKit Tryz
theorem RI:(prog.info? 53).map (fun i=>(i.zero,i.size,i.bytes))=some (some (.agg #[.int .u8 0,.int .i64 0,.slice none 0 0]),3,40):=by kernel_rfl
def RZ (m:AQ) (w0:ByteArray) (ws:List ByteArray):Option AQ:=(N_ w0).bind fun o=>(Qe o ws).map fun x=> {m with fns:=Im m.fns x}
structure IIn (B b A hi:Nat) (w:World) (m:AQ) (ln:Nat) (fs:List FL) (f:FL) (lo:Nat) (col:Nat→Nat) (v1 v2 v3 v7 v8:Value) (gF c:Nat) (cells:List Value) (Ac:Option Addr) (cc:Nat) (JU:List Value) (ws:List ByteArray):Prop where
 rd:l9 B b w m ln fs f lo col v1 v2 v3 v7 v8 (some ⟨gF,0,none⟩) c cells (.slice Ac f.code.length cc)
 code:Nn I_ 53 lo (fun _=>True) w Ac f.code.length cc JU f.code
 wd:En w A ws
 env:Dt hi w
 hhi:hi≤b
 lens:Lens m 4194304
theorem Ko.parts {B b:Nat} {W:World} {m:AQ} {ln:Nat} (h:Ko B b W m ln): ∃fs f lo col v1 v2 v3 v7 v8 gF c cells Ac cc JU,
 l9 B b W m ln fs f lo col v1 v2 v3 v7 v8 (some ⟨gF,0,none⟩) c cells (.slice Ac f.code.length cc)∧Nn I_ 53 lo (fun _=>True) W Ac f.code.length cc JU f.code:=by
 obtain⟨fs,f,lo,col,v1,v2,v3,v7,v8,A,c,cells,vc,h⟩:=h
 obtain⟨Ac,cc,JU,rfl,hc⟩:=h.fn.code
 rcases h.fn.own.2 with⟨_,h0⟩ | ⟨g,cap,cur,hv,_⟩
 ·exact absurd h0 (by omega)
 ·injection hv with e1 e2 e3
  subst e1
  exact⟨fs,f,lo,col,v1,v2,v3,v7,v8,g,c,cells,Ac,cc,JU,h,hc⟩
theorem mapM_none {x:ByteArray}: ∀ {l:List ByteArray},x∈l→CK x=none→l.mapM CK=none
 | y::l,h,hx=>by
  rw [List.mapM_cons]
  rcases List.mem_cons.1 h with rfl | h
  ·rw [hx];rfl
  ·cases CK y with
   | none=>rfl
   | some n=>rw [mapM_none h hx];rfl
theorem dJ: ∀ {a b:List ByteArray} {u v:List Int},a.mapM CK=some u→b.mapM CK=some v→(a++b).mapM CK=some (u++v)
 | [],b,u,v,ha,hb=>by
  have ha:some ([]:List Int)=some u:=ha
  injection ha with ha
  subst ha
  exact hb
 | y::a,b,u,v,ha,hb=>by
  rw [List.mapM_cons] at ha
  rw [List.cons_append,List.mapM_cons]
  cases hy:CK y with
  | none=>rw [hy] at ha;cases ha
  | some n=>
   rw [hy] at ha
   cases h2:a.mapM CK with
   | none=>rw [h2] at ha;cases ha
   | some t=>
    rw [h2] at ha
    have ha:some (n::t)=some u:=ha
    injection ha with ha
    subst ha
    rw [dJ h2 hb]
    rfl
theorem m_ {l:List ByteArray} {k:Nat} {ns:List Int} {x:ByteArray} {n:Int} (h:(l.take k).mapM CK=some ns) (hx:l[k]?=some x) (hn:CK x=some n):(l.take (k+1)).mapM CK=some (ns++ [n]):=by
 have hk:=(List.getElem?_eq_some_iff.1 hx)
 rw [List.take_succ_eq_append_getElem hk.1,hk.2]
 refine dJ h ?_
 rw [List.mapM_cons,hn]
 rfl
def kH (ws:List ByteArray) (w:World) (h6 op:Nat) (i:Value) (wr:World):Prop:=
 ∃(k:Nat) (A:Option Addr) (c:Nat) (ns:List Int),k≤ws.length∧i= .int .i64 k∧Below w.heap.size w wr∧AV wr (h6+1) 53 [.int .u8 (op:Nat),.int .i64 0,.slice A k c]∧wr.ownsRow (h6+2) 3 1 (.slice A k c) k (ns.map (Value.int .i64))∧ns.length=k∧(ws.take k).mapM CK=some ns∧ ∀n∈ns,Rd.Ej n
section
variable {B b A hi:Nat} {w:World} {m:AQ} {ln:Nat} {fs:List FL} {f:FL} {lo:Nat} {col:Nat→Nat} {v1 v2 v3 v6 v7 v8:Value} {gF c:Nat} {cells:List Value} {Ac:Option Addr} {cc:Nat} {JU:List Value} {w0:ByteArray} {ws:List ByteArray}
theorem nA {st:Nat} (hst:st≠6) (h:XK B b A hi w col v1 v2 v3 v6 v7 v8 m st ln (w0::ws)) (n:Nat) (hn:n=ws.length+1) (Inv:World→AQ→Prop):
 Calls prog 98 #[.pointer (some ⟨b,0,none⟩),.slice (some ⟨A,0,none⟩) n n] w (K6 Inv B b w none):=by
 subst hn
 have hw0:w.cell? ⟨A,0,none⟩=some (.string w0):=h.wd.at_ 0 _ rfl
 have hc8:=h.rd.blk.q 8 rfl
 have hbl:=h.rd.blk.lt
 have hhi:=h.hhi
 have hs6:((st:Int)==6)=false:=by rw [beq_eq_false_iff_ne];omega
 have HF:=AA (Y5 w0 w (hi:=hi) h.env.asc (by omega))
 clear h hst
 go_enter func98,ntmps98
 go_wp2_with fail
 refine HF.out.mono ?_
 clear HF
 rintro e w2 ⟨hb2,rfl⟩
 have g8:=(hb2.cell (p:=⟨b,8,none⟩) hbl).trans hc8
 have HB:=AA hb2
 clear hb2
 unfold QH
 cases N_ w0 with
 | none=>
  go_wp2_with fail
  refine(AZ _).mono ?_
  rintro e w3 ⟨rfl,rfl⟩
  go_wp2_with fail
  exact⟨rfl,.inl ⟨rfl,rfl,HB.out⟩⟩
 | some r=>
  go_wp2_with fail
  refine(AZ _).mono ?_
  rintro e w3 ⟨rfl,rfl⟩
  go_wp2_with fail
  exact⟨rfl,.inl ⟨rfl,rfl,HB.out⟩⟩
theorem AB6 (h:IIn B b A hi w m ln fs f lo col v1 v2 v3 v7 v8 gF c cells Ac cc JU (w0::ws)) (n:Nat) (hn:n=ws.length+1):
 Calls prog 98 #[.pointer (some ⟨b,0,none⟩),.slice (some ⟨A,0,none⟩) n n] w (K6 (fun W m'=>Ko B b W m' ln) B b w (RZ m w0 ws)):=by
 subst hn
 have hw0:w.cell? ⟨A,0,none⟩=some (.string w0):=h.wd.at_ 0 _ rfl
 have hc8:=h.rd.blk.q 8 rfl
 have hc5:=h.rd.blk.q 5 rfl
 have hbl:=h.rd.blk.lt
 have Om:=h.wd.lt
 have hhi:=h.hhi
 have htl:ws.length≤4194304:=by have:=Qu (w0::ws);have:=h.wd.tot;simp at*;omega
 have HF:=AA (Y5 w0 w (hi:=hi) h.env.asc (by omega))
 have HI:=AA h
 clear h
 go_enter func98,ntmps98
 go_wp2_with fail
 refine HF.out.mono ?_
 clear HF
 rintro e w2 ⟨hb2,rfl⟩
 have g8:=(hb2.cell (p:=⟨b,8,none⟩) hbl).trans hc8
 have HB2:=AA hb2
 clear hb2
 unfold QH
 cases hf:N_ w0 with
 | none=>
  have HN:Hid (RZ m w0 ws=none):=AA (by unfold RZ;rw [hf];rfl)
  go_wp2_with fail
  refine(AZ _).mono ?_
  rintro e w3 ⟨rfl,rfl⟩
  go_wp2_with fail
  exact⟨rfl,.inl ⟨HN.out,rfl,HB2.out⟩⟩
 | some r=>
  have hrm:r∈Dj:=List.mem_of_find?_eq_some hf
  have HY:Hid (RZ m w0 ws=(Qe r ws).map fun x=> {m with fns:=Im m.fns x}):=AA (by unfold RZ;rw [hf];rfl)
  have hop:=of_decide_eq_true (List.all_eq_true.1 t_ r hrm)
  have hof:=XU r.op w2 hop (HI.out.env.asc w2 (HB2.out.mono (by omega)))
  have uD:Eh r.op= .tuple #[.agg (opC r),.bool true]:=by unfold Eh;rw [kF r hrm]
  rw [uD] at hof
  unfold opC at hof
  have HOF:=AA hof;have HOP:=AA hop
  clear hof uD hrm hf hop
  go_wp2_with fail
  refine(AP _).mono ?_
  rintro e w3 ⟨rfl,rfl⟩
  go_wp2_with fail
  refine HOF.out.mono ?_
  clear HOF
  rintro e w3 ⟨hb3,rfl⟩
  have HB3:=AA (HB2.out.trans (hb3.mono HB2.out.size))
  clear hb3 g8
  go_upto_region 4 with fail
  generalize VU:World.alloc _ _=w5
  have hb5:Below w.heap.size w w5:=by rw [←VU];exact(HB3.out.alloc HB3.out.size _).alloc (by have:=HB3.out.size;simp;omega) _
  obtain⟨h6,TL⟩: ∃h6,h6=w3.heap.size:=⟨_,rfl⟩
  have hx6:AV w5 h6 136 [.int .u8 (r.op:Nat),.string r.word,.int .i8 r.takes,.string r.pops,.string r.pushes,.bool r.plain]:=by rw [←VU,TL];exact(AV.new w3 _ [.int .u8 (r.op:Nat),.string r.word,.int .i8 r.takes,.string r.pops,.string r.pushes,.bool r.plain]).alloc _
  have hx8:AV w5 (h6+1) 53 [.int .u8 (r.op:Nat),.int .i64 0,.slice none 0 0]:=by
   rw [←VU,TL]
   have:=AV.new (w3.alloc (.cells #[.int .u8 (r.op:Nat),.string r.word,.int .i8 r.takes,.string r.pops,.string r.pushes,.bool r.plain] 136)) 53 [.int .u8 (r.op:Nat),.int .i64 0,.slice none 0 0]
   rwa [World.size_alloc] at this
  have dA:w.heap.size≤h6:=by rw [TL];exact HB3.out.size
  rw [←TL]
  clear VU TL HB3 HB2
  have HX8:=AA hx8;have I8:=AA hb5
  have q2:=hx6.q 2 rfl
  have q8:=hx8.cell 1
  clear hx6 hx8 hb5
  by_cases ht0:r.takes=0
  ·have hq0:((r.takes:Int)==0)=true:=by rw [ht0];rfl
   have xJ:Hid (Qe r ws=match ws with | []=>some ⟨UInt8.ofNat r.op,0,[]⟩ | _=>none):=AA (by unfold Qe;rw [if_pos ht0];cases ws<;>rfl)
   clear ht0
   generalize r.takes=tk at*
   go_wp2_with fail
   refine(C_ (some ⟨A,0,none⟩) (ws.length+1) (ws.length+1) 1 w5).mono ?_
   rintro e w6 ⟨rfl,⟨h1,rfl⟩ | ⟨h1,rfl⟩⟩
   case inr=>
    have HN:Hid (RZ m w0 ws=none):=AA (by
     rw [HY.out,xJ.out]
     cases ws with
     | nil=>exact absurd h1 (by decide)
     | cons a t=>rfl)
    go_wp2_with fail
    exact⟨rfl,.inl ⟨HN.out,rfl,I8.out⟩⟩
   have HYY:Hid (RZ m w0 ws=some {m with fns:=Im m.fns ⟨UInt8.ofNat r.op,0,[]⟩}):=AA (by
    rw [HY.out,xJ.out]
    cases ws with
    | nil=>rfl
    | cons a t=>have:=of_decide_eq_true h1;simp at this)
   clear h1
   have iA:Hid (Rd.Ej 0):=AA ⟨by decide,by decide⟩
   have hnl:(Rd.i64.sl false).R w5 w.heap.size w.heap.size [.slice none 0 0] []:=qo
   have g5:=(I8.out.cell (p:=⟨b,5,none⟩) hbl).trans hc5
   have gF1:=HI.out.rd.fn.at_ gF rfl
   have glo:=HI.out.rd.fn.hi_
   have uE:w.cell? ⟨gF,fs.length*3+2,none⟩=some (.slice Ac f.code.length cc):=by
    have hcl:cells.length=fs.length*3:=by
     have:=HI.out.rd.fn.own.1
     rw [List.length_append] at this
     simp at this
     omega
    have:=HI.out.rd.fn.own.cells (g:=gF) rfl (fs.length*3+2) (.slice Ac f.code.length cc) (by rw [List.getElem?_append,if_neg (by omega),show fs.length*3+2-cells.length=2 by omega];rfl)
    rwa [Addr.add_lit,Nat.zero_add] at this
   have gq:=(I8.out.cell (p:=⟨gF,fs.length*3+2,none⟩) (show gF<w.heap.size by omega)).trans uE
   have hfn:fs.length≤4194304:=by have:=HI.out.lens.fns;rw [HI.out.rd.fns,List.length_append] at this;omega
   have hcd:f.code.length≤4194304:=HI.out.lens.code f (by rw [HI.out.rd.fns];simp)
   obtain⟨i0,hi0,hz,hs',hby⟩:=info_parts RI
   have e0:=HX8.out.q 0 rfl
   have e1:=HX8.out.q 1 rfl
   have e2:=HX8.out.q 2 rfl
   have OZ:=HX8.out.lt
   have hszW:=I8.out.size
   have FX:Below w5.heap.size w5 (w5.alloc (.cells #[.int .u8 (r.op:Nat),.int .i64 0,.slice none 0 0] 53)).drew.drew:=(((Below.refl _ _).alloc (Nat.le_refl _) _).drew).drew
   have NC:=AA (I8.out.trans (FX.mono hszW))
   have iB:=AA ((Rd.i64.sl false).below hnl FX (by omega))
   have k1:=(FX.cell (p:=⟨gF,fs.length*3+2,none⟩) (show gF<w5.heap.size by omega)).trans gq
   have k2:=(FX.cell (p:=⟨h6+1,0,none⟩) OZ).trans e0
   have k3:=(FX.cell (p:=⟨h6+1,1,none⟩) OZ).trans e1
   have k4:=(FX.cell (p:=⟨h6+1,2,none⟩) OZ).trans e2
   have XO:=AA (CJ HI.out.code.own NC.out)
   have Kq:Hid (Row (w5.alloc (.cells #[.int .u8 (r.op:Nat),.int .i64 0,.slice none 0 0] 53)).drew.drew (w5.heap.size+1) (some ⟨w5.heap.size,0,none⟩) [.int .u8 (r.op:Nat),.int .i64 0,.slice none 0 0]):=AA (Dx w5 [.int .u8 (r.op:Nat),.int .i64 0,.slice none 0 0] 53)
   have hk0:(0:Int)≤fs.length:=by omega
   clear FX uE
   go_wp2_with fail
   go_region
   all_goals
    go_wp2_with fail
    go_region_law (refine ES rfl (.tmp 82) (.tmp 84) 54 rfl lo 53 i0 _ 3 40 underlying54 hi0 hz hs' hby rfl (by omega) _ f.code.length JU rfl XO.out _ _ 1 1 [.int .u8 (r.op:Nat),.int .i64 0,.slice none 0 0] rfl rfl Kq.out (by intro u hu;simp at hu;rcases hu with rfl | rfl | rfl<;>rfl) (by unfold maxLen;omega) (by omega) (by simp;omega) ?_;intro A4 c4 w9 h2 h3 h4;have iC:=(HI.out.rd.fn.Zp NC.out h3 HI.out.code.lt);have Y1:=iC.1;have hc4:=iC.2;have H2:=AA h2;have H3:=AA h3;have H4:=AA h4;clear h2 h3 h4 iC)
    all_goals
     go_end0
     have hfin:=HI.out.rd.push (.slice Ac f.code.length cc) HI.out.code NC.out (x:=⟨UInt8.ofNat r.op,0,[]⟩) (D9.2 ⟨.slice none 0 0,by unfold bv;rw [UInt8.toNat_ofNat',Nat.mod_eq_of_lt (by have:=HOP.out;omega)],by exact iA.out,iB.out⟩) (l1:=w.heap.size) (h1:=w.heap.size) (by omega) (by first | (simp;done) | (simp;omega)) H2.out H3.out H4.out
     exact .inr ⟨_,HYY.out,rfl,hfin⟩
  have hq0:((r.takes:Int)==0)=false:=by rw [beq_eq_false_iff_ne];exact ht0
  by_cases ht3:r.takes=3
  ·have hq3:((r.takes:Int)==3)=true:=by rw [ht3];rfl
   have xJ:Hid (Qe r ws=(ws.mapM CK).map fun l=>⟨UInt8.ofNat r.op,0,l⟩):=AA (by unfold Qe;rw [if_neg ht0,if_pos ht3])
   clear ht0 ht3
   generalize r.takes=tk at*
   have hrel:kH ws w h6 r.op (.int .i64 0) w5:=⟨0,none,0,[],Nat.zero_le _,rfl,I8.out,HX8.out,⟨by simp,.inl ⟨rfl,rfl⟩⟩,rfl,rfl,fun _ h=>by(cases h)⟩
   have yV:=AA hrel
   clear hrel
   rcases ws with _ | ⟨x1,t⟩
   ·simp only [List.length_nil]
    go_wp2_with fail
    go_loopw [10,53] (fun _ i wr=>kH [] w h6 r.op i wr) (fun _ i _=>0)
    case atStart=>exact yV.out
    case round=>
     obtain⟨k,Al,cl,ns,hk,rfl,hbw,hxw,how,AEA,htk,h63⟩:=hrel
     have hk0:k=0:=Nat.le_zero.1 hk
     subst hk0
     have Eo:=AA hbw;have xK:=AA hxw;have HOW:=AA how;have H63:=AA h63
     obtain rfl:ns= []:=List.eq_nil_of_length_eq_zero AEA
     have nC:=hbw.size
     clear hbw hxw how AEA htk h63 hk q2 q8
     have HYY:Hid (RZ m w0 []=some {m with fns:=Im m.fns ⟨UInt8.ofNat r.op,0,[]⟩}):=AA (by rw [HY.out,xJ.out];rfl)
     have iA:Hid (Rd.Ej 0):=AA ⟨by decide,by decide⟩
     have hnl:=dI HOW.out H63.out
     have g5:=(Eo.out.cell (p:=⟨b,5,none⟩) hbl).trans hc5
     have gF1:=HI.out.rd.fn.at_ gF rfl
     have glo:=HI.out.rd.fn.hi_
     have uE:w.cell? ⟨gF,fs.length*3+2,none⟩=some (.slice Ac f.code.length cc):=by
      have hcl:cells.length=fs.length*3:=by
       have:=HI.out.rd.fn.own.1
       rw [List.length_append] at this
       simp at this
       omega
      have:=HI.out.rd.fn.own.cells (g:=gF) rfl (fs.length*3+2) (.slice Ac f.code.length cc) (by rw [List.getElem?_append,if_neg (by omega),show fs.length*3+2-cells.length=2 by omega];rfl)
      rwa [Addr.add_lit,Nat.zero_add] at this
     have gq:=(Eo.out.cell (p:=⟨gF,fs.length*3+2,none⟩) (show gF<w.heap.size by omega)).trans uE
     have hfn:fs.length≤4194304:=by have:=HI.out.lens.fns;rw [HI.out.rd.fns,List.length_append] at this;omega
     have hcd:f.code.length≤4194304:=HI.out.lens.code f (by rw [HI.out.rd.fns];simp)
     obtain⟨i0,hi0,hz,hs',hby⟩:=info_parts RI
     have e0:=xK.out.q 0 rfl
     have e1:=xK.out.q 1 rfl
     have e2:=xK.out.q 2 rfl
     have OZ:=xK.out.lt
     have hszW:=Eo.out.size
     have FX:Below wr.heap.size wr (wr.alloc (.cells #[.int .u8 (r.op:Nat),.int .i64 0,.slice Al 0 cl] 53)).drew.drew:=(((Below.refl _ _).alloc (Nat.le_refl _) _).drew).drew
     have NC:=AA (Eo.out.trans (FX.mono hszW))
     have iB:=AA ((Rd.i64.sl false).below hnl FX (by omega))
     have k1:=(FX.cell (p:=⟨gF,fs.length*3+2,none⟩) (show gF<wr.heap.size by omega)).trans gq
     have k2:=(FX.cell (p:=⟨h6+1,0,none⟩) OZ).trans e0
     have k3:=(FX.cell (p:=⟨h6+1,1,none⟩) OZ).trans e1
     have k4:=(FX.cell (p:=⟨h6+1,2,none⟩) OZ).trans e2
     have XO:=AA (CJ HI.out.code.own NC.out)
     have Kq:Hid (Row (wr.alloc (.cells #[.int .u8 (r.op:Nat),.int .i64 0,.slice Al 0 cl] 53)).drew.drew (wr.heap.size+1) (some ⟨wr.heap.size,0,none⟩) [.int .u8 (r.op:Nat),.int .i64 0,.slice Al 0 cl]):=AA (Dx wr [.int .u8 (r.op:Nat),.int .i64 0,.slice Al 0 cl] 53)
     have hk0:(0:Int)≤fs.length:=by omega
     clear FX uE
     go_wp2_with fail
     go_region
     all_goals
      go_wp2_with fail
      go_region_law (refine ES rfl (.tmp 82) (.tmp 84) 54 rfl lo 53 i0 _ 3 40 underlying54 hi0 hz hs' hby rfl (by omega) _ f.code.length JU rfl XO.out _ _ 1 1 [.int .u8 (r.op:Nat),.int .i64 0,.slice Al 0 cl] rfl rfl Kq.out (by intro u hu;simp at hu;rcases hu with rfl | rfl | rfl<;>rfl) (by unfold maxLen;omega) (by omega) (by simp;omega) ?_;intro A4 c4 w9 h2 h3 h4;have iC:=(HI.out.rd.fn.Zp NC.out h3 HI.out.code.lt);have Y1:=iC.1;have hc4:=iC.2;have H2:=AA h2;have H3:=AA h3;have H4:=AA h4;clear h2 h3 h4 iC)
      all_goals
       go_end0
       have hfin:=HI.out.rd.push (.slice Ac f.code.length cc) HI.out.code NC.out (x:=⟨UInt8.ofNat r.op,0,[]⟩) (D9.2 ⟨.slice Al 0 cl,by unfold bv;rw [UInt8.toNat_ofNat',Nat.mod_eq_of_lt (by have:=HOP.out;omega)],by exact iA.out,iB.out⟩) (l1:=h6+2) (h1:=wr.heap.size) (by omega) (by first | (simp;done) | (simp;omega)) H2.out H3.out H4.out
       exact .inr ⟨_,HYY.out,rfl,hfin⟩
   have htl1:t.length≤4194303:=by simpa using htl
   simp only [List.length_cons]
   go_wp2_with fail
   go_loopw [10,53] (fun _ i wr=>kH (x1::t) w h6 r.op i wr) (fun _ i _=>t.length+1-(intOf i).toNat)
   case atStart=>exact yV.out
   case round=>
    obtain⟨k,Al,cl,ns,hk,rfl,hbw,hxw,how,hnl,htk,h63⟩:=hrel
    have Eo:=AA hbw;have xK:=AA hxw;have HOW:=AA how;have HNL:=AA hnl;have HTK:=AA htk;have H63:=AA h63
    have hk1:k≤t.length+1:=hk
    have e2:=hxw.q 2 rfl
    have nC:=hbw.size
    have hltx:=hxw.lt
    clear hbw hxw how hnl htk h63 hk q2 q8
    by_cases hlt:k<t.length+1
    ·have d1:decide ((k:Int)<(t.length:Int)+1)=true:=decide_eq_true (by omega)
     obtain⟨x,hx⟩: ∃x,(x1::t)[k]?=some x:=⟨_,List.getElem?_eq_getElem hlt⟩
     have hkx:wr.cell? ⟨A,1+k,none⟩=some (.string x):=(Eo.out.cell (p:=⟨A,1+k,none⟩) Om).trans (by have:=HI.out.wd.at_ (k+1) x hx;rw [Nat.add_comm 1 k];exact this)
     have hxs:x.size≤1048576:=HI.out.wd.sz x (List.mem_cons_of_mem _ (List.mem_of_getElem? hx))
     have HXS:=AA hxs;have HXX:=AA hx
     have hk0:(0:Int)≤k:=by omega
     clear hxs hx
     cases hnx:CK x with
     | none=>
      have hall:RZ m w0 (x1::t)=none:=by
       rw [HY.out,xJ.out,mapM_none (List.mem_of_getElem? HXX.out) hnx]
       rfl
      have HN:=AA hall
      have Ul:=AA hnx
      clear hall hnx
      go_upto_region 13 with fail
      refine wp_region_held_drew (S:=fun W=>W.cell? ⟨h6+1,2,none⟩=some (.slice Al k cl)) (by kernel_rfl) e2 (fun hHeld=> ?_)
      refine AB (i:=0) (v:= ?_) rfl (by kernel_rfl) (fun _ _ _ h=>h) (by intro w hSw;(try dsimp only at hSw);go_simp;try with_reducible rfl) hHeld ?_
      refine AB (i:=1) (v:= ?_) rfl (by kernel_rfl) (fun _ _ _ h=>h) (by intro w hSw;(try dsimp only at hSw);go_simp;try with_reducible rfl) hHeld ?_
      refine AB (i:=2) (v:= ?_) rfl (by kernel_rfl) (fun _ _ _ h=>h) (by intro w hSw;(try dsimp only at hSw);go_simp;try with_reducible rfl) hHeld ?_
      refine wpAnyH_ready (rs:= [3]) (by kernel_rfl) (by simp) ?_
      refine AllReadyH.cons rfl (fun K hK=> ?_) AllReadyH.nil
      go_simp
      go_at_call 142
      refine(Dq x (by have:=HXS.out;omega) _ (HI.out.env.up (Eo.out.drew) (by omega)) (by simp;omega)).mono ?_
      rintro e w2 ⟨hb2,⟨h0,rfl⟩ | ⟨n,hn,_,rfl⟩⟩
      ·go_wp2_with fail
       exact⟨rfl,.inl ⟨HN.out,rfl,Eo.out.trans ((Af hb2).mono nC)⟩⟩
      ·exact absurd (hn.symm.trans Ul.out) (by simp)
     | some n=>
      have Ul:=AA hnx
      obtain⟨i0,hi0,hz,hs',hby⟩:=info_parts bn
      clear hnx
      go_upto_region 13 with fail
      go_region_law
       (first
        | (go_simp;go_at_call 142;refine(Dq x (by have:=HXS.out;omega) wr.drew (HI.out.env.up Eo.out.drew (by omega)) (by simp;omega)).mono ?_;rintro e w2 ⟨hb2,⟨h0,rfl⟩ | ⟨kk,hkk,b_,rfl⟩⟩;exact absurd (h0.symm.trans Ul.out) (by simp);obtain rfl:kk=n:=Option.some.inj (hkk.symm.trans Ul.out);have hS:=Af hb2;have HS:=AA hS;have g1:=(hS.cell (p:=⟨h6+1,2,none⟩) hltx).trans e2;have hsz2:wr.heap.size≤w2.heap.size:=hS.size;have g1a:=(((Below.refl w2.heap.size w2).alloc (Nat.le_refl _) (.cells #[.int .i64 kk] 3)).cell (p:=⟨h6+1,2,none⟩) (show h6+1<w2.heap.size by omega)).trans g1;have Kq:=AA (Dx w2 [.int .i64 kk] 3);have sW:=AA b_;have qC:=AA (CJ HOW.out hS);have RG:=AA (xK.out.below hS hltx);clear hb2 hkk b_ hS)
        | (refine ES rfl (.tmp 58) (.tmp 61) 23 rfl (h6+2) 3 i0 _ 1 8 underlying23 hi0 hz hs' hby rfl (by omega) _ k (ns.map (Value.int .i64)) rfl (qC.out.alloc _) (w2.heap.size+1) _ 1 1 [.int .i64 kk] rfl rfl Kq.out (by intro u hu;simp at hu;subst hu;rfl) (by unfold maxLen;omega) (by omega) (by simp;omega) ?_;intro A4 c4 w4 h2 h3 h4;have Ia:AV w4 (h6+1) 53 [.int .u8 (r.op:Nat),.int .i64 0,.slice Al k cl]:=(h3.block (h6+1) (by rw [World.size_alloc];omega) (fun e=>by have:=(qC.out.lt (h6+1) e.symm).1;omega)).trans (RG.out.alloc _);have Y1:=Ia.frozen 2;have hc4:=Ia.cell 2;have H2:=AA h2;have H3:=AA h3;have Ke:=AA Ia;clear h2 h3 h4 Ia))
      all_goals
       have hfin:kH (x1::t) w h6 r.op (.int .i64 ((k+1:Nat):Int)) (w4.setCell ⟨h6+1,2,none⟩ (.slice A4 (k+1) c4)):=by
        have hB:Below w.heap.size w w4:=by
         have h1:=(Eo.out.trans (HS.out.mono nC)).alloc (Nat.le_trans nC hsz2) (.cells #[.int .i64 kk] 3)
         exact⟨H3.out.os.trans h1.os,H3.out.tape.trans h1.tape,H3.out.output.trans h1.output,Nat.le_trans h1.size H3.out.size,fun q hq=>(H3.out.block q (Nat.lt_of_lt_of_le hq h1.size) (fun e=>by have:=(qC.out.lt q e.symm).1;omega)).trans (h1.block q hq)⟩
        refine⟨k+1,A4,c4,ns++ [kk],hlt,rfl,hB.setCell (p:=⟨h6+1,2,none⟩) (show w.heap.size≤h6+1 by omega) _,Ke.out.set 2 _,?_,by rw [List.length_append,HNL.out];rfl,m_ HTK.out HXX.out Ul.out,fun q hq=> ?_⟩
        ·refine OD (p:=⟨h6+1,2,none⟩) ?_ (fun e=>by have:=(H2.out.lt (h6+1) e).1;omega) _
         rw [List.map_append]
         exact H2.out
        ·rcases List.mem_append.1 hq with h | h
         ·exact H63.out q h
         ·rw [List.mem_singleton] at h;rw [h];exact sW.out
       have TK:=AA hfin
       clear hfin Y1 hc4
       go_wp2_with fail
       exact⟨TK.out,by show t.length+1-((k:Int)+1).toNat<t.length+1-(k:Int).toNat;omega⟩
    ·have d1:decide ((k:Int)<(t.length:Int)+1)=false:=decide_eq_false (by omega)
     have HYY:Hid (RZ m w0 (x1::t)=some {m with fns:=Im m.fns ⟨UInt8.ofNat r.op,0,ns⟩}):=AA (by
      have h1:=HTK.out
      rw [List.take_of_length_le (by simp;omega)] at h1
      rw [HY.out,xJ.out,h1]
      rfl)
     have iA:Hid (Rd.Ej 0):=AA ⟨by decide,by decide⟩
     have hnl:=dI HOW.out H63.out
     have g5:=(Eo.out.cell (p:=⟨b,5,none⟩) hbl).trans hc5
     have gF1:=HI.out.rd.fn.at_ gF rfl
     have glo:=HI.out.rd.fn.hi_
     have uE:w.cell? ⟨gF,fs.length*3+2,none⟩=some (.slice Ac f.code.length cc):=by
      have hcl:cells.length=fs.length*3:=by
       have:=HI.out.rd.fn.own.1
       rw [List.length_append] at this
       simp at this
       omega
      have:=HI.out.rd.fn.own.cells (g:=gF) rfl (fs.length*3+2) (.slice Ac f.code.length cc) (by rw [List.getElem?_append,if_neg (by omega),show fs.length*3+2-cells.length=2 by omega];rfl)
      rwa [Addr.add_lit,Nat.zero_add] at this
     have gq:=(Eo.out.cell (p:=⟨gF,fs.length*3+2,none⟩) (show gF<w.heap.size by omega)).trans uE
     have hfn:fs.length≤4194304:=by have:=HI.out.lens.fns;rw [HI.out.rd.fns,List.length_append] at this;omega
     have hcd:f.code.length≤4194304:=HI.out.lens.code f (by rw [HI.out.rd.fns];simp)
     obtain⟨i0,hi0,hz,hs',hby⟩:=info_parts RI
     have e0:=xK.out.q 0 rfl
     have e1:=xK.out.q 1 rfl
     have e2:=xK.out.q 2 rfl
     have OZ:=xK.out.lt
     have hszW:=Eo.out.size
     have FX:Below wr.heap.size wr (wr.alloc (.cells #[.int .u8 (r.op:Nat),.int .i64 0,.slice Al k cl] 53)).drew.drew:=(((Below.refl _ _).alloc (Nat.le_refl _) _).drew).drew
     have NC:=AA (Eo.out.trans (FX.mono hszW))
     have iB:=AA ((Rd.i64.sl false).below hnl FX (by omega))
     have k1:=(FX.cell (p:=⟨gF,fs.length*3+2,none⟩) (show gF<wr.heap.size by omega)).trans gq
     have k2:=(FX.cell (p:=⟨h6+1,0,none⟩) OZ).trans e0
     have k3:=(FX.cell (p:=⟨h6+1,1,none⟩) OZ).trans e1
     have k4:=(FX.cell (p:=⟨h6+1,2,none⟩) OZ).trans e2
     have XO:=AA (CJ HI.out.code.own NC.out)
     have Kq:Hid (Row (wr.alloc (.cells #[.int .u8 (r.op:Nat),.int .i64 0,.slice Al k cl] 53)).drew.drew (wr.heap.size+1) (some ⟨wr.heap.size,0,none⟩) [.int .u8 (r.op:Nat),.int .i64 0,.slice Al k cl]):=AA (Dx wr [.int .u8 (r.op:Nat),.int .i64 0,.slice Al k cl] 53)
     have hk0:(0:Int)≤fs.length:=by omega
     clear FX uE
     go_wp2_with fail
     go_region
     all_goals
      go_wp2_with fail
      go_region_law (refine ES rfl (.tmp 82) (.tmp 84) 54 rfl lo 53 i0 _ 3 40 underlying54 hi0 hz hs' hby rfl (by omega) _ f.code.length JU rfl XO.out _ _ 1 1 [.int .u8 (r.op:Nat),.int .i64 0,.slice Al k cl] rfl rfl Kq.out (by intro u hu;simp at hu;rcases hu with rfl | rfl | rfl<;>rfl) (by unfold maxLen;omega) (by omega) (by simp;omega) ?_;intro A4 c4 w9 h2 h3 h4;have iC:=(HI.out.rd.fn.Zp NC.out h3 HI.out.code.lt);have Y1:=iC.1;have hc4:=iC.2;have H2:=AA h2;have H3:=AA h3;have H4:=AA h4;clear h2 h3 h4 iC)
      all_goals
       go_end0
       have hfin:=HI.out.rd.push (.slice Ac f.code.length cc) HI.out.code NC.out (x:=⟨UInt8.ofNat r.op,0,ns⟩) (D9.2 ⟨.slice Al k cl,by unfold bv;rw [UInt8.toNat_ofNat',Nat.mod_eq_of_lt (by have:=HOP.out;omega)],by exact iA.out,iB.out⟩) (l1:=h6+2) (h1:=wr.heap.size) (by omega) (by first | (simp;done) | (simp;omega)) H2.out H3.out H4.out
       exact .inr ⟨_,HYY.out,rfl,hfin⟩
  ·have hq3:((r.takes:Int)==3)=false:=by rw [beq_eq_false_iff_ne];exact ht3
   have xJ:Hid (Qe r ws=match ws with | [a]=>(CK a).map fun n=>⟨UInt8.ofNat r.op,n,[]⟩ | _=>none):=AA (by unfold Qe;rw [if_neg ht0,if_neg ht3];rcases ws with _ | ⟨a,_ | ⟨b,t⟩⟩<;>rfl)
   clear ht0 ht3
   generalize r.takes=tk at*
   go_wp2_with fail
   refine(C_ (some ⟨A,0,none⟩) (ws.length+1) (ws.length+1) 2 w5).mono ?_
   rintro e w6 ⟨rfl,⟨h1,rfl⟩ | ⟨h1,rfl⟩⟩
   case inr=>
    have HN:Hid (RZ m w0 ws=none):=AA (by
     rw [HY.out,xJ.out]
     rcases ws with _ | ⟨a,_ | ⟨b,t⟩⟩
     ·rfl
     ·simp at h1
     ·rfl)
    go_wp2_with fail
    exact⟨rfl,.inl ⟨HN.out,rfl,I8.out⟩⟩
   obtain⟨x1,rfl⟩: ∃x1,ws= [x1]:=by
    have:=of_decide_eq_true h1
    rcases ws with _ | ⟨a,_ | ⟨b,t⟩⟩<;>simp_all
   clear h1
   have hw1:=(I8.out.cell (p:=⟨A,1,none⟩) Om).trans (HI.out.wd.at_ 1 x1 rfl)
   have hx1:=HI.out.wd.sz x1 (by simp)
   have hsz5:=I8.out.size
   simp only [List.length_cons,List.length_nil]
   go_wp2_with fail
   refine(Dq x1 (by omega) w5 (HI.out.env.up I8.out (by omega)) (by omega)).mono ?_
   rintro e w6 ⟨hb6,⟨h0,rfl⟩ | ⟨n,hn,hn63,rfl⟩⟩
   ·have HN:Hid (RZ m w0 [x1]=none):=AA (by rw [HY.out,xJ.out];show((CK x1).map _).map _=none;rw [h0];rfl)
    go_wp2_with fail
    exact⟨rfl,.inl ⟨HN.out,rfl,I8.out.trans (hb6.mono hsz5)⟩⟩
   have HYY:Hid (RZ m w0 [x1]=some {m with fns:=Im m.fns ⟨UInt8.ofNat r.op,n,[]⟩}):=AA (by rw [HY.out,xJ.out];show((CK x1).map _).map _=_;rw [hn];rfl)
   have hx6:=HX8.out.below hb6 HX8.out.lt
   have qa:=hx6.q 1 rfl
   have qf:=hx6.frozen 1
   have HX6:=AA hx6;have MU:=AA (I8.out.trans (hb6.mono hsz5));have iA:=AA hn63
   clear hx6 hb6 hn hn63 q2 q8
   go_upto_region 15 with fail
   generalize hw7:w6.setCell _ _=w7
   have O8:Below w.heap.size w w7:=by rw [←hw7];exact MU.out.setCell (p:=⟨h6+1,1,none⟩) (show w.heap.size≤h6+1 by omega) _
   have hx7:AV w7 (h6+1) 53 [.int .u8 (r.op:Nat),.int .i64 n,.slice none 0 0]:=by rw [←hw7];exact HX6.out.set 1 _
   clear hw7 qa qf HX6 MU
   have dK:=AA O8;have HX7:=AA hx7
   clear O8 hx7
   have hnl:(Rd.i64.sl false).R w7 w.heap.size w.heap.size [.slice none 0 0] []:=qo
   have g5:=(dK.out.cell (p:=⟨b,5,none⟩) hbl).trans hc5
   have gF1:=HI.out.rd.fn.at_ gF rfl
   have glo:=HI.out.rd.fn.hi_
   have uE:w.cell? ⟨gF,fs.length*3+2,none⟩=some (.slice Ac f.code.length cc):=by
    have hcl:cells.length=fs.length*3:=by
     have:=HI.out.rd.fn.own.1
     rw [List.length_append] at this
     simp at this
     omega
    have:=HI.out.rd.fn.own.cells (g:=gF) rfl (fs.length*3+2) (.slice Ac f.code.length cc) (by rw [List.getElem?_append,if_neg (by omega),show fs.length*3+2-cells.length=2 by omega];rfl)
    rwa [Addr.add_lit,Nat.zero_add] at this
   have gq:=(dK.out.cell (p:=⟨gF,fs.length*3+2,none⟩) (show gF<w.heap.size by omega)).trans uE
   have hfn:fs.length≤4194304:=by have:=HI.out.lens.fns;rw [HI.out.rd.fns,List.length_append] at this;omega
   have hcd:f.code.length≤4194304:=HI.out.lens.code f (by rw [HI.out.rd.fns];simp)
   obtain⟨i0,hi0,hz,hs',hby⟩:=info_parts RI
   have e0:=HX7.out.q 0 rfl
   have e1:=HX7.out.q 1 rfl
   have e2:=HX7.out.q 2 rfl
   have OZ:=HX7.out.lt
   have hszW:=dK.out.size
   have FX:Below w7.heap.size w7 (w7.alloc (.cells #[.int .u8 (r.op:Nat),.int .i64 n,.slice none 0 0] 53)).drew.drew:=(((Below.refl _ _).alloc (Nat.le_refl _) _).drew).drew
   have NC:=AA (dK.out.trans (FX.mono hszW))
   have iB:=AA ((Rd.i64.sl false).below hnl FX (by omega))
   have k1:=(FX.cell (p:=⟨gF,fs.length*3+2,none⟩) (show gF<w7.heap.size by omega)).trans gq
   have k2:=(FX.cell (p:=⟨h6+1,0,none⟩) OZ).trans e0
   have k3:=(FX.cell (p:=⟨h6+1,1,none⟩) OZ).trans e1
   have k4:=(FX.cell (p:=⟨h6+1,2,none⟩) OZ).trans e2
   have XO:=AA (CJ HI.out.code.own NC.out)
   have Kq:Hid (Row (w7.alloc (.cells #[.int .u8 (r.op:Nat),.int .i64 n,.slice none 0 0] 53)).drew.drew (w7.heap.size+1) (some ⟨w7.heap.size,0,none⟩) [.int .u8 (r.op:Nat),.int .i64 n,.slice none 0 0]):=AA (Dx w7 [.int .u8 (r.op:Nat),.int .i64 n,.slice none 0 0] 53)
   have hk0:(0:Int)≤fs.length:=by omega
   clear FX uE
   go_wp2_with fail
   go_region
   all_goals
    go_wp2_with fail
    go_region_law (refine ES rfl (.tmp 82) (.tmp 84) 54 rfl lo 53 i0 _ 3 40 underlying54 hi0 hz hs' hby rfl (by omega) _ f.code.length JU rfl XO.out _ _ 1 1 [.int .u8 (r.op:Nat),.int .i64 n,.slice none 0 0] rfl rfl Kq.out (by intro u hu;simp at hu;rcases hu with rfl | rfl | rfl<;>rfl) (by unfold maxLen;omega) (by omega) (by simp;omega) ?_;intro A4 c4 w9 h2 h3 h4;have iC:=(HI.out.rd.fn.Zp NC.out h3 HI.out.code.lt);have Y1:=iC.1;have hc4:=iC.2;have H2:=AA h2;have H3:=AA h3;have H4:=AA h4;clear h2 h3 h4 iC)
    all_goals
     go_end0
     have hfin:=HI.out.rd.push (.slice Ac f.code.length cc) HI.out.code NC.out (x:=⟨UInt8.ofNat r.op,n,[]⟩) (D9.2 ⟨.slice none 0 0,by unfold bv;rw [UInt8.toNat_ofNat',Nat.mod_eq_of_lt (by have:=HOP.out;omega)],by exact iA.out,iB.out⟩) (l1:=w.heap.size) (h1:=w.heap.size) (by omega) (by first | (simp;done) | (simp;omega)) H2.out H3.out H4.out
     exact .inr ⟨_,HYY.out,rfl,hfin⟩
end
def Gw (B b:Nat) (w:World) (ln:Nat) (res:Option Nb) (e:Ending) (w':World):Prop:=
 Keep (fun k=>k<B∧k≠b) w w'∧((res=none∧e= .panicked R4∧w'.cell? ⟨b,9,none⟩=some (.int .i64 ln))∨ ∃r',res=some r'∧e= .returned (.tuple #[])∧TH B b w' r' ln)
structure qE (B b hi M:Nat) (w:World) (r:Nb) (ln:Nat) (s:ByteArray):Prop where
 rd:TH B b w r ln
 map:w.heap[M]?=some (.map JD 8)
 mlt:M<w.heap.size
 env:Dt hi w
 hhi:hi≤b
 lens:Lens r.m 4194304
 sz:s.size≤1048576
theorem QZ.stage {B b:Nat} {w:World} {col:Nat→Nat} {v1 v2 v3 v6 v7 v8:Value} {m:AQ} {st ln:Nat} (h:QZ B b w col v1 v2 v3 v6 v7 v8 m st ln) (q:Nat):
 QZ B b (w.setCell ⟨b,8,none⟩ (.int .i64 q)) col v1 v2 v3 v6 v7 v8 m q ln:=by
 have hlow:=h.low
 have hK:Keep (fun k=>k≠b) w (w.setCell ⟨b,8,none⟩ (.int .i64 q)):=(Keep.refl _ w).setCell (p:=⟨b,8,none⟩) (fun e=>e rfl) _
 exact⟨h.blk.set 8 _,h.six.keep hK (fun k hk _ _=>by omega) col (fun _ _ _=>rfl),hlow,Nat.le_trans h.top hK.size,h.first,h.most⟩
theorem M5 {P:Program} {W:World} {mty kt et:TypeId} {M clock:Nat} {es:Array MapEntry} {s:ByteArray} {i:Nat} {v:Value} (hm:P.underlying mty=some (.map kt et)) (hk:P.underlying kt=some .string) (hb:W.heap[M]?=some (.map es clock))
 (hf:Instr.findNow .string (.string s) es.toList 0=some (some (i,v))):(Instr.lookup mty (.map (some M)) (.string s) true).run P W= .ok (.tuple #[v,.bool true]) W:=by
 have hc:(Instr.checkKey es.isEmpty 10000 kt (.string s)).run P W= .ok () W:=MapKept.run_checkKey (k:= .string s) hk (by simp [MapKept.IsKey]) _ 9999
 simp [Instr.lookup,run_underlying hm,MapKept.run_getObj_map hb,hc,MapKept.run_findKey hk hf,Result.andThen]
theorem dL {P:Program} {W:World} {mty kt et:TypeId} {M clock:Nat} {es:Array MapEntry} {s:ByteArray} {z:Value} (hm:P.underlying mty=some (.map kt et)) (hk:P.underlying kt=some .string) (hb:W.heap[M]?=some (.map es clock))
 (hz:(zeroValue et).run P W= .ok z W) (hf:Instr.findNow .string (.string s) es.toList 0=some none):(Instr.lookup mty (.map (some M)) (.string s) true).run P W= .ok (.tuple #[z,.bool false]) W:=by
 have hc:(Instr.checkKey es.isEmpty 10000 kt (.string s)).run P W= .ok () W:=MapKept.run_checkKey (k:= .string s) hk (by simp [MapKept.IsKey]) _ 9999
 simp [Instr.lookup,run_underlying hm,MapKept.run_getObj_map hb,hc,MapKept.run_findKey hk hf,hz,Result.andThen]
section
variable {B b hi M:Nat} {w:World} {r:Nb} {ln:Nat} {s:ByteArray}
theorem KY {w w1:World} {A:Nat} {ws:List ByteArray} (ho:w1.ownsRow w.heap.size 9 1 (.slice (some ⟨A,0,none⟩) ws.length ws.length) ws.length (ws.map Value.string)) (hA:w.heap.size≤A) (hne:ws≠ []) (ht:Io ws≤1048577):En w1 A ws:=by
 rcases ho.2 with⟨_,h0⟩ | ⟨g,cap,cur,hv,_,hg,_⟩
 ·exact absurd (List.eq_nil_of_length_eq_zero h0) hne
 ·injection hv with e
  injection e with e
  injection e with e
  subst e
  refine⟨(Array.getElem?_eq_some_iff.1 hg).1,fun j x hx=> ?_,ht⟩
  have:=ho.cells (g:=A) rfl j (.string x) (by rw [List.getElem?_map,hx];rfl)
  rwa [Addr.add_lit,Nat.zero_add] at this
end
end Go.Proofs.YtebgikflpgcnlaaGreatDoor
