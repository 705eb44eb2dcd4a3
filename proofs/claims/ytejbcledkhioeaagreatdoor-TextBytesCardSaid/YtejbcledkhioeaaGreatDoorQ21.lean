/- Part 21 of the proof: OpsG RdrK RdrL -/
import Derived.Laws.EntriesVeiled
import Derived.Test.YtejbcledkhioeaaGreatDoorQ15
import Derived.Test.YtejbcledkhioeaaGreatDoorQ16
import Derived.Test.YtejbcledkhioeaaGreatDoorQ18
import Derived.Test.YtejbcledkhioeaaGreatDoorQ19
namespace Go.Proofs.YtejbcledkhioeaaGreatDoor
set_option linter.unusedVariables false
set_option linter.unusedSimpArgs false
set_option maxRecDepth 100000
set_option maxHeartbeats 4000000
open Go.RowKit Tryz
theorem eY: ∀r∈EB,DU r.op=some r:=by
 unfold EB
 repeat (refine List.forall_mem_cons.2 ⟨by kernel_rfl,?_⟩)
 exact fun _ h=>by cases h
theorem nQ:EB.all (fun r=>decide (r.op<256))=true:=by kernel_rfl
theorem eZ {α:Type} (p:α→Bool): ∀(l:List α) (k:Nat) (x:α),l[k]?=some x→p x=true→(∀j y,j<k→l[j]?=some y→p y=false)→l.find? p=some x
 | [],k,x,h,_,_=>by cases h
 | y::l,0,x,h,hp,_=>by
  injection h with h
  subst h
  rw [List.find?_cons,hp]
 | y::l,k+1,x,h,hp,hn=>by
  rw [List.find?_cons,hn 0 y (by omega) rfl]
  exact eZ p l k x h hp (fun j z hj hz=>hn (j+1) z (by omega) hz)
def Nt (w:ByteArray):Value:=match Lj w with
 | none=> .tuple #[.int .u8 0,.bool false]
 | some r=> .tuple #[.int .u8 (r.op:Nat),.bool true]
def tC (s:ByteArray) (w:World) (i:Value) (wr:World):Prop:=
 ∃k:Nat,k≤EB.length∧i= .int .i64 k∧Below w.heap.size w wr∧ ∀j y,j<k→EB[j]?=some y→y.word≠s
theorem WW (s:ByteArray) (w:World) {hi:Nat} (htab: ∀w',Below hi w w'→Lib.TabIs prog w' "strings.asciiSpace" .u8 Lib.asciiSpaceTab) (hhi:hi≤w.heap.size):
 Calls prog 149 #[.string s] w fun e w'=>Below w.heap.size w w'∧e= .returned (Nt s):=by
 have HT:=AA htab;have HHI:=AA hhi
 have HA:=AA (su w (htab w (Below.refl _ _)))
 clear htab hhi
 go_enter func149,ntmps149
 go_wp2_with fail
 refine HA.out.mono ?_
 clear HA
 rintro e w1 ⟨A,c,rfl,hown,hb1⟩
 have hL:(IW 256).length=90:=by kernel_rfl
 rw [hL] at hown⊢
 obtain⟨g,cap,hAe,hg0,hg1⟩: ∃g cap,(Value.slice A 90 c)= .slice (some ⟨g,0,none⟩) 90 cap∧w.heap.size≤g∧g<w1.heap.size:=by
  obtain⟨b,cc,he,h1,h2,_⟩:=iV hown (by decide)
  exact⟨b,cc,he,h1,h2⟩
 injection hAe with hA1 hA2 hA3
 subst hA1 hA3
 have hcell: ∀(k:Nat) (r:XD),EB[k]?=some r→w1.cell? ⟨g,k,none⟩=some (.int .u8 (r.op:Nat)):=by
  intro k r hr
  have hu:((IW 256).map bv)[k]?=some (.int .u8 (r.op:Nat)):=by
   rw [iU,List.map_map,List.getElem?_map,hr]
   show some (bv (UInt8.ofNat r.op))=_
   have:=of_decide_eq_true (List.all_eq_true.1 nQ r (List.mem_of_getElem? hr))
   unfold bv
   rw [UInt8.toNat_ofNat',Nat.mod_eq_of_lt (by omega)]
  have:=hown.cells (g:=g) rfl k _ hu
  rwa [Addr.add_lit,Nat.zero_add] at this
 have HC:=AA hcell;have HB1:=AA hb1
 clear hcell hb1 hown hL
 go_wp2_with fail
 go_loopw [10] (fun i wr=>tC s w1 i wr) (fun i _=>90-(intOf i).toNat)
 case atStart=>exact⟨0,Nat.zero_le _,rfl,Below.refl _ _,fun j y hj=>by omega⟩
 case round=>
  obtain⟨k,hk,rfl,hb,hne⟩:=hrel
  have hlen:EB.length=90:=by kernel_rfl
  rw [hlen] at hk
  have HB:=AA hb;have qm:=AA hne
  clear hb hne
  by_cases hlt:k<90
  ·have d1:decide ((k:Int)<90)=true:=decide_eq_true (by omega)
   obtain⟨r,hr⟩: ∃r,EB[k]?=some r:=⟨_,List.getElem?_eq_getElem (by omega)⟩
   have hm:=List.mem_of_getElem? hr
   have hk0:(0:Int)≤k:=by omega
   have q0:wr.cell? ⟨g,k,none⟩=some (.int .u8 (r.op:Nat)):=(HB.out.cell (p:=⟨g,k,none⟩) hg1).trans (HC.out k r hr)
   have hop:=of_decide_eq_true (List.all_eq_true.1 nQ r hm)
   have hof:=SI r.op wr hop (HT.out wr ((HB1.out.mono HHI.out).trans (HB.out.mono (Nat.le_trans HHI.out HB1.out.size))))
   have nR:Jo r.op= .tuple #[.agg (opC r),.bool true]:=by unfold Jo;rw [eY r hm]
   rw [nR] at hof
   have yN:=AA hof;have HR:=AA hr
   clear hof nR hm hr
   go_wp2_with fail
   refine yN.out.mono ?_
   clear yN
   rintro e w2 ⟨hb2,rfl⟩
   have HB2:=AA (HB.out.trans (hb2.mono HB.out.size))
   clear hb2
   unfold opC
   by_cases hw:r.word=s
   ·have hq:(r.word.toList==s.toList)=true:=by rw [hw];exact beq_self_eq_true _
    have hF:Lj s=some r:=eZ _ EB k r HR.out (decide_eq_true hw) (fun j y hj hy=>decide_eq_false (qm.out j y hj hy))
    have HF:Hid (Nt s= .tuple #[.int .u8 (r.op:Nat),.bool true]):=AA (by unfold Nt;rw [hF])
    clear hF hw
    go_wp2_with fail
    go_ret2
    exact⟨HB1.out.trans ((HB2.out.alloc HB2.out.size _).mono HB1.out.size),by rw [HF.out];rfl⟩
   ·have hq:(r.word.toList==s.toList)=false:=by
     rw [beq_eq_false_iff_ne,ByteArray.toList_eq,ByteArray.toList_eq]
     exact fun e=>hw (by cases hx:r.word;cases hy:s;rw [hx,hy] at e;simp at e;rw [e])
    have hnx: ∀j y,j<k+1→EB[j]?=some y→y.word≠s:=by
     intro j y hj hy
     by_cases e:j=k
     ·subst e
      rw [HR.out] at hy
      injection hy with hy
      subst hy
      exact hw
     ·exact qm.out j y (by omega) hy
    have YQ:=AA hnx
    clear hnx hw
    go_wp2_with fail
    exact⟨⟨k+1,by rw [hlen];omega,rfl,HB2.out.alloc HB2.out.size _,YQ.out⟩,by show 90-((k:Int)+1).toNat<90-(k:Int).toNat;omega⟩
  ·have d1:decide ((k:Int)<90)=false:=decide_eq_false (by omega)
   have hF:Lj s=none:=by
    unfold Lj
    rw [List.find?_eq_none]
    intro y hy
    obtain⟨j,hj,e⟩:=List.mem_iff_getElem.1 hy
    have:=qm.out j y (by omega) (by rw [List.getElem?_eq_getElem hj,e])
    simpa using this
   have HF:Hid (Nt s= .tuple #[.int .u8 0,.bool false]):=AA (by unfold Nt;rw [hF])
   clear hF
   go_wp2_with fail
   go_ret2
   exact⟨HB1.out.trans (HB.out.mono HB1.out.size),by rw [HF.out];rfl⟩
theorem NG:(prog.info? 53).map (fun i=>(i.zero,i.size,i.bytes))=some (some (.agg #[.int .u8 0,.int .i64 0,.slice none 0 0]),3,40):=by kernel_rfl
def Pv (m:AP) (w0:ByteArray) (ws:List ByteArray):Option AP:=(Lj w0).bind fun o=>(OT o ws).map fun x=> {m with fns:=GJ m.fns x}
structure IIn (B b A hi:Nat) (w:World) (m:AP) (ln:Nat) (fs:List GR) (f:GR) (lo:Nat) (col:Nat→Nat) (v1 v2 v3 v7 v8:Value) (gF c:Nat) (cells:List Value) (Ac:Option Addr) (cc:Nat) (Gd:List Value) (ws:List ByteArray):Prop where
 rd:iD B b w m ln fs f lo col v1 v2 v3 v7 v8 (some ⟨gF,0,none⟩) c cells (.slice Ac f.code.length cc)
 code:Gc JA 53 lo (fun _=>True) w Ac f.code.length cc Gd f.code
 wd:ED w A ws
 env:Dv hi w
 hhi:hi≤b
 lens:Lens m 4194304
theorem JW.parts {B b:Nat} {W:World} {m:AP} {ln:Nat} (h:JW B b W m ln): ∃fs f lo col v1 v2 v3 v7 v8 gF c cells Ac cc Gd,
 iD B b W m ln fs f lo col v1 v2 v3 v7 v8 (some ⟨gF,0,none⟩) c cells (.slice Ac f.code.length cc)∧Gc JA 53 lo (fun _=>True) W Ac f.code.length cc Gd f.code:=by
 obtain⟨fs,f,lo,col,v1,v2,v3,v7,v8,A,c,cells,vc,h⟩:=h
 obtain⟨Ac,cc,Gd,rfl,hc⟩:=h.fn.code
 rcases h.fn.own.2 with⟨_,h0⟩ | ⟨g,cap,cur,hv,_⟩
 ·exact absurd h0 (by omega)
 ·injection hv with e1 e2 e3
  subst e1
  exact⟨fs,f,lo,col,v1,v2,v3,v7,v8,g,c,cells,Ac,cc,Gd,h,hc⟩
theorem mapM_none {x:ByteArray}: ∀ {l:List ByteArray},x∈l→BH x=none→l.mapM BH=none
 | y::l,h,hx=>by
  rw [List.mapM_cons]
  rcases List.mem_cons.1 h with rfl | h
  ·rw [hx];rfl
  ·cases BH y with
   | none=>rfl
   | some n=>rw [mapM_none h hx];rfl
theorem ZJ: ∀ {a b:List ByteArray} {u v:List Int},a.mapM BH=some u→b.mapM BH=some v→(a++b).mapM BH=some (u++v)
 | [],b,u,v,ha,hb=>by
  have ha:some ([]:List Int)=some u:=ha
  injection ha with ha
  subst ha
  exact hb
 | y::a,b,u,v,ha,hb=>by
  rw [List.mapM_cons] at ha
  rw [List.cons_append,List.mapM_cons]
  cases hy:BH y with
  | none=>rw [hy] at ha;cases ha
  | some n=>
   rw [hy] at ha
   cases h2:a.mapM BH with
   | none=>rw [h2] at ha;cases ha
   | some t=>
    rw [h2] at ha
    have ha:some (n::t)=some u:=ha
    injection ha with ha
    subst ha
    rw [ZJ h2 hb]
    rfl
theorem iW {l:List ByteArray} {k:Nat} {ns:List Int} {x:ByteArray} {n:Int} (h:(l.take k).mapM BH=some ns) (hx:l[k]?=some x) (hn:BH x=some n):(l.take (k+1)).mapM BH=some (ns++ [n]):=by
 have hk:=(List.getElem?_eq_some_iff.1 hx)
 rw [List.take_succ_eq_append_getElem hk.1,hk.2]
 refine ZJ h ?_
 rw [List.mapM_cons,hn]
 rfl
def eu (ws:List ByteArray) (w:World) (h6 op:Nat) (i:Value) (wr:World):Prop:=
 ∃(k:Nat) (A:Option Addr) (c:Nat) (ns:List Int),k≤ws.length∧i= .int .i64 k∧Below w.heap.size w wr∧AL wr (h6+1) 53 [.int .u8 (op:Nat),.int .i64 0,.slice A k c]∧wr.ownsRow (h6+2) 3 1 (.slice A k c) k (ns.map (Value.int .i64))∧ns.length=k∧(ws.take k).mapM BH=some ns∧ ∀n∈ns,Rd.ER n
section
variable {B b A hi:Nat} {w:World} {m:AP} {ln:Nat} {fs:List GR} {f:GR} {lo:Nat} {col:Nat→Nat} {v1 v2 v3 v6 v7 v8:Value} {gF c:Nat} {cells:List Value} {Ac:Option Addr} {cc:Nat} {Gd:List Value} {w0:ByteArray} {ws:List ByteArray}
theorem iX {st:Nat} (hst:st≠6) (h:Uv B b A hi w col v1 v2 v3 v6 v7 v8 m st ln (w0::ws)) (n:Nat) (hn:n=ws.length+1) (Inv:World→AP→Prop):
 Calls prog 98 #[.pointer (some ⟨b,0,none⟩),.slice (some ⟨A,0,none⟩) n n] w (Jd Inv B b w none):=by
 subst hn
 have hw0:w.cell? ⟨A,0,none⟩=some (.string w0):=h.wd.at_ 0 _ rfl
 have hc8:=h.rd.blk.q 8 rfl
 have hbl:=h.rd.blk.lt
 have hhi:=h.hhi
 have hs6:((st:Int)==6)=false:=by rw [beq_eq_false_iff_ne];omega
 have HF:=AA (WW w0 w (hi:=hi) h.env.sI (by omega))
 clear h hst
 go_enter func98,ntmps98
 go_wp2_with fail
 refine HF.out.mono ?_
 clear HF
 rintro e w2 ⟨hb2,rfl⟩
 have g8:=(hb2.cell (p:=⟨b,8,none⟩) hbl).trans hc8
 have HB:=AA hb2
 clear hb2
 unfold Nt
 cases Lj w0 with
 | none=>
  go_wp2_with fail
  refine(AY _).mono ?_
  rintro e w3 ⟨rfl,rfl⟩
  go_wp2_with fail
  exact⟨rfl,.inl ⟨rfl,rfl,HB.out⟩⟩
 | some r=>
  go_wp2_with fail
  refine(AY _).mono ?_
  rintro e w3 ⟨rfl,rfl⟩
  go_wp2_with fail
  exact⟨rfl,.inl ⟨rfl,rfl,HB.out⟩⟩
theorem yO (h:IIn B b A hi w m ln fs f lo col v1 v2 v3 v7 v8 gF c cells Ac cc Gd (w0::ws)) (n:Nat) (hn:n=ws.length+1):
 Calls prog 98 #[.pointer (some ⟨b,0,none⟩),.slice (some ⟨A,0,none⟩) n n] w (Jd (fun W m'=>JW B b W m' ln) B b w (Pv m w0 ws)):=by
 subst hn
 have hw0:w.cell? ⟨A,0,none⟩=some (.string w0):=h.wd.at_ 0 _ rfl
 have hc8:=h.rd.blk.q 8 rfl
 have hc5:=h.rd.blk.q 5 rfl
 have hbl:=h.rd.blk.lt
 have Md:=h.wd.lt
 have hhi:=h.hhi
 have htl:ws.length≤4194304:=by have:=Oj (w0::ws);have:=h.wd.tot;simp at*;omega
 have HF:=AA (WW w0 w (hi:=hi) h.env.sI (by omega))
 have HI:=AA h
 clear h
 go_enter func98,ntmps98
 go_wp2_with fail
 refine HF.out.mono ?_
 clear HF
 rintro e w2 ⟨hb2,rfl⟩
 have g8:=(hb2.cell (p:=⟨b,8,none⟩) hbl).trans hc8
 have HB2:=AA hb2
 clear hb2
 unfold Nt
 cases hf:Lj w0 with
 | none=>
  have HN:Hid (Pv m w0 ws=none):=AA (by unfold Pv;rw [hf];rfl)
  go_wp2_with fail
  refine(AY _).mono ?_
  rintro e w3 ⟨rfl,rfl⟩
  go_wp2_with fail
  exact⟨rfl,.inl ⟨HN.out,rfl,HB2.out⟩⟩
 | some r=>
  have hrm:r∈EB:=List.mem_of_find?_eq_some hf
  have HY:Hid (Pv m w0 ws=(OT r ws).map fun x=> {m with fns:=GJ m.fns x}):=AA (by unfold Pv;rw [hf];rfl)
  have hop:=of_decide_eq_true (List.all_eq_true.1 nQ r hrm)
  have hof:=SI r.op w2 hop (HI.out.env.sI w2 (HB2.out.mono (by omega)))
  have nR:Jo r.op= .tuple #[.agg (opC r),.bool true]:=by unfold Jo;rw [eY r hrm]
  rw [nR] at hof
  unfold opC at hof
  have yN:=AA hof;have iY:=AA hop
  clear hof nR hrm hf hop
  go_wp2_with fail
  refine(AO _).mono ?_
  rintro e w3 ⟨rfl,rfl⟩
  go_wp2_with fail
  refine yN.out.mono ?_
  clear yN
  rintro e w3 ⟨hb3,rfl⟩
  have HB3:=AA (HB2.out.trans (hb3.mono HB2.out.size))
  clear hb3 g8
  go_upto_region 4 with fail
  generalize Mr:World.alloc _ _=w5
  have hb5:Below w.heap.size w w5:=by rw [←Mr];exact(HB3.out.alloc HB3.out.size _).alloc (by have:=HB3.out.size;simp;omega) _
  obtain⟨h6,Qy⟩: ∃h6,h6=w3.heap.size:=⟨_,rfl⟩
  have hx6:AL w5 h6 136 [.int .u8 (r.op:Nat),.string r.word,.int .i8 r.takes,.string r.pops,.string r.pushes,.bool r.plain]:=by rw [←Mr,Qy];exact(AL.new w3 _ [.int .u8 (r.op:Nat),.string r.word,.int .i8 r.takes,.string r.pops,.string r.pushes,.bool r.plain]).alloc _
  have hx8:AL w5 (h6+1) 53 [.int .u8 (r.op:Nat),.int .i64 0,.slice none 0 0]:=by
   rw [←Mr,Qy]
   have:=AL.new (w3.alloc (.cells #[.int .u8 (r.op:Nat),.string r.word,.int .i8 r.takes,.string r.pops,.string r.pushes,.bool r.plain] 136)) 53 [.int .u8 (r.op:Nat),.int .i64 0,.slice none 0 0]
   rwa [World.size_alloc] at this
  have YP:w.heap.size≤h6:=by rw [Qy];exact HB3.out.size
  rw [←Qy]
  clear Mr Qy HB3 HB2
  have yP:=AA hx8;have JX:=AA hb5
  have q2:=hx6.q 2 rfl
  have q8:=hx8.cell 1
  clear hx6 hx8 hb5
  by_cases ht0:r.takes=0
  ·have hq0:((r.takes:Int)==0)=true:=by rw [ht0];rfl
   have qw:Hid (OT r ws=match ws with | []=>some ⟨UInt8.ofNat r.op,0,[]⟩ | _=>none):=AA (by unfold OT;rw [if_pos ht0];cases ws<;>rfl)
   clear ht0
   generalize r.takes=tk at*
   go_wp2_with fail
   refine(BU (some ⟨A,0,none⟩) (ws.length+1) (ws.length+1) 1 w5).mono ?_
   rintro e w6 ⟨rfl,⟨h1,rfl⟩ | ⟨h1,rfl⟩⟩
   case inr=>
    have HN:Hid (Pv m w0 ws=none):=AA (by
     rw [HY.out,qw.out]
     cases ws with
     | nil=>exact absurd h1 (by decide)
     | cons a t=>rfl)
    go_wp2_with fail
    exact⟨rfl,.inl ⟨HN.out,rfl,JX.out⟩⟩
   have yQ:Hid (Pv m w0 ws=some {m with fns:=GJ m.fns ⟨UInt8.ofNat r.op,0,[]⟩}):=AA (by
    rw [HY.out,qw.out]
    cases ws with
    | nil=>rfl
    | cons a t=>have:=of_decide_eq_true h1;simp at this)
   clear h1
   have bA:Hid (Rd.ER 0):=AA ⟨by decide,by decide⟩
   have hnl:(Rd.i64.sl false).R w5 w.heap.size w.heap.size [.slice none 0 0] []:=W_
   have g5:=(JX.out.cell (p:=⟨b,5,none⟩) hbl).trans hc5
   have gF1:=HI.out.rd.fn.at_ gF rfl
   have glo:=HI.out.rd.fn.vo
   have nS:w.cell? ⟨gF,fs.length*3+2,none⟩=some (.slice Ac f.code.length cc):=by
    have hcl:cells.length=fs.length*3:=by
     have:=HI.out.rd.fn.own.1
     rw [List.length_append] at this
     simp at this
     omega
    have:=HI.out.rd.fn.own.cells (g:=gF) rfl (fs.length*3+2) (.slice Ac f.code.length cc) (by rw [List.getElem?_append,if_neg (by omega),show fs.length*3+2-cells.length=2 by omega];rfl)
    rwa [Addr.add_lit,Nat.zero_add] at this
   have gq:=(JX.out.cell (p:=⟨gF,fs.length*3+2,none⟩) (show gF<w.heap.size by omega)).trans nS
   have hfn:fs.length≤4194304:=by have:=HI.out.lens.fns;rw [HI.out.rd.fns,List.length_append] at this;omega
   have hcd:f.code.length≤4194304:=HI.out.lens.code f (by rw [HI.out.rd.fns];simp)
   obtain⟨i0,hi0,hz,hs',hby⟩:=info_parts NG
   have e0:=yP.out.q 0 rfl
   have e1:=yP.out.q 1 rfl
   have e2:=yP.out.q 2 rfl
   have MF:=yP.out.lt
   have hszW:=JX.out.size
   have EM:Below w5.heap.size w5 (w5.alloc (.cells #[.int .u8 (r.op:Nat),.int .i64 0,.slice none 0 0] 53)).drew.drew:=(((Below.refl _ _).alloc (Nat.le_refl _) _).drew).drew
   have KQ:=AA (JX.out.trans (EM.mono hszW))
   have bB:=AA ((Rd.i64.sl false).below hnl EM (by omega))
   have k1:=(EM.cell (p:=⟨gF,fs.length*3+2,none⟩) (show gF<w5.heap.size by omega)).trans gq
   have k2:=(EM.cell (p:=⟨h6+1,0,none⟩) MF).trans e0
   have k3:=(EM.cell (p:=⟨h6+1,1,none⟩) MF).trans e1
   have k4:=(EM.cell (p:=⟨h6+1,2,none⟩) MF).trans e2
   have Uy:=AA (BI HI.out.code.own KQ.out)
   have GK:Hid (Row (w5.alloc (.cells #[.int .u8 (r.op:Nat),.int .i64 0,.slice none 0 0] 53)).drew.drew (w5.heap.size+1) (some ⟨w5.heap.size,0,none⟩) [.int .u8 (r.op:Nat),.int .i64 0,.slice none 0 0]):=AA (Ak w5 [.int .u8 (r.op:Nat),.int .i64 0,.slice none 0 0] 53)
   have hk0:(0:Int)≤fs.length:=by omega
   clear EM nS
   go_wp2_with fail
   go_region
   all_goals
    go_wp2_with fail
    go_region_law (refine Au rfl (.tmp 82) (.tmp 84) 54 rfl lo 53 i0 _ 3 40 underlying54 hi0 hz hs' hby rfl (by omega) _ f.code.length Gd rfl Uy.out _ _ 1 1 [.int .u8 (r.op:Nat),.int .i64 0,.slice none 0 0] rfl rfl GK.out (by intro u hu;simp at hu;rcases hu with rfl | rfl | rfl<;>rfl) (by unfold maxLen;omega) (by omega) (by simp;omega) ?_;intro A4 c4 w9 h2 h3 h4;have bC:=(HI.out.rd.fn.XW KQ.out h3 HI.out.code.lt);have TJ:=bC.1;have hc4:=bC.2;have H2:=AA h2;have H3:=AA h3;have H4:=AA h4;clear h2 h3 h4 bC)
    all_goals
     go_end0
     have hfin:=HI.out.rd.push (.slice Ac f.code.length cc) HI.out.code KQ.out (x:=⟨UInt8.ofNat r.op,0,[]⟩) (Dw.2 ⟨.slice none 0 0,by unfold bv;rw [UInt8.toNat_ofNat',Nat.mod_eq_of_lt (by have:=iY.out;omega)],by exact bA.out,bB.out⟩) (l1:=w.heap.size) (h1:=w.heap.size) (by omega) (by first | (simp;done) | (simp;omega)) H2.out H3.out H4.out
     exact .inr ⟨_,yQ.out,rfl,hfin⟩
  have hq0:((r.takes:Int)==0)=false:=by rw [beq_eq_false_iff_ne];exact ht0
  by_cases ht3:r.takes=3
  ·have hq3:((r.takes:Int)==3)=true:=by rw [ht3];rfl
   have qw:Hid (OT r ws=(ws.mapM BH).map fun l=>⟨UInt8.ofNat r.op,0,l⟩):=AA (by unfold OT;rw [if_neg ht0,if_pos ht3])
   clear ht0 ht3
   generalize r.takes=tk at*
   have hrel:eu ws w h6 r.op (.int .i64 0) w5:=⟨0,none,0,[],Nat.zero_le _,rfl,JX.out,yP.out,⟨by simp,.inl ⟨rfl,rfl⟩⟩,rfl,rfl,fun _ h=>by(cases h)⟩
   have aX:=AA hrel
   clear hrel
   rcases ws with _ | ⟨x1,t⟩
   ·simp only [List.length_nil]
    go_wp2_with fail
    go_loopw [10,53] (fun _ i wr=>eu [] w h6 r.op i wr) (fun _ i _=>0)
    case atStart=>exact aX.out
    case round=>
     obtain⟨k,Al,cl,ns,hk,rfl,hbw,hxw,how,AA8,htk,h63⟩:=hrel
     have hk0:k=0:=Nat.le_zero.1 hk
     subst hk0
     have J_:=AA hbw;have fA:=AA hxw;have HOW:=AA how;have wB:=AA h63
     obtain rfl:ns= []:=List.eq_nil_of_length_eq_zero AA8
     have nT:=hbw.size
     clear hbw hxw how AA8 htk h63 hk q2 q8
     have yQ:Hid (Pv m w0 []=some {m with fns:=GJ m.fns ⟨UInt8.ofNat r.op,0,[]⟩}):=AA (by rw [HY.out,qw.out];rfl)
     have bA:Hid (Rd.ER 0):=AA ⟨by decide,by decide⟩
     have hnl:=U5 HOW.out wB.out
     have g5:=(J_.out.cell (p:=⟨b,5,none⟩) hbl).trans hc5
     have gF1:=HI.out.rd.fn.at_ gF rfl
     have glo:=HI.out.rd.fn.vo
     have nS:w.cell? ⟨gF,fs.length*3+2,none⟩=some (.slice Ac f.code.length cc):=by
      have hcl:cells.length=fs.length*3:=by
       have:=HI.out.rd.fn.own.1
       rw [List.length_append] at this
       simp at this
       omega
      have:=HI.out.rd.fn.own.cells (g:=gF) rfl (fs.length*3+2) (.slice Ac f.code.length cc) (by rw [List.getElem?_append,if_neg (by omega),show fs.length*3+2-cells.length=2 by omega];rfl)
      rwa [Addr.add_lit,Nat.zero_add] at this
     have gq:=(J_.out.cell (p:=⟨gF,fs.length*3+2,none⟩) (show gF<w.heap.size by omega)).trans nS
     have hfn:fs.length≤4194304:=by have:=HI.out.lens.fns;rw [HI.out.rd.fns,List.length_append] at this;omega
     have hcd:f.code.length≤4194304:=HI.out.lens.code f (by rw [HI.out.rd.fns];simp)
     obtain⟨i0,hi0,hz,hs',hby⟩:=info_parts NG
     have e0:=fA.out.q 0 rfl
     have e1:=fA.out.q 1 rfl
     have e2:=fA.out.q 2 rfl
     have MF:=fA.out.lt
     have hszW:=J_.out.size
     have EM:Below wr.heap.size wr (wr.alloc (.cells #[.int .u8 (r.op:Nat),.int .i64 0,.slice Al 0 cl] 53)).drew.drew:=(((Below.refl _ _).alloc (Nat.le_refl _) _).drew).drew
     have KQ:=AA (J_.out.trans (EM.mono hszW))
     have bB:=AA ((Rd.i64.sl false).below hnl EM (by omega))
     have k1:=(EM.cell (p:=⟨gF,fs.length*3+2,none⟩) (show gF<wr.heap.size by omega)).trans gq
     have k2:=(EM.cell (p:=⟨h6+1,0,none⟩) MF).trans e0
     have k3:=(EM.cell (p:=⟨h6+1,1,none⟩) MF).trans e1
     have k4:=(EM.cell (p:=⟨h6+1,2,none⟩) MF).trans e2
     have Uy:=AA (BI HI.out.code.own KQ.out)
     have GK:Hid (Row (wr.alloc (.cells #[.int .u8 (r.op:Nat),.int .i64 0,.slice Al 0 cl] 53)).drew.drew (wr.heap.size+1) (some ⟨wr.heap.size,0,none⟩) [.int .u8 (r.op:Nat),.int .i64 0,.slice Al 0 cl]):=AA (Ak wr [.int .u8 (r.op:Nat),.int .i64 0,.slice Al 0 cl] 53)
     have hk0:(0:Int)≤fs.length:=by omega
     clear EM nS
     go_wp2_with fail
     go_region
     all_goals
      go_wp2_with fail
      go_region_law (refine Au rfl (.tmp 82) (.tmp 84) 54 rfl lo 53 i0 _ 3 40 underlying54 hi0 hz hs' hby rfl (by omega) _ f.code.length Gd rfl Uy.out _ _ 1 1 [.int .u8 (r.op:Nat),.int .i64 0,.slice Al 0 cl] rfl rfl GK.out (by intro u hu;simp at hu;rcases hu with rfl | rfl | rfl<;>rfl) (by unfold maxLen;omega) (by omega) (by simp;omega) ?_;intro A4 c4 w9 h2 h3 h4;have bC:=(HI.out.rd.fn.XW KQ.out h3 HI.out.code.lt);have TJ:=bC.1;have hc4:=bC.2;have H2:=AA h2;have H3:=AA h3;have H4:=AA h4;clear h2 h3 h4 bC)
      all_goals
       go_end0
       have hfin:=HI.out.rd.push (.slice Ac f.code.length cc) HI.out.code KQ.out (x:=⟨UInt8.ofNat r.op,0,[]⟩) (Dw.2 ⟨.slice Al 0 cl,by unfold bv;rw [UInt8.toNat_ofNat',Nat.mod_eq_of_lt (by have:=iY.out;omega)],by exact bA.out,bB.out⟩) (l1:=h6+2) (h1:=wr.heap.size) (by omega) (by first | (simp;done) | (simp;omega)) H2.out H3.out H4.out
       exact .inr ⟨_,yQ.out,rfl,hfin⟩
   have htl1:t.length≤4194303:=by simpa using htl
   simp only [List.length_cons]
   go_wp2_with fail
   go_loopw [10,53] (fun _ i wr=>eu (x1::t) w h6 r.op i wr) (fun _ i _=>t.length+1-(intOf i).toNat)
   case atStart=>exact aX.out
   case round=>
    obtain⟨k,Al,cl,ns,hk,rfl,hbw,hxw,how,hnl,htk,h63⟩:=hrel
    have J_:=AA hbw;have fA:=AA hxw;have HOW:=AA how;have yR:=AA hnl;have HTK:=AA htk;have wB:=AA h63
    have hk1:k≤t.length+1:=hk
    have e2:=hxw.q 2 rfl
    have nT:=hbw.size
    have hltx:=hxw.lt
    clear hbw hxw how hnl htk h63 hk q2 q8
    by_cases hlt:k<t.length+1
    ·have d1:decide ((k:Int)<(t.length:Int)+1)=true:=decide_eq_true (by omega)
     obtain⟨x,hx⟩: ∃x,(x1::t)[k]?=some x:=⟨_,List.getElem?_eq_getElem hlt⟩
     have hkx:wr.cell? ⟨A,1+k,none⟩=some (.string x):=(J_.out.cell (p:=⟨A,1+k,none⟩) Md).trans (by have:=HI.out.wd.at_ (k+1) x hx;rw [Nat.add_comm 1 k];exact this)
     have hxs:x.size≤1048576:=HI.out.wd.sz x (List.mem_cons_of_mem _ (List.mem_of_getElem? hx))
     have HXS:=AA hxs;have HXX:=AA hx
     have hk0:(0:Int)≤k:=by omega
     clear hxs hx
     cases hnx:BH x with
     | none=>
      have hall:Pv m w0 (x1::t)=none:=by
       rw [HY.out,qw.out,mapM_none (List.mem_of_getElem? HXX.out) hnx]
       rfl
      have HN:=AA hall
      have YQ:=AA hnx
      clear hall hnx
      go_upto_region 13 with fail
      refine wp_region_held_drew (S:=fun W=>W.cell? ⟨h6+1,2,none⟩=some (.slice Al k cl)) (by kernel_rfl) e2 (fun hHeld=> ?_)
      refine AB (i:=0) (v:= ?_) rfl (by kernel_rfl) (fun _ _ _ h=>h) (by intro w hSw;(try dsimp only at hSw);go_simp;try with_reducible rfl) hHeld ?_
      refine AB (i:=1) (v:= ?_) rfl (by kernel_rfl) (fun _ _ _ h=>h) (by intro w hSw;(try dsimp only at hSw);go_simp;try with_reducible rfl) hHeld ?_
      refine AB (i:=2) (v:= ?_) rfl (by kernel_rfl) (fun _ _ _ h=>h) (by intro w hSw;(try dsimp only at hSw);go_simp;try with_reducible rfl) hHeld ?_
      refine wpAnyH_ready (rs:= [3]) (by kernel_rfl) (by simp) ?_
      refine AllReadyH.cons rfl (fun K hK=> ?_) AllReadyH.nil
      go_simp
      go_at_call 142
      refine(CQ x (by have:=HXS.out;omega) _ (HI.out.env.up (J_.out.drew) (by omega)) (by simp;omega)).mono ?_
      rintro e w2 ⟨hb2,⟨h0,rfl⟩ | ⟨n,hn,_,rfl⟩⟩
      ·go_wp2_with fail
       exact⟨rfl,.inl ⟨HN.out,rfl,J_.out.trans ((Am hb2).mono nT)⟩⟩
      ·exact absurd (hn.symm.trans YQ.out) (by simp)
     | some n=>
      have YQ:=AA hnx
      obtain⟨i0,hi0,hz,hs',hby⟩:=info_parts Qu
      clear hnx
      go_upto_region 13 with fail
      go_region_law
       (first
        | (go_simp;go_at_call 142;refine(CQ x (by have:=HXS.out;omega) wr.drew (HI.out.env.up J_.out.drew (by omega)) (by simp;omega)).mono ?_;rintro e w2 ⟨hb2,⟨h0,rfl⟩ | ⟨kk,hkk,Y8,rfl⟩⟩;exact absurd (h0.symm.trans YQ.out) (by simp);obtain rfl:kk=n:=Option.some.inj (hkk.symm.trans YQ.out);have hS:=Am hb2;have HS:=AA hS;have g1:=(hS.cell (p:=⟨h6+1,2,none⟩) hltx).trans e2;have hsz2:wr.heap.size≤w2.heap.size:=hS.size;have g1a:=(((Below.refl w2.heap.size w2).alloc (Nat.le_refl _) (.cells #[.int .i64 kk] 3)).cell (p:=⟨h6+1,2,none⟩) (show h6+1<w2.heap.size by omega)).trans g1;have GK:=AA (Ak w2 [.int .i64 kk] 3);have mg:=AA Y8;have kS:=AA (BI HOW.out hS);have OU:=AA (fA.out.below hS hltx);clear hb2 hkk Y8 hS)
        | (refine Au rfl (.tmp 58) (.tmp 61) 23 rfl (h6+2) 3 i0 _ 1 8 underlying23 hi0 hz hs' hby rfl (by omega) _ k (ns.map (Value.int .i64)) rfl (kS.out.alloc _) (w2.heap.size+1) _ 1 1 [.int .i64 kk] rfl rfl GK.out (by intro u hu;simp at hu;subst hu;rfl) (by unfold maxLen;omega) (by omega) (by simp;omega) ?_;intro A4 c4 w4 h2 h3 h4;have Du:AL w4 (h6+1) 53 [.int .u8 (r.op:Nat),.int .i64 0,.slice Al k cl]:=(h3.block (h6+1) (by rw [World.size_alloc];omega) (fun e=>by have:=(kS.out.lt (h6+1) e.symm).1;omega)).trans (OU.out.alloc _);have TJ:=Du.frozen 2;have hc4:=Du.cell 2;have H2:=AA h2;have H3:=AA h3;have J9:=AA Du;clear h2 h3 h4 Du))
      all_goals
       have hfin:eu (x1::t) w h6 r.op (.int .i64 ((k+1:Nat):Int)) (w4.setCell ⟨h6+1,2,none⟩ (.slice A4 (k+1) c4)):=by
        have hB:Below w.heap.size w w4:=by
         have h1:=(J_.out.trans (HS.out.mono nT)).alloc (Nat.le_trans nT hsz2) (.cells #[.int .i64 kk] 3)
         exact⟨H3.out.os.trans h1.os,H3.out.tape.trans h1.tape,H3.out.output.trans h1.output,Nat.le_trans h1.size H3.out.size,fun q hq=>(H3.out.block q (Nat.lt_of_lt_of_le hq h1.size) (fun e=>by have:=(kS.out.lt q e.symm).1;omega)).trans (h1.block q hq)⟩
        refine⟨k+1,A4,c4,ns++ [kk],hlt,rfl,hB.setCell (p:=⟨h6+1,2,none⟩) (show w.heap.size≤h6+1 by omega) _,J9.out.set 2 _,?_,by rw [List.length_append,yR.out];rfl,iW HTK.out HXX.out YQ.out,fun q hq=> ?_⟩
        ·refine IU (p:=⟨h6+1,2,none⟩) ?_ (fun e=>by have:=(H2.out.lt (h6+1) e).1;omega) _
         rw [List.map_append]
         exact H2.out
        ·rcases List.mem_append.1 hq with h | h
         ·exact wB.out q h
         ·rw [List.mem_singleton] at h;rw [h];exact mg.out
       have Dz:=AA hfin
       clear hfin TJ hc4
       go_wp2_with fail
       exact⟨Dz.out,by show t.length+1-((k:Int)+1).toNat<t.length+1-(k:Int).toNat;omega⟩
    ·have d1:decide ((k:Int)<(t.length:Int)+1)=false:=decide_eq_false (by omega)
     have yQ:Hid (Pv m w0 (x1::t)=some {m with fns:=GJ m.fns ⟨UInt8.ofNat r.op,0,ns⟩}):=AA (by
      have h1:=HTK.out
      rw [List.take_of_length_le (by simp;omega)] at h1
      rw [HY.out,qw.out,h1]
      rfl)
     have bA:Hid (Rd.ER 0):=AA ⟨by decide,by decide⟩
     have hnl:=U5 HOW.out wB.out
     have g5:=(J_.out.cell (p:=⟨b,5,none⟩) hbl).trans hc5
     have gF1:=HI.out.rd.fn.at_ gF rfl
     have glo:=HI.out.rd.fn.vo
     have nS:w.cell? ⟨gF,fs.length*3+2,none⟩=some (.slice Ac f.code.length cc):=by
      have hcl:cells.length=fs.length*3:=by
       have:=HI.out.rd.fn.own.1
       rw [List.length_append] at this
       simp at this
       omega
      have:=HI.out.rd.fn.own.cells (g:=gF) rfl (fs.length*3+2) (.slice Ac f.code.length cc) (by rw [List.getElem?_append,if_neg (by omega),show fs.length*3+2-cells.length=2 by omega];rfl)
      rwa [Addr.add_lit,Nat.zero_add] at this
     have gq:=(J_.out.cell (p:=⟨gF,fs.length*3+2,none⟩) (show gF<w.heap.size by omega)).trans nS
     have hfn:fs.length≤4194304:=by have:=HI.out.lens.fns;rw [HI.out.rd.fns,List.length_append] at this;omega
     have hcd:f.code.length≤4194304:=HI.out.lens.code f (by rw [HI.out.rd.fns];simp)
     obtain⟨i0,hi0,hz,hs',hby⟩:=info_parts NG
     have e0:=fA.out.q 0 rfl
     have e1:=fA.out.q 1 rfl
     have e2:=fA.out.q 2 rfl
     have MF:=fA.out.lt
     have hszW:=J_.out.size
     have EM:Below wr.heap.size wr (wr.alloc (.cells #[.int .u8 (r.op:Nat),.int .i64 0,.slice Al k cl] 53)).drew.drew:=(((Below.refl _ _).alloc (Nat.le_refl _) _).drew).drew
     have KQ:=AA (J_.out.trans (EM.mono hszW))
     have bB:=AA ((Rd.i64.sl false).below hnl EM (by omega))
     have k1:=(EM.cell (p:=⟨gF,fs.length*3+2,none⟩) (show gF<wr.heap.size by omega)).trans gq
     have k2:=(EM.cell (p:=⟨h6+1,0,none⟩) MF).trans e0
     have k3:=(EM.cell (p:=⟨h6+1,1,none⟩) MF).trans e1
     have k4:=(EM.cell (p:=⟨h6+1,2,none⟩) MF).trans e2
     have Uy:=AA (BI HI.out.code.own KQ.out)
     have GK:Hid (Row (wr.alloc (.cells #[.int .u8 (r.op:Nat),.int .i64 0,.slice Al k cl] 53)).drew.drew (wr.heap.size+1) (some ⟨wr.heap.size,0,none⟩) [.int .u8 (r.op:Nat),.int .i64 0,.slice Al k cl]):=AA (Ak wr [.int .u8 (r.op:Nat),.int .i64 0,.slice Al k cl] 53)
     have hk0:(0:Int)≤fs.length:=by omega
     clear EM nS
     go_wp2_with fail
     go_region
     all_goals
      go_wp2_with fail
      go_region_law (refine Au rfl (.tmp 82) (.tmp 84) 54 rfl lo 53 i0 _ 3 40 underlying54 hi0 hz hs' hby rfl (by omega) _ f.code.length Gd rfl Uy.out _ _ 1 1 [.int .u8 (r.op:Nat),.int .i64 0,.slice Al k cl] rfl rfl GK.out (by intro u hu;simp at hu;rcases hu with rfl | rfl | rfl<;>rfl) (by unfold maxLen;omega) (by omega) (by simp;omega) ?_;intro A4 c4 w9 h2 h3 h4;have bC:=(HI.out.rd.fn.XW KQ.out h3 HI.out.code.lt);have TJ:=bC.1;have hc4:=bC.2;have H2:=AA h2;have H3:=AA h3;have H4:=AA h4;clear h2 h3 h4 bC)
      all_goals
       go_end0
       have hfin:=HI.out.rd.push (.slice Ac f.code.length cc) HI.out.code KQ.out (x:=⟨UInt8.ofNat r.op,0,ns⟩) (Dw.2 ⟨.slice Al k cl,by unfold bv;rw [UInt8.toNat_ofNat',Nat.mod_eq_of_lt (by have:=iY.out;omega)],by exact bA.out,bB.out⟩) (l1:=h6+2) (h1:=wr.heap.size) (by omega) (by first | (simp;done) | (simp;omega)) H2.out H3.out H4.out
       exact .inr ⟨_,yQ.out,rfl,hfin⟩
  ·have hq3:((r.takes:Int)==3)=false:=by rw [beq_eq_false_iff_ne];exact ht3
   have qw:Hid (OT r ws=match ws with | [a]=>(BH a).map fun n=>⟨UInt8.ofNat r.op,n,[]⟩ | _=>none):=AA (by unfold OT;rw [if_neg ht0,if_neg ht3];rcases ws with _ | ⟨a,_ | ⟨b,t⟩⟩<;>rfl)
   clear ht0 ht3
   generalize r.takes=tk at*
   go_wp2_with fail
   refine(BU (some ⟨A,0,none⟩) (ws.length+1) (ws.length+1) 2 w5).mono ?_
   rintro e w6 ⟨rfl,⟨h1,rfl⟩ | ⟨h1,rfl⟩⟩
   case inr=>
    have HN:Hid (Pv m w0 ws=none):=AA (by
     rw [HY.out,qw.out]
     rcases ws with _ | ⟨a,_ | ⟨b,t⟩⟩
     ·rfl
     ·simp at h1
     ·rfl)
    go_wp2_with fail
    exact⟨rfl,.inl ⟨HN.out,rfl,JX.out⟩⟩
   obtain⟨x1,rfl⟩: ∃x1,ws= [x1]:=by
    have:=of_decide_eq_true h1
    rcases ws with _ | ⟨a,_ | ⟨b,t⟩⟩<;>simp_all
   clear h1
   have hw1:=(JX.out.cell (p:=⟨A,1,none⟩) Md).trans (HI.out.wd.at_ 1 x1 rfl)
   have hx1:=HI.out.wd.sz x1 (by simp)
   have hsz5:=JX.out.size
   simp only [List.length_cons,List.length_nil]
   go_wp2_with fail
   refine(CQ x1 (by omega) w5 (HI.out.env.up JX.out (by omega)) (by omega)).mono ?_
   rintro e w6 ⟨hb6,⟨h0,rfl⟩ | ⟨n,hn,hn63,rfl⟩⟩
   ·have HN:Hid (Pv m w0 [x1]=none):=AA (by rw [HY.out,qw.out];show((BH x1).map _).map _=none;rw [h0];rfl)
    go_wp2_with fail
    exact⟨rfl,.inl ⟨HN.out,rfl,JX.out.trans (hb6.mono hsz5)⟩⟩
   have yQ:Hid (Pv m w0 [x1]=some {m with fns:=GJ m.fns ⟨UInt8.ofNat r.op,n,[]⟩}):=AA (by rw [HY.out,qw.out];show((BH x1).map _).map _=_;rw [hn];rfl)
   have hx6:=yP.out.below hb6 yP.out.lt
   have qa:=hx6.q 1 rfl
   have qf:=hx6.frozen 1
   have yS:=AA hx6;have Lr:=AA (JX.out.trans (hb6.mono hsz5));have bA:=AA hn63
   clear hx6 hb6 hn hn63 q2 q8
   go_upto_region 15 with fail
   generalize hw7:w6.setCell _ _=w7
   have M_:Below w.heap.size w w7:=by rw [←hw7];exact Lr.out.setCell (p:=⟨h6+1,1,none⟩) (show w.heap.size≤h6+1 by omega) _
   have hx7:AL w7 (h6+1) 53 [.int .u8 (r.op:Nat),.int .i64 n,.slice none 0 0]:=by rw [←hw7];exact yS.out.set 1 _
   clear hw7 qa qf yS Lr
   have bD:=AA M_;have UD:=AA hx7
   clear M_ hx7
   have hnl:(Rd.i64.sl false).R w7 w.heap.size w.heap.size [.slice none 0 0] []:=W_
   have g5:=(bD.out.cell (p:=⟨b,5,none⟩) hbl).trans hc5
   have gF1:=HI.out.rd.fn.at_ gF rfl
   have glo:=HI.out.rd.fn.vo
   have nS:w.cell? ⟨gF,fs.length*3+2,none⟩=some (.slice Ac f.code.length cc):=by
    have hcl:cells.length=fs.length*3:=by
     have:=HI.out.rd.fn.own.1
     rw [List.length_append] at this
     simp at this
     omega
    have:=HI.out.rd.fn.own.cells (g:=gF) rfl (fs.length*3+2) (.slice Ac f.code.length cc) (by rw [List.getElem?_append,if_neg (by omega),show fs.length*3+2-cells.length=2 by omega];rfl)
    rwa [Addr.add_lit,Nat.zero_add] at this
   have gq:=(bD.out.cell (p:=⟨gF,fs.length*3+2,none⟩) (show gF<w.heap.size by omega)).trans nS
   have hfn:fs.length≤4194304:=by have:=HI.out.lens.fns;rw [HI.out.rd.fns,List.length_append] at this;omega
   have hcd:f.code.length≤4194304:=HI.out.lens.code f (by rw [HI.out.rd.fns];simp)
   obtain⟨i0,hi0,hz,hs',hby⟩:=info_parts NG
   have e0:=UD.out.q 0 rfl
   have e1:=UD.out.q 1 rfl
   have e2:=UD.out.q 2 rfl
   have MF:=UD.out.lt
   have hszW:=bD.out.size
   have EM:Below w7.heap.size w7 (w7.alloc (.cells #[.int .u8 (r.op:Nat),.int .i64 n,.slice none 0 0] 53)).drew.drew:=(((Below.refl _ _).alloc (Nat.le_refl _) _).drew).drew
   have KQ:=AA (bD.out.trans (EM.mono hszW))
   have bB:=AA ((Rd.i64.sl false).below hnl EM (by omega))
   have k1:=(EM.cell (p:=⟨gF,fs.length*3+2,none⟩) (show gF<w7.heap.size by omega)).trans gq
   have k2:=(EM.cell (p:=⟨h6+1,0,none⟩) MF).trans e0
   have k3:=(EM.cell (p:=⟨h6+1,1,none⟩) MF).trans e1
   have k4:=(EM.cell (p:=⟨h6+1,2,none⟩) MF).trans e2
   have Uy:=AA (BI HI.out.code.own KQ.out)
   have GK:Hid (Row (w7.alloc (.cells #[.int .u8 (r.op:Nat),.int .i64 n,.slice none 0 0] 53)).drew.drew (w7.heap.size+1) (some ⟨w7.heap.size,0,none⟩) [.int .u8 (r.op:Nat),.int .i64 n,.slice none 0 0]):=AA (Ak w7 [.int .u8 (r.op:Nat),.int .i64 n,.slice none 0 0] 53)
   have hk0:(0:Int)≤fs.length:=by omega
   clear EM nS
   go_wp2_with fail
   go_region
   all_goals
    go_wp2_with fail
    go_region_law (refine Au rfl (.tmp 82) (.tmp 84) 54 rfl lo 53 i0 _ 3 40 underlying54 hi0 hz hs' hby rfl (by omega) _ f.code.length Gd rfl Uy.out _ _ 1 1 [.int .u8 (r.op:Nat),.int .i64 n,.slice none 0 0] rfl rfl GK.out (by intro u hu;simp at hu;rcases hu with rfl | rfl | rfl<;>rfl) (by unfold maxLen;omega) (by omega) (by simp;omega) ?_;intro A4 c4 w9 h2 h3 h4;have bC:=(HI.out.rd.fn.XW KQ.out h3 HI.out.code.lt);have TJ:=bC.1;have hc4:=bC.2;have H2:=AA h2;have H3:=AA h3;have H4:=AA h4;clear h2 h3 h4 bC)
    all_goals
     go_end0
     have hfin:=HI.out.rd.push (.slice Ac f.code.length cc) HI.out.code KQ.out (x:=⟨UInt8.ofNat r.op,n,[]⟩) (Dw.2 ⟨.slice none 0 0,by unfold bv;rw [UInt8.toNat_ofNat',Nat.mod_eq_of_lt (by have:=iY.out;omega)],by exact bA.out,bB.out⟩) (l1:=w.heap.size) (h1:=w.heap.size) (by omega) (by first | (simp;done) | (simp;omega)) H2.out H3.out H4.out
     exact .inr ⟨_,yQ.out,rfl,hfin⟩
end
def Ei (B b:Nat) (w:World) (ln:Nat) (res:Option Ka) (e:Ending) (w':World):Prop:=
 Keep (fun k=>k<B∧k≠b) w w'∧((res=none∧e= .panicked QT∧w'.cell? ⟨b,9,none⟩=some (.int .i64 ln))∨ ∃r',res=some r'∧e= .returned (.tuple #[])∧Qt B b w' r' ln)
structure kU (B b hi M:Nat) (w:World) (r:Ka) (ln:Nat) (s:ByteArray):Prop where
 rd:Qt B b w r ln
 map:w.heap[M]?=some (.map Gf 8)
 mlt:M<w.heap.size
 env:Dv hi w
 hhi:hi≤b
 lens:Lens r.m 4194304
 sz:s.size≤1048576
theorem OL.stage {B b:Nat} {w:World} {col:Nat→Nat} {v1 v2 v3 v6 v7 v8:Value} {m:AP} {st ln:Nat} (h:OL B b w col v1 v2 v3 v6 v7 v8 m st ln) (q:Nat):
 OL B b (w.setCell ⟨b,8,none⟩ (.int .i64 q)) col v1 v2 v3 v6 v7 v8 m q ln:=by
 have hlow:=h.low
 have hK:Keep (fun k=>k≠b) w (w.setCell ⟨b,8,none⟩ (.int .i64 q)):=(Keep.refl _ w).setCell (p:=⟨b,8,none⟩) (fun e=>e rfl) _
 exact⟨h.blk.set 8 _,h.six.keep hK (fun k hk _ _=>by omega) col (fun _ _ _=>rfl),hlow,Nat.le_trans h.top hK.size,h.first,h.most⟩
theorem KR {P:Program} {W:World} {mty kt et:TypeId} {M clock:Nat} {es:Array MapEntry} {s:ByteArray} {i:Nat} {v:Value} (hm:P.underlying mty=some (.map kt et)) (hk:P.underlying kt=some .string) (hb:W.heap[M]?=some (.map es clock))
 (hf:Instr.findNow .string (.string s) es.toList 0=some (some (i,v))):(Instr.lookup mty (.map (some M)) (.string s) true).run P W= .ok (.tuple #[v,.bool true]) W:=by
 have hc:(Instr.checkKey es.isEmpty 10000 kt (.string s)).run P W= .ok () W:=MapKept.run_checkKey (k:= .string s) hk (by simp [MapKept.IsKey]) _ 9999
 simp [Instr.lookup,run_underlying hm,MapKept.run_getObj_map hb,hc,MapKept.run_findKey hk hf,Result.andThen]
theorem ZK {P:Program} {W:World} {mty kt et:TypeId} {M clock:Nat} {es:Array MapEntry} {s:ByteArray} {z:Value} (hm:P.underlying mty=some (.map kt et)) (hk:P.underlying kt=some .string) (hb:W.heap[M]?=some (.map es clock))
 (hz:(zeroValue et).run P W= .ok z W) (hf:Instr.findNow .string (.string s) es.toList 0=some none):(Instr.lookup mty (.map (some M)) (.string s) true).run P W= .ok (.tuple #[z,.bool false]) W:=by
 have hc:(Instr.checkKey es.isEmpty 10000 kt (.string s)).run P W= .ok () W:=MapKept.run_checkKey (k:= .string s) hk (by simp [MapKept.IsKey]) _ 9999
 simp [Instr.lookup,run_underlying hm,MapKept.run_getObj_map hb,hc,MapKept.run_findKey hk hf,hz,Result.andThen]
section
variable {B b hi M:Nat} {w:World} {r:Ka} {ln:Nat} {s:ByteArray}
theorem JI {w w1:World} {A:Nat} {ws:List ByteArray} (ho:w1.ownsRow w.heap.size 9 1 (.slice (some ⟨A,0,none⟩) ws.length ws.length) ws.length (ws.map Value.string)) (hA:w.heap.size≤A) (hne:ws≠ []) (ht:Em ws≤1048577):ED w1 A ws:=by
 rcases ho.2 with⟨_,h0⟩ | ⟨g,cap,cur,hv,_,hg,_⟩
 ·exact absurd (List.eq_nil_of_length_eq_zero h0) hne
 ·injection hv with e
  injection e with e
  injection e with e
  subst e
  refine⟨(Array.getElem?_eq_some_iff.1 hg).1,fun j x hx=> ?_,ht⟩
  have:=ho.cells (g:=A) rfl j (.string x) (by rw [List.getElem?_map,hx];rfl)
  rwa [Addr.add_lit,Nat.zero_add] at this
end
end Go.Proofs.YtejbcledkhioeaaGreatDoor
