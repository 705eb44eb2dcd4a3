/- Part 19 of the proof: OpsO OpsF InsB InsC InsE -/
import Derived.StillTailTactics
import Derived.Test.YtejbcledkhioeaaGreatDoorQ09
import Derived.Test.YtejbcledkhioeaaGreatDoorQ13
namespace Go.Proofs.YtejbcledkhioeaaGreatDoor
set_option linter.unusedVariables false
set_option linter.unusedSimpArgs false
set_option maxRecDepth 100000
set_option maxHeartbeats 4000000
open Go.RowKit Tryz
section
def opC (r:XD):Array Value:= #[.int .u8 (r.op:Nat),.string r.word,.int .i8 r.takes,.string r.pops,.string r.pushes,.bool r.plain]
def wE:Array Value:= #[.int .u8 0,.string ⟨#[]⟩,.int .i8 0,.string ⟨#[]⟩,.string ⟨#[]⟩,.bool false]
def Jo (op:Nat):Value:=match DU op with
 | none=> .tuple #[.agg wE,.bool false]
 | some r=> .tuple #[.agg (opC r),.bool true]
def eX (op:Nat):Bool:=match DU op with
 | none=>decide ((Lib.fields (DF op).2.1.data.toList).length≤op-(DF op).1)
 | some r=>match (Lib.fields (DF op).2.1.data.toList)[op-(DF op).1]? with
  | none=>false
  | some x=>decide ((DF op).2.2.data.toList++x=r.word.data.toList)
theorem iQ:(List.range 256).all eX=true:=by kernel_rfl
theorem ZI {op:Nat} (h:op<256):eX op=true:=List.all_eq_true.1 iQ op (List.mem_range.2 h)
theorem U2 {op:Nat} (h:op<256) (hr:DU op=none):(Lib.fields (DF op).2.1.data.toList).length≤op-(DF op).1:=by
 have:=ZI h
 unfold eX at this
 rw [hr] at this
 exact of_decide_eq_true this
theorem QV {op:Nat} {r:XD} (h:op<256) (hr:DU op=some r): ∃x,(Lib.fields (DF op).2.1.data.toList)[op-(DF op).1]?=some x∧(DF op).2.2++(⟨x.toArray⟩:ByteArray)=r.word:=by
 have:=ZI h
 unfold eX at this
 rw [hr] at this
 simp only at this
 split at this
 ·cases this
 ·rename_i x hx
  refine⟨x,hx,?_⟩
  have h2:=of_decide_eq_true this
  apply ByteArray.ext
  apply Array.toList_inj.1
  rw [ByteArray.data_append,Array.toList_append]
  exact h2
theorem iR: ∀r∈EB,r.word.size≤64:=by
 have h:EB.all (fun r=>decide (r.word.size≤64))=true:=by kernel_rfl
 exact fun r hr=>of_decide_eq_true (List.all_eq_true.1 h r hr)
attribute [local irreducible] DU DF
theorem QD {fn:Func} {p u:Tmp} {ty:TypeId} {tmps:Array Value} {P:Program} {w:World} {a:Addr} {v v2:Value} (h:fn.results= #[.cell p ty,.tmp u]) (hp:tmps.getD p undef= .pointer (some a)) (hu:tmps.getD u undef=v2) (hl:(loadVar ty a).run P w= .ok v w):
 (results fn tmps).run P w= .ok (.tuple #[v,v2]) w:=by
 rw [results_cell_tmp h,hp,hu]
 show((loadVar ty a).run P w).andThen _=_
 rw [hl]
 rfl
theorem U3 {W:World} {g:Nat} {y0 y1 y2 y3 y4 y5:Value} (h:AL W g 136 [y0,y1,y2,y3,y4,y5]):(loadVar 136 ⟨g,0,none⟩).run prog W= .ok (.agg #[y0,y1,y2,y3,y4,y5]) W:=
 run_loadVar_row W g 136 136 #[y0,y1,y2,y3,y4,y5] (0,0) _ h underlying136 rfl (by kernel_rfl)
theorem SI (op:Nat) (w:World) (hop:op<256) (htab:Lib.TabIs prog w "strings.asciiSpace" .u8 Lib.asciiSpaceTab):
 Calls prog 78 #[.int .u8 op] w fun e w'=>Below w.heap.size w w'∧e= .returned (Jo op):=by
 have Ht:=AA (Lib.tabBelow_of_tabIs htab)
 clear htab
 go_enter func78,ntmps78
 go_wp2_with fail
 generalize hw:w.alloc _=w1
 have H1:Hid (Below w.heap.size w w1):=by rw [←hw];exact AA ((Below.refl _ _).alloc (Nat.le_refl _) _)
 have Hb1:Hid (AL w1 w.heap.size 136 wE.toList):=by rw [←hw];exact AA (AL.new w 136 wE.toList)
 clear hw
 refine(eU op w1 hop (Ht.out _ H1.out)).mono ?_
 rintro e w2 ⟨hbe,⟨hl,rfl⟩ | ⟨hl,g,rfl,hg1,hg2,hc⟩⟩
 ·have H2:=AA (H1.out.trans (hbe.mono H1.out.size))
  have Hb2:=AA (Hb1.out.below hbe Hb1.out.lt)
  clear hbe
  have he0:=Hb2.out.q 0 rfl
  have hf0:=Hb2.out.frozen 0
  have he1:=Hb2.out.q 1 rfl
  have hf1:=Hb2.out.frozen 1
  have he2:=Hb2.out.q 2 rfl
  have hf2:=Hb2.out.frozen 2
  have qo:=Hb2.out.q 3 rfl
  have hf3:=Hb2.out.frozen 3
  have he4:=Hb2.out.q 4 rfl
  have TJ:=Hb2.out.frozen 4
  have qp:=Hb2.out.q 5 rfl
  have hf5:=Hb2.out.frozen 5
  go_wp2_with fail
  have hblk:=(AL.set (AL.set (AL.set (AL.set (AL.set (AL.set Hb2.out 0 (.int .u8 0)) 1 (.string ⟨#[]⟩)) 2 (.int .i8 0)) 3 (.string ⟨#[]⟩)) 4 (.string ⟨#[]⟩)) 5 (.bool false))
  have hno:DU op=none:=by
   cases hr:DU op with
   | none=>rfl
   | some r=>
    obtain⟨x,hx,_⟩:=QV hop hr
    have:=(List.getElem?_eq_some_iff.1 hx).1
    omega
  refine bodyPost_ret (QD rfl rfl rfl (U3 hblk)) rfl ⟨(Below.setCell (Below.setCell (Below.setCell (Below.setCell (Below.setCell (Below.setCell H2.out (p:=⟨w.heap.size,0,none⟩) (Nat.le_refl _) (.int .u8 0)) (p:=⟨w.heap.size,1,none⟩) (Nat.le_refl _) (.string ⟨#[]⟩)) (p:=⟨w.heap.size,2,none⟩) (Nat.le_refl _) (.int .i8 0)) (p:=⟨w.heap.size,3,none⟩) (Nat.le_refl _) (.string ⟨#[]⟩)) (p:=⟨w.heap.size,4,none⟩) (Nat.le_refl _) (.string ⟨#[]⟩)) (p:=⟨w.heap.size,5,none⟩) (Nat.le_refl _) (.bool false)),?_⟩
  unfold Jo
  rw [hno]
  rfl
 ·have H2:=AA (H1.out.trans (hbe.mono H1.out.size))
  have Hb2:=AA (Hb1.out.below hbe Hb1.out.lt)
  clear hbe
  obtain⟨r,hr⟩: ∃r,DU op=some r:=by
   cases hr:DU op with
   | none=>have:=U2 hop hr;omega
   | some r=>exact⟨r,rfl⟩
  obtain⟨hm,rfl⟩:=Iu hr
  obtain⟨y,hy,hwd⟩:=QV hop hr
  have hcw:w2.cell? ⟨g,r.op-(DF r.op).1,none⟩=some (.string ⟨y.toArray⟩):=hc _ y hy
  have Hr:=AA hr
  clear hc hy hr
  generalize (DF r.op).2.2=ah at*
  generalize hfl:(Lib.fields (DF r.op).2.1.data.toList).length=fl at*
  generalize r.op-(DF r.op).1=n at*
  clear hfl
  have HT:Hid (∀W,Calls prog 132 #[.int .u8 (r.op:Nat)] W fun e w'=>e= .returned (.int .i8 r.takes)∧w'=W):=AA (fun W=>(Vu W r hm).mono fun e w' h=>⟨h.2,h.1.symm⟩)
  have HP:=AA (Vt w2 r hm)
  have hsum:ah.size+y.length≤64:=by
   have h1:=iR r hm
   rw [←hwd,ByteArray.size_append] at h1
   have h3:(⟨y.toArray⟩:ByteArray).size=y.length:=List.size_toArray
   rwa [h3] at h1
  have hsum2: ¬(9223372036854775807<ah.size+y.length):=by omega
  clear hm
  have hn0:(0:Int)≤n:=by omega
  have hn1:decide ((n:Int)<0)=false:=decide_eq_false (by omega)
  go_wp2_with fail
  refine HP.out.mono ?_
  rintro e w' ⟨rfl,rfl⟩
  go_wp2_with fail
  go_still_tail 13,(by kernel_rfl)
  repeat still_step
  still_call (HT.out _)
  repeat still_step
  refine wpStill_nil ?_
  change wpList _ _ _ _ _ w2.drew
  have H2:=AA (below_drewN H2.out 1)
  have Hb2:Hid (AL w2.drew w.heap.size 136 wE.toList):=AA (Hb2.out.drewN 1)
  change Hid (Below w.heap.size w w2.drew)at H2
  clear hcw
  generalize w2.drew=w3 at*
  have he0:=Hb2.out.q 0 rfl
  have hf0:w3.frozen? ⟨w.heap.size,0,none⟩=false:=Hb2.out.frozen 0
  have he1:=Hb2.out.q 1 rfl
  have hf1:w3.frozen? ⟨w.heap.size,1,none⟩=false:=Hb2.out.frozen 1
  have he2:=Hb2.out.q 2 rfl
  have hf2:w3.frozen? ⟨w.heap.size,2,none⟩=false:=Hb2.out.frozen 2
  have qo:=Hb2.out.q 3 rfl
  have hf3:w3.frozen? ⟨w.heap.size,3,none⟩=false:=Hb2.out.frozen 3
  have he4:=Hb2.out.q 4 rfl
  have TJ:w3.frozen? ⟨w.heap.size,4,none⟩=false:=Hb2.out.frozen 4
  have qp:=Hb2.out.q 5 rfl
  have hf5:w3.frozen? ⟨w.heap.size,5,none⟩=false:=Hb2.out.frozen 5
  go_wp2_with fail
  have hblk:=(AL.set (AL.set (AL.set (AL.set (AL.set (AL.set Hb2.out 0 (.int .u8 (r.op:Nat))) 1 (.string r.word)) 2 (.int .i8 r.takes)) 3 (.string r.pops)) 4 (.string r.pushes)) 5 (.bool r.plain))
  refine bodyPost_ret (QD rfl rfl rfl (U3 hblk)) rfl ⟨(Below.setCell (Below.setCell (Below.setCell (Below.setCell (Below.setCell (Below.setCell H2.out (p:=⟨w.heap.size,0,none⟩) (Nat.le_refl _) (.int .u8 (r.op:Nat))) (p:=⟨w.heap.size,1,none⟩) (Nat.le_refl _) (.string r.word)) (p:=⟨w.heap.size,2,none⟩) (Nat.le_refl _) (.int .i8 r.takes)) (p:=⟨w.heap.size,3,none⟩) (Nat.le_refl _) (.string r.pops)) (p:=⟨w.heap.size,4,none⟩) (Nat.le_refl _) (.string r.pushes)) (p:=⟨w.heap.size,5,none⟩) (Nat.le_refl _) (.bool r.plain)),?_⟩
  unfold Jo
  rw [Hr.out]
  rfl
end
def IW (n:Nat):List UInt8:=((List.range n).filter (fun k=>(DU k).isSome)).map UInt8.ofNat
theorem U4 (n:Nat):IW (n+1)=IW n++(if(DU n).isSome then [UInt8.ofNat n] else []):=by
 unfold IW
 rw [List.range_succ,List.filter_append,List.map_append]
 congr 1
 by_cases h:(DU n).isSome=true
 ·simp [List.filter_cons,h]
 ·simp [List.filter_cons,h]
theorem iT (n:Nat):(IW n).length≤n:=by
 unfold IW
 rw [List.length_map]
 exact Nat.le_trans (List.length_filter_le _ _) (by simp)
theorem iU:IW 256=EB.map (fun r=>UInt8.ofNat r.op):=by kernel_rfl
def ay (w:World) (l i:Value) (wr:World):Prop:=
 ∃(n:Nat) (A:Option Addr) (c:Nat),n≤256∧i= .int .i64 n∧l= .slice A (IW n).length c∧wr.ownsRow w.heap.size 5 1 (.slice A (IW n).length c) (IW n).length ((IW n).map bv)∧Below w.heap.size w wr
theorem su (w:World) (htab:Lib.TabIs prog w "strings.asciiSpace" .u8 Lib.asciiSpaceTab):
 Calls prog 192 #[] w fun e w'=> ∃A c,e= .returned (.slice A (IW 256).length c)∧w'.ownsRow w.heap.size 5 1 (.slice A (IW 256).length c) (IW 256).length ((IW 256).map bv)∧Below w.heap.size w w':=by
 have Ht:=AA (Lib.tabBelow_of_tabIs htab)
 clear htab
 obtain⟨i0,hi0,hz,hs',hby⟩:=info_parts Jl
 go_enter func192,ntmps192
 go_wp2_with fail
 go_loopw [1,6] (fun l i wr=>ay w l i wr) (fun _ i _=>256-(intOf i).toNat)
 case atStart=>exact⟨0,none,0,Nat.zero_le _,rfl,rfl,⟨by simp [IW],.inl ⟨rfl,rfl⟩⟩,Below.refl _ _⟩
 case round=>
  obtain⟨n,A,c,hn,rfl,rfl,hown,hb⟩:=hrel
  have HOWN:=AA hown;have HB:=AA hb
  have hlen:=iT n
  clear hown hb
  by_cases hlt:n<256
  ·have d1:decide ((n:Int)<256)=true:=decide_eq_true (by omega)
   have hm:(n:Int)%256=(n:Int):=by omega
   have HC:=AA (eU n wr (by omega) (Ht.out wr HB.out))
   go_wp2_with fail
   refine HC.out.mono ?_
   clear HC
   rintro e w2 ⟨hb2,⟨hl,rfl⟩ | ⟨hl,g,rfl,hg1,hg2,hc⟩⟩
   ·have hno:(DU n).isSome=false:=by
     cases hr:DU n with
     | none=>rfl
     | some r=>
      obtain⟨x,hx,_⟩:=QV (by omega) hr
      have:=(List.getElem?_eq_some_iff.1 hx).1
      omega
    have hnx:IW (n+1)=IW n:=by rw [U4,hno];simp
    have hfin:ay w (.slice A (IW n).length c) (.int .i64 ((n+1:Nat):Int)) w2:=⟨n+1,A,c,by omega,rfl,by rw [hnx],by rw [hnx];exact BI HOWN.out hb2,HB.out.trans (hb2.mono HB.out.size)⟩
    have Dz:=AA hfin
    clear hl hb2 hno hnx hfin
    go_wp2_with fail
    exact⟨Dz.out,by show 256-((n:Int)+1).toNat<256-(n:Int).toNat;omega⟩
   ·have hyes:(DU n).isSome=true:=by
     cases hr:DU n with
     | none=>have:=U2 (by omega) hr;omega
     | some r=>rfl
    have hnx:IW (n+1)=IW n++ [UInt8.ofNat n]:=by rw [U4,hyes];rfl
    have hge:decide ((0:Int)≤((n-(DF n).1:Nat):Int))=true:=decide_eq_true (by omega)
    have kS:=AA (BI HOWN.out hb2);have HB2:=AA (HB.out.trans (hb2.mono HB.out.size));have YQ:=AA hnx
    generalize (DF n).2.2=ah at*
    generalize (Lib.fields (DF n).2.1.data.toList).length=fl at*
    generalize n-(DF n).1=nn at*
    have GK:Hid (Row (w2.alloc (.cells #[.int .u8 n] 5)) (w2.heap.size+1) (some ⟨w2.heap.size,0,none⟩) [.int .u8 n]):=AA (Ak w2 [.int .u8 n] 5)
    have hsz2:=HB2.out.size
    generalize Z6:IW n=LL at*
    clear hl hb2 hyes hnx hc
    go_wp2_with (at_builtin;refine MR _ rfl (.tmp 18) (.tmp 21) 41 rfl w.heap.size 5 i0 _ 1 1 underlying41 hi0 hz hs' hby rfl (by omega) _ LL.length (LL.map bv) rfl (kS.out.alloc _) (w2.heap.size+1) _ 1 1 [.int .u8 n] rfl rfl GK.out (by intro u hu;simp at hu;subst hu;rfl) (by unfold maxLen;omega) (by omega) (by simp;omega) ?_)
    intro A4 c4 w9 h2 h3 h4
    have hfin:ay w (.slice A4 (LL.length+1) c4) (.int .i64 ((n+1:Nat):Int)) w9:=by
     refine⟨n+1,A4,c4,by omega,rfl,?_,?_,?_⟩
     ·rw [YQ.out,List.length_append];rfl
     ·rw [YQ.out,List.length_append,List.map_append]
      have hv:bv (UInt8.ofNat n)= .int .u8 n:=by
       unfold bv
       rw [UInt8.toNat_ofNat',Nat.mod_eq_of_lt (by omega)]
      show World.ownsRow _ _ _ _ _ _ (LL.map bv++ [bv (UInt8.ofNat n)])
      rw [hv]
      exact h2
     ·have h1:=HB2.out.alloc hsz2 (.cells #[.int .u8 n] 5)
      exact⟨h3.os.trans h1.os,h3.tape.trans h1.tape,h3.output.trans h1.output,Nat.le_trans h1.size h3.size,fun q hq=>(h3.block q (Nat.lt_of_lt_of_le hq h1.size) (fun e=>by have:=(kS.out.lt q e.symm).1;omega)).trans (h1.block q hq)⟩
    have Dz:=AA hfin
    clear h2 h3 h4 hfin
    go_wp2_with fail
    exact⟨Dz.out,by show 256-((n:Int)+1).toNat<256-(n:Int).toNat;omega⟩
  ·have d1:decide ((n:Int)<256)=false:=decide_eq_false (by omega)
   have hn6:n=256:=by omega
   subst hn6
   go_wp2_with fail
   go_ret
   exact⟨A,c,rfl,HOWN.out,HB.out⟩
theorem Xh: ∀r∈EB,r.takes=0∨r.takes=1∨r.takes=2∨r.takes=3∨r.takes=4∨r.takes=5∨r.takes=6∨r.takes=7∨r.takes=8∨r.takes=9:=by
 have h:EB.all (fun r=>decide (r.takes=0∨r.takes=1∨r.takes=2∨r.takes=3∨r.takes=4∨r.takes=5∨r.takes=6∨r.takes=7∨r.takes=8∨r.takes=9))=true:=by kernel_rfl
 exact fun r hr=>of_decide_eq_true (List.all_eq_true.1 h r hr)
theorem Q7 (r:XD) (hm:r∈EB) (w:World):Calls prog 195 #[.agg (opC r)] w fun e w'=>Below w.heap.size w w'∧e= .returned (.tuple #[.int .i64 (Aw r).1,.int .i64 (Aw r).2]):=by
 have ht:=Xh r hm
 clear hm
 obtain⟨op,word,takes,pops,pushes,plain⟩:=r
 unfold opC
 dsimp only at ht⊢
 rcases ht with rfl | rfl | rfl | rfl | rfl | rfl | rfl | rfl | rfl | rfl
 case inr.inr.inr.inr.inr.inr.inr.inr.inl=>
  by_cases hw:word=wconst
  ·subst hw
   unfold wconst
   go_enter func195,ntmps195
   go_wp2_with fail
   go_ret2
   exact⟨(Below.refl _ _).alloc (Nat.le_refl _) _,rfl⟩
  ·have hb:Aw ⟨op,word,8,pops,pushes,plain⟩=(-9223372036854775808,9223372036854775807):=by simp [Aw,hw]
   rw [hb]
   have hne:(word.toList==wconst.toList)=false:=by
    rw [beq_eq_false_iff_ne]
    intro he
    rw [ByteArray.toList_eq,ByteArray.toList_eq] at he
    exact hw (ByteArray.ext (Array.toList_inj.1 he))
   rw [show wconst.toList= [119,46,99,111,110,115,116] by rw [ByteArray.toList_eq];rfl] at hne
   clear hb hw
   go_enter func195,ntmps195
   go_wp2_with fail
   go_ret2
   exact⟨(Below.refl _ _).alloc (Nat.le_refl _) _,rfl⟩
 all_goals
  go_enter func195,ntmps195
  go_wp2_with fail
  go_ret2
  exact⟨(Below.refl _ _).alloc (Nat.le_refl _) _,rfl⟩
theorem Q8 (r:XD) (hm:r∈EB) (n:Int) (w:World):Calls prog 198 #[.agg (opC r),.int .i64 n] w fun e w'=>Below w.heap.size w w'∧e= .returned (.bool (decide ((Aw r).1≤n∧n≤(Aw r).2))):=by
 have HB:=AA (fun W=>Q7 r hm W)
 clear hm
 unfold opC at*
 go_enter func198,ntmps198
 go_wp2_with fail
 have H1:Hid (Below w.heap.size w (w.alloc (.cells #[.int .u8 (r.op:Nat),.string r.word,.int .i8 r.takes,.string r.pops,.string r.pushes,.bool r.plain] 136))):=AA ((Below.refl _ _).alloc (Nat.le_refl _) _)
 refine(HB.out _).mono ?_
 rintro e w2 ⟨hbe,rfl⟩
 have H2:=AA (H1.out.trans (hbe.mono H1.out.size))
 clear hbe H1 HB
 obtain⟨a,ha⟩: ∃a,a=(Aw r).1:=⟨_,rfl⟩
 obtain⟨b,hb⟩: ∃b,b=(Aw r).2:=⟨_,rfl⟩
 have Ha:=AA ha;have Hb:=AA hb
 rw [←ha,←hb]
 clear ha hb
 by_cases h1:a≤n
 ·have d1:decide (n≥a)=true:=decide_eq_true h1
  by_cases h2:n≤b
  ·have d2:decide (n≤b)=true:=decide_eq_true h2
   have D3:Hid (decide (a≤n∧n≤b)=true):=AA (decide_eq_true ⟨h1,h2⟩)
   go_wp2_with fail
   go_ret
   exact⟨H2.out,by rw [←Ha.out,←Hb.out,D3.out];rfl⟩
  ·have d2:decide (n≤b)=false:=decide_eq_false h2
   have D3:Hid (decide (a≤n∧n≤b)=false):=AA (decide_eq_false (fun h=>h2 h.2))
   go_wp2_with fail
   go_ret
   exact⟨H2.out,by rw [←Ha.out,←Hb.out,D3.out];rfl⟩
 ·have d1:decide (n≥a)=false:=decide_eq_false h1
  have D3:Hid (decide (a≤n∧n≤b)=false):=AA (decide_eq_false (fun h=>h1 h.1))
  go_wp2_with fail
  go_ret
  exact⟨H2.out,by rw [←Ha.out,←Hb.out,D3.out];rfl⟩
section
attribute [local irreducible] DU
theorem ZU (cs:List Value) (hi:Nat) (x:DL) (w:World) (h:JA.R w 0 hi cs x) (hhi:hi≤w.heap.size) (htab:Lib.TabIs prog w "strings.asciiSpace" .u8 Lib.asciiSpaceTab):
 Calls prog 160 #[.agg cs.toArray] w fun e w'=>Below w.heap.size w w'∧e= .returned (.int .i64 (Ai x)):=by
 have Ht:=AA (Lib.tabBelow_of_tabIs htab)
 obtain⟨gQ,rfl,YN,TR⟩:=Dw.1 h
 obtain⟨Sw,Rs,rfl⟩:=AX TR
 have H_l:=AA TR;have H_a:=AA YN
 clear h TR YN htab
 unfold bv
 go_enter func160,ntmps160
 go_wp2_with fail
 generalize hw:w.alloc _=w1
 have H1:Hid (Below w.heap.size w w1):=by rw [←hw];exact AA ((Below.refl _ _).alloc (Nat.le_refl _) _)
 have Hb1:Hid (AL w1 w.heap.size 53 [.int .u8 (x.op.toNat:Int),.int .i64 x.a,.slice Sw x.l.length Rs]):=by rw [←hw];exact AA (AL.new w 53 [.int .u8 (x.op.toNat:Int),.int .i64 x.a,.slice Sw x.l.length Rs])
 clear hw
 refine(SI x.op.toNat w1 (UInt8.toNat_lt x.op) (Ht.out _ H1.out)).mono ?_
 rintro e w2 ⟨hbe,rfl⟩
 have Hb2:=AA (Hb1.out.below hbe Hb1.out.lt)
 have H2:=AA (H1.out.trans (hbe.mono H1.out.size))
 clear hbe Hb1 H1
 have hsz:w.heap.size<w2.heap.size:=Hb2.out.lt
 cases hr:DU x.op.toNat with
 | none=>
  have ha:Jo x.op.toNat= .tuple #[.agg wE,.bool false]:=by unfold Jo;rw [hr]
  have HX:Hid (Ai x=21):=AA (by unfold Ai;rw [hr])
  rw [ha]
  unfold wE
  clear ha hr
  go_wp2_with fail
  go_ret
  exact⟨H2.out.alloc (by omega) _,by rw [HX.out];rfl⟩
 | some r=>
  have ha:Jo x.op.toNat= .tuple #[.agg (opC r),.bool true]:=by unfold Jo;rw [hr]
  have Hr:=AA hr
  rw [ha]
  unfold opC
  clear ha hr
  have hc1:=Hb2.out.q 1 rfl
  go_wp2_with fail
  generalize hw3:w2.alloc _=w3
  have H3:Hid (Below w.heap.size w w3):=by rw [←hw3];exact AA (H2.out.alloc (by omega) _)
  have Hb3:Hid (AL w3 w.heap.size 53 [.int .u8 (x.op.toNat:Int),.int .i64 x.a,.slice Sw x.l.length Rs]):=by rw [←hw3];exact AA (Hb2.out.alloc _)
  have Hc3:Hid (AL w3 w2.heap.size 136 (opC r).toList):=by rw [←hw3];exact AA (AL.new w2 136 (opC r).toList)
  clear hw3 hc1 hsz Hb2 H2
  refine(Q8 r (Iu Hr.out).1 x.a w3).mono ?_
  rintro e w4 ⟨hbe,rfl⟩
  have Hb4:=AA (Hb3.out.below hbe Hb3.out.lt)
  have Hc4:=AA (Hc3.out.below hbe Hc3.out.lt)
  have H4:=AA (H3.out.trans (hbe.mono H3.out.size))
  clear hbe H3 Hb3 Hc3
  by_cases hin:(Aw r).1≤x.a∧x.a≤(Aw r).2
  case neg=>
   have HX:Hid (Ai x=17):=AA (by unfold Ai;rw [Hr.out];simp only [if_pos hin])
   rw [decide_eq_false hin]
   clear hin
   go_wp2_with fail
   go_ret
   exact⟨H4.out,by rw [HX.out];rfl⟩
  rw [decide_eq_true hin]
  have hc2:=Hc4.out.q 2 rfl
  have hb2:=Hb4.out.q 2 rfl
  by_cases h3:r.takes=3
  case neg=>
   have hne:(r.takes !=3)=true:=by simpa using h3
   by_cases hl:0<x.l.length
   ·have HX:Hid (Ai x=17):=AA (by unfold Ai;rw [Hr.out];simp [hin,h3,hl])
    have d:decide ((x.l.length:Int)>0)=true:=decide_eq_true (by omega)
    clear hin h3
    go_wp2_with fail
    go_ret
    exact⟨H4.out,by rw [HX.out];rfl⟩
   ·have HX:Hid (Ai x=0):=AA (by unfold Ai;rw [Hr.out];simp [hin,h3,hl])
    have d:decide ((x.l.length:Int)>0)=false:=decide_eq_false (by omega)
    clear hin h3
    go_wp2_with fail
    go_ret
    exact⟨H4.out,by rw [HX.out];rfl⟩
  have hne:(r.takes !=3)=false:=by simpa using h3
  by_cases hl1:x.l.length<1
  ·have HX:Hid (Ai x=17):=AA (by unfold Ai;rw [Hr.out];simp only [hin,h3,and_self,not_true_eq_false,if_false,ne_eq];rw [if_pos (.inl hl1)])
   have d:decide ((x.l.length:Int)<1)=true:=decide_eq_true (by omega)
   clear hin h3
   go_wp2_with fail
   go_ret
   exact⟨H4.out,by rw [HX.out];rfl⟩
  have d:decide ((x.l.length:Int)<1)=false:=decide_eq_false (by omega)
  by_cases hl2:16<x.l.length
  ·have HX:Hid (Ai x=17):=AA (by unfold Ai;rw [Hr.out];simp only [hin,h3,and_self,not_true_eq_false,if_false,ne_eq];rw [if_pos (.inr hl2)])
   have d2:decide ((x.l.length:Int)>16)=true:=decide_eq_true (by omega)
   clear hin h3
   go_wp2_with fail
   go_ret
   exact⟨H4.out,by rw [HX.out];rfl⟩
  have d2:decide ((x.l.length:Int)>16)=false:=decide_eq_false (by omega)
  have HA:Hid (Ai x=if x.l.all (fun n=>decide (0≤n∧n≤2147483647)) then 0 else 17):=AA (by
   unfold Ai
   rw [Hr.out]
   simp only [hin,h3,and_self,not_true_eq_false,if_false,ne_eq]
   rw [if_neg (by omega)])
  have H_l4:=AA (Rd.below H_l.out H4.out hhi)
  clear hin h3
  go_wp2_with fail
  clear d d2 hne hc2 hb2
  go_loopw [6,40] (fun _ i wr=> ∃k:Nat,k≤x.l.length∧i= .int .i64 k∧wr=w4∧ ∀j y,j<k→x.l[j]?=some y→0≤y∧y≤2147483647) (fun _ i _=>x.l.length-(intOf i).toNat)
  case atStart=>exact⟨0,Nat.zero_le _,rfl,rfl,fun j y hj=>absurd hj (by omega)⟩
  case round=>
   obtain⟨k,hk,rfl,rfl,hall⟩:=hrel
   have Vw:=AA hall;clear hall
   by_cases hlt:k<x.l.length
   ·obtain⟨y,hy⟩: ∃y,x.l[k]?=some y:=⟨_,List.getElem?_eq_getElem hlt⟩
    obtain⟨b,o,rfl,_,_,cs,hcs,hrd⟩:=OE H_l4.out hy
    obtain⟨rfl,hy63⟩:=hrd
    have hc0:wr.cell? ⟨b,o+k,none⟩=some (.int .i64 y):=by
     have:=hcs 0 _ rfl
     rwa [show Rd.i64.z=1 from rfl,Nat.mul_one,Nat.add_zero] at this
    have hi0:(0:Int)≤k:=by omega
    have Hy:=AA hy
    clear hcs hy
    by_cases hy0:y<0
    ·have HX:Hid (Ai x=17):=AA (by
      rw [HA.out,if_neg]
      intro hal
      have:=of_decide_eq_true (List.all_eq_true.1 hal y (List.mem_of_getElem? Hy.out))
      omega)
     have e1:decide (y<0)=true:=decide_eq_true hy0
     go_wp2_with fail
     go_ret
     exact⟨H4.out,by rw [HX.out];rfl⟩
    have e1:decide (y<0)=false:=decide_eq_false hy0
    by_cases hy1:y>2147483647
    ·have HX:Hid (Ai x=17):=AA (by
      rw [HA.out,if_neg]
      intro hal
      have:=of_decide_eq_true (List.all_eq_true.1 hal y (List.mem_of_getElem? Hy.out))
      omega)
     have e2:decide (y>2147483647)=true:=decide_eq_true hy1
     go_wp2_with fail
     go_ret
     exact⟨H4.out,by rw [HX.out];rfl⟩
    have e2:decide (y>2147483647)=false:=decide_eq_false hy1
    have HN:Hid (∀j z,j<k+1→x.l[j]?=some z→0≤z∧z≤2147483647):=AA (fun j z hj hz=>by
     by_cases hjk:j<k
     ·exact Vw.out j z hjk hz
     ·obtain rfl:j=k:=by omega
      rw [Hy.out] at hz
      injection hz with hz
      omega)
    go_wp2_with fail
    refine⟨⟨k+1,by omega,by go_num,?_,HN.out⟩,by simp [intOf];omega⟩
    first | exact trivial | rfl
   ·have HX:Hid (Ai x=0):=AA (by
     rw [HA.out,if_pos]
     refine List.all_eq_true.2 fun y hy=> ?_
     obtain⟨j,hj⟩:=List.getElem?_of_mem hy
     have hj2:=(List.getElem?_eq_some_iff.1 hj).1
     exact decide_eq_true (Vw.out j y (by omega) hj))
    obtain rfl:k=x.l.length:=by omega
    go_wp2_with fail
    go_ret
    exact⟨H4.out,by rw [HX.out];rfl⟩
end
section
attribute [local irreducible] DU
def Gg (x:DL):List UInt8:=if Ai x=0 then Iw x else []
theorem ZV {x:DL} {r:XD} (h:Ai x=0) (hr:DU x.op.toNat=some r):(Aw r).1≤x.a∧x.a≤(Aw r).2∧(r.takes=3→x.l.length≤16∧ ∀n∈x.l,0≤n∧n≤2147483647):=by
 unfold Ai at h
 rw [hr] at h
 dsimp only at h
 split at h
 ·cases h
 ·rename_i hb
  have hb:=Decidable.not_not.1 hb
  refine⟨hb.1,hb.2,fun h3=> ?_⟩
  rw [if_neg (by simp [h3])] at h
  split at h
  ·cases h
  ·rename_i hl
   split at h
   ·rename_i ha
    exact⟨by omega,fun n hn=>of_decide_eq_true (List.all_eq_true.1 ha n hn)⟩
   ·cases h
theorem ZW {x:DL} (h:Ai x=0): ∃r,DU x.op.toNat=some r:=by
 cases hr:DU x.op.toNat with
 | none=>unfold Ai at h;rw [hr] at h;cases h
 | some r=>exact⟨r,rfl⟩
theorem Q9 {x:DL} {r:XD} (hr:DU x.op.toNat=some r):Iw x=x.op::(if r.takes=0 then [] else if r.takes=8 then enc (folded x.a) else if r.takes=3 then enc x.l.length++x.l.flatMap (fun n=>enc n.toNat) else enc x.a.toNat):=by
 unfold Iw;rw [hr]
theorem oJ {W:World} {base g:Nat} {t:TypeId} {v:Value} (hb:AL W g t [v]) (hg:base≤g):W.ownsRow base t 1 (.slice (some ⟨g,0,none⟩) 1 1) 1 [v]:=
 ⟨rfl,.inr ⟨g,1,#[v],rfl,hg,hb,Nat.le_refl _,by unfold maxLen;omega,rfl,rfl⟩⟩
theorem Xi (cs:List Value) (hi:Nat) (x:DL) (w:World) (h:JA.R w 0 hi cs x) (hhi:hi≤w.heap.size) (htab:Lib.TabIs prog w "strings.asciiSpace" .u8 Lib.asciiSpaceTab):
 Calls prog 122 #[.agg cs.toArray] w fun e w'=>Below w.heap.size w w'∧ ∃A c,e= .returned (.tuple #[.slice A (Gg x).length c,.int .i64 (Ai x)])∧w'.ownsRow w.heap.size 5 1 (.slice A (Gg x).length c) (Gg x).length ((Gg x).map bv):=by
 have Ht:=AA (Lib.tabBelow_of_tabIs htab)
 have Hh:=AA h
 obtain⟨gQ,rfl,YN,TR⟩:=Dw.1 h
 obtain⟨Sw,Rs,rfl⟩:=AX TR
 have H_l:=AA TR;have H_a:=AA YN
 clear h TR YN htab
 unfold bv at Hh⊢
 go_enter func122,ntmps122
 go_wp2_with fail
 generalize hw:w.alloc _=w1
 have H1:Hid (Below w.heap.size w w1):=by rw [←hw];exact AA ((Below.refl _ _).alloc (Nat.le_refl _) _)
 have Hb1:Hid (AL w1 w.heap.size 53 [.int .u8 (x.op.toNat:Int),.int .i64 x.a,.slice Sw x.l.length Rs]):=by rw [←hw];exact AA (AL.new w 53 [.int .u8 (x.op.toNat:Int),.int .i64 x.a,.slice Sw x.l.length Rs])
 clear hw
 refine(ZU [.int .u8 (x.op.toNat:Int),.int .i64 x.a,.slice Sw x.l.length Rs] hi x w1 (Rd.below Hh.out H1.out hhi) (Nat.le_trans hhi H1.out.size) (Ht.out _ H1.out)).mono ?_
 rintro e w2 ⟨hbe,rfl⟩
 have Hb2:=AA (Hb1.out.below hbe Hb1.out.lt)
 have H2:=AA (H1.out.trans (hbe.mono H1.out.size))
 clear hbe Hb1 H1
 by_cases h0:Ai x=0
 case neg=>
  have HO:Hid (Gg x= []):=AA (by unfold Gg;rw [if_neg h0])
  have hne:(Ai x !=0)=true:=by simpa using h0
  clear h0
  go_wp2_with fail
  go_ret2
  refine⟨H2.out,none,0,?_,?_⟩
  ·rw [HO.out];rfl
  ·rw [HO.out];exact World.ownsRow_nil _ _ _ _
 obtain⟨r,hr⟩:=ZW h0
 have HZ:=AA (ZV h0 hr)
 have HO:Hid (Gg x=x.op::(if r.takes=0 then [] else if r.takes=8 then enc (folded x.a) else if r.takes=3 then enc x.l.length++x.l.flatMap (fun n=>enc n.toNat) else enc x.a.toNat)):=AA (by unfold Gg;rw [if_pos h0,Q9 hr])
 have Hr:=AA hr
 have H0:=AA h0
 rw [h0]
 have hc0:=Hb2.out.q 0 rfl
 have hsz:w.heap.size<w2.heap.size:=Hb2.out.lt
 clear hr h0
 go_wp2_with fail
 generalize hw:w2.alloc _=w3
 have H3:Hid (Below w.heap.size w w3):=by rw [←hw];exact AA (H2.out.alloc (by omega) _)
 have Hb3:Hid (AL w3 w.heap.size 53 [.int .u8 (x.op.toNat:Int),.int .i64 x.a,.slice Sw x.l.length Rs]):=by rw [←hw];exact AA (Hb2.out.alloc _)
 have Rv:Hid (AL w3 w2.heap.size 5 [bv x.op]):=by rw [←hw];exact AA (AL.new w2 5 [bv x.op])
 clear hw hc0 H2 Hb2
 refine(SI x.op.toNat w3 (UInt8.toNat_lt x.op) (Ht.out _ H3.out)).mono ?_
 rintro e w4 ⟨hbe,rfl⟩
 have H4:=AA (H3.out.trans (hbe.mono H3.out.size));have Hb4:=AA (Hb3.out.below hbe Hb3.out.lt);have Ta:=AA (Rv.out.below hbe Rv.out.lt)
 clear hbe H3 Hb3 Rv
 have ha:Jo x.op.toNat= .tuple #[.agg (opC r),.bool true]:=by unfold Jo;rw [Hr.out]
 rw [ha]
 unfold opC
 clear ha
 go_upto_block 0 with fail
 generalize hw:w4.alloc _=w5
 have H5:Hid (Below w.heap.size w w5):=by rw [←hw];exact AA (H4.out.alloc H4.out.size _)
 have Hb5:Hid (AL w5 w.heap.size 53 [.int .u8 (x.op.toNat:Int),.int .i64 x.a,.slice Sw x.l.length Rs]):=by rw [←hw];exact AA (Hb4.out.alloc _)
 have VG:Hid (AL w5 w2.heap.size 5 [bv x.op]):=by rw [←hw];exact AA (Ta.out.alloc _)
 clear hw H4 Hb4 Ta
 have ql:=AA (oJ (base:=w.heap.size) VG.out (by omega))
 have hsz5:w.heap.size≤w5.heap.size:=H5.out.size
 clear VG
 go_cut [5] (fun b wx=> ∃A c,b= .slice A (Gg x).length c∧wx.ownsRow w.heap.size 5 1 (.slice A (Gg x).length c) (Gg x).length ((Gg x).map bv)∧Below w.heap.size w wx)
 case first=>
  have hy1:=Hb5.out.q 1 rfl
  have hy2:=Hb5.out.q 2 rfl
  rcases Xh r (Iu Hr.out).1 with h | h | h | h | h | h | h | h | h | h
  case inl=>
   have HQ:Hid (Gg x= [x.op]):=AA (by rw [HO.out,if_pos h])
   have d1:(r.takes==1)=_:=congrArg (· ==(1:Int)) h;have d2:(r.takes==2)=_:=congrArg (· ==(2:Int)) h;have d3:(r.takes==3)=_:=congrArg (· ==(3:Int)) h;have d4:(r.takes==4)=_:=congrArg (· ==(4:Int)) h;have d5:(r.takes==5)=_:=congrArg (· ==(5:Int)) h;have d6:(r.takes==6)=_:=congrArg (· ==(6:Int)) h;have d7:(r.takes==7)=_:=congrArg (· ==(7:Int)) h;have d8:(r.takes==8)=_:=congrArg (· ==(8:Int)) h;have d9:(r.takes==9)=_:=congrArg (· ==(9:Int)) h;have Hh:=AA h;clear h
   go_wp2_with fail
   go_meet
   rw [HQ.out]
   exact⟨_,_,rfl,ql.out,H5.out⟩
  case inr.inr.inr.inr.inr.inr.inr.inr.inl=>
   have HQ:Hid (Gg x= [x.op]++enc (folded x.a)):=AA (by rw [HO.out,if_neg (by omega),if_pos h];rfl)
   have d1:(r.takes==1)=_:=congrArg (· ==(1:Int)) h;have d2:(r.takes==2)=_:=congrArg (· ==(2:Int)) h;have d3:(r.takes==3)=_:=congrArg (· ==(3:Int)) h;have d4:(r.takes==4)=_:=congrArg (· ==(4:Int)) h;have d5:(r.takes==5)=_:=congrArg (· ==(5:Int)) h;have d6:(r.takes==6)=_:=congrArg (· ==(6:Int)) h;have d7:(r.takes==7)=_:=congrArg (· ==(7:Int)) h;have d8:(r.takes==8)=_:=congrArg (· ==(8:Int)) h;have d9:(r.takes==9)=_:=congrArg (· ==(9:Int)) h;have Hh:=AA h;clear h
   have hA:=H_a.out
   have yg:=AA (BA (folded x.a) (M4 _ hA.1 hA.2))
   go_wp2_with (first
    | (go_at_call 118;refine(Wd x.a hA.1 hA.2 _).mono ?_;rintro e w6 ⟨A6,c6,rfl,h2,h3⟩;have bN:=AA (Row.own h2);have HO6:=AA (E5 ql.out h3);have H6:=AA (H5.out.trans (h3.mono hsz5));clear h2 h3)
    | (at_builtin;refine PL _ rfl (.tmp 59) (.tmp 62) rfl w.heap.size (some ⟨w2.heap.size,0,none⟩) 1 1 [bv x.op] rfl HO6.out _ A6 (enc (folded x.a)).length c6 ((enc (folded x.a)).map bv) rfl (by rw [List.length_map]) bN.out (Nc _) (by have:=yg.out;omega) H6.out.size ?_;intro A7 c7 w7 h2 _ h3;have HO7:=AA h2;have H7:=AA (H6.out.trans h3);clear h2 h3))
   go_meet
   rw [HQ.out]
   refine⟨A7,c7,by rw [List.length_append];rfl,?_,H7.out⟩
   rw [List.length_append,List.map_append]
   exact HO7.out
  case inr.inr.inr.inl=>
   have d1:(r.takes==1)=_:=congrArg (· ==(1:Int)) h;have d2:(r.takes==2)=_:=congrArg (· ==(2:Int)) h;have d3:(r.takes==3)=_:=congrArg (· ==(3:Int)) h;have d4:(r.takes==4)=_:=congrArg (· ==(4:Int)) h;have d5:(r.takes==5)=_:=congrArg (· ==(5:Int)) h;have d6:(r.takes==6)=_:=congrArg (· ==(6:Int)) h;have d7:(r.takes==7)=_:=congrArg (· ==(7:Int)) h;have d8:(r.takes==8)=_:=congrArg (· ==(8:Int)) h;have d9:(r.takes==9)=_:=congrArg (· ==(9:Int)) h;have Hh:=AA h;clear h
   have HQ:Hid (Gg x= [x.op]++(enc x.l.length++x.l.flatMap (fun n=>enc n.toNat))):=AA (by rw [HO.out,if_neg (by have:=Hh.out;omega),if_neg (by have:=Hh.out;omega),if_pos Hh.out];rfl)
   have hz:=HZ.out.2.2 Hh.out
   have HL:=AA hz
   have hl16:=hz.1
   have yg:=AA (BA x.l.length (by omega))
   have hwr:IntKind.u64.wrap (x.l.length:Int)=(x.l.length:Int):=by rw [IntKind.wrap_u64];omega
   clear hz
   go_wp2_with (first
    | (go_at_call 159;refine(La x.l.length (by omega) _).mono ?_;rintro e w6 ⟨A6,c6,rfl,h2,h3⟩;have bN:=AA (Row.own h2);have HO6:=AA (E5 ql.out h3);have H6:=AA (H5.out.trans (h3.mono hsz5));have hz2:=(Hb5.out.below h3 Hb5.out.lt);have Hb6:=AA hz2;have hy6:=Hb6.out.cell 2;clear h2 h3 hz2)
    | (at_builtin;refine PL _ rfl (.tmp 39) (.tmp 44) rfl w.heap.size (some ⟨w2.heap.size,0,none⟩) 1 1 [bv x.op] rfl HO6.out _ A6 (enc x.l.length).length c6 ((enc x.l.length).map bv) rfl (by rw [List.length_map]) bN.out (Nc _) (by have:=yg.out;omega) H6.out.size ?_;intro A7 c7 w7 h2 hg7 h3;have HO7:=AA h2;have H7:=AA (H6.out.trans h3);have Hb7:=AA (JZ hg7 Hb6.out (fun e=>by have e2:w2.heap.size=w.heap.size:=Option.some.inj e;omega));clear h2 h3 hg7;have hy7:w7.cell? ⟨w.heap.size,2,none⟩=some (.slice Sw x.l.length Rs):=Hb7.out.cell 2))
   clear Hb5 Hb6 ql HO6 hy1 hy2 hy6 H5 H6 bN
   have HS:Hid (w7.ownsRow w.heap.size 5 1 (.slice A7 ([x.op]++(enc x.l.length++(x.l.take 0).flatMap (fun n=>enc n.toNat))).length c7) ([x.op]++(enc x.l.length++(x.l.take 0).flatMap (fun n=>enc n.toNat))).length (([x.op]++(enc x.l.length++(x.l.take 0).flatMap (fun n=>enc n.toNat))).map bv)):=AA (by
    have h:=HO7.out
    rw [List.take_zero,List.flatMap_nil,List.append_nil,List.length_append,List.map_append]
    exact h)
   have fG:Hid (1+(enc x.l.length).length=([x.op]++(enc x.l.length++(x.l.take 0).flatMap (fun n=>enc n.toNat))).length):=AA (by rw [List.take_zero,List.flatMap_nil,List.append_nil,List.length_append];rfl)
   go_loopw [5,9,49] (fun b _ i wr=> ∃(k:Nat) (A:Option Addr) (c:Nat),k≤x.l.length∧i= .int .i64 k∧b= .slice A ([x.op]++(enc x.l.length++(x.l.take k).flatMap (fun n=>enc n.toNat))).length c∧Below w.heap.size w wr∧
    wr.ownsRow w.heap.size 5 1 (.slice A ([x.op]++(enc x.l.length++(x.l.take k).flatMap (fun n=>enc n.toNat))).length c) ([x.op]++(enc x.l.length++(x.l.take k).flatMap (fun n=>enc n.toNat))).length (([x.op]++(enc x.l.length++(x.l.take k).flatMap (fun n=>enc n.toNat))).map bv))
    (fun _ _ i _=>x.l.length-(intOf i).toNat)
   case atStart=>exact⟨0,A7,c7,Nat.zero_le _,rfl,by rw [←fG.out],H7.out,HS.out⟩
   case round=>
    obtain⟨k,A,c,hk,rfl,rfl,hb,ho⟩:=hrel
    have HB:=AA hb;have HOk:=AA ho
    clear hb ho
    by_cases hlt:k<x.l.length
    ·obtain⟨y,hy⟩: ∃y,x.l[k]?=some y:=⟨_,List.getElem?_eq_getElem hlt⟩
     have hlk:=Rd.below H_l.out HB.out hhi
     obtain⟨b,o,rfl,_,_,cs,hcs,hrd⟩:=OE hlk hy
     obtain⟨rfl,hy63⟩:=hrd
     have hc0:wr.cell? ⟨b,o+k,none⟩=some (.int .i64 y):=by
      have:=hcs 0 _ rfl
      rwa [show Rd.i64.z=1 from rfl,Nat.mul_one,Nat.add_zero] at this
     have hi0:(0:Int)≤k:=by omega
     have hyb:=HL.out.2 y (List.mem_of_getElem? hy)
     obtain⟨n,hn⟩:=Int.eq_ofNat_of_zero_le hyb.1
     have Hn:Hid (y.toNat=n∧n<18446744073709551616):=AA ⟨by omega,by omega⟩
     have hwy:IntKind.u64.wrap y=y:=by rw [IntKind.wrap_u64];omega
     have hcl:=La n (by omega)
     rw [←hn] at hcl
     have Hcl:=AA hcl
     have HFn:=AA (BA n (by omega))
     have YQ:Hid ([x.op]++(enc x.l.length++(x.l.take k).flatMap (fun n=>enc n.toNat))++enc n= [x.op]++(enc x.l.length++(x.l.take (k+1)).flatMap (fun n=>enc n.toNat))):=AA (by
      rw [Ev (f:=fun n:Int=>enc n.toNat) hy,show y.toNat=n from by omega];simp only [List.append_assoc])
     have Vy:Hid (([x.op]++(enc x.l.length++(x.l.take k).flatMap (fun n=>enc n.toNat))).length≤1000):=AA (by
      have h1:=Ub (f:=fun n:Int=>enc n.toNat) (c:=10) (l:=x.l.take k) (fun n hn=>by
       have:=HL.out.2 n (List.mem_of_mem_take hn)
       exact BA _ (by omega))
      have h2:(x.l.take k).length≤16:=by rw [List.length_take];omega
      have:=yg.out
      rw [List.length_append,List.length_append]
      simp only [List.length_cons,List.length_nil]
      omega)
     clear hn hyb hcl hcs hlk hy
     generalize ([x.op]++(enc x.l.length++(x.l.take k).flatMap (fun n=>enc n.toNat)))=LK at*
     go_wp2_with (first
      | (go_at_call 159;refine(Hcl.out _).mono ?_;rintro e w8 ⟨A8,c8,rfl,h2,h3⟩;have HR8:=AA (Row.own h2);have Uy:=AA (E5 HOk.out h3);have H8:=AA (HB.out.trans (h3.mono HB.out.size));clear h2 h3)
      | (at_builtin;refine PL _ rfl (.tmp 53) (.tmp 56) rfl w.heap.size A LK.length c (LK.map bv) rfl Uy.out _ A8 (enc n).length c8 ((enc n).map bv) rfl (by rw [List.length_map]) HR8.out (Nc _) (by have:=HFn.out;have:=Vy.out;omega) H8.out.size ?_;intro A9 c9 w9 h2 _ h3;have HO9:=AA h2;have H9:=AA (H8.out.trans h3);clear h2 h3))
     refine⟨⟨k+1,A9,c9,by omega,by go_num,by rw [←YQ.out,List.length_append],H9.out,?_⟩,by simp [intOf];omega⟩
     rw [←YQ.out,List.length_append,List.map_append]
     exact HO9.out
    ·obtain rfl:k=x.l.length:=by omega
     go_wp2_with fail
     go_meet
     have hq:=HQ.out
     rw [←List.take_length (l:=x.l)] at hq
     rw [List.length_take,Nat.min_self] at hq
     rw [hq]
     exact⟨A,c,rfl,HOk.out,HB.out⟩
  all_goals
   have HQ:Hid (Gg x= [x.op]++enc x.a.toNat):=AA (by rw [HO.out,if_neg (by omega),if_neg (by omega),if_neg (by omega)];rfl)
   have hb0:0≤x.a∧x.a≤4294967295:=by
    have hz:=HZ.out
    unfold Aw at hz
    simp [h] at hz
    omega
   obtain⟨n,hn⟩:=Int.eq_ofNat_of_zero_le hb0.1
   have Hn:Hid (x.a=(n:Int)∧x.a.toNat=n∧n<18446744073709551616):=AA ⟨hn,by omega,by omega⟩
   have yg:=AA (BA n (by omega))
   have hwr:IntKind.u64.wrap x.a=x.a:=by rw [IntKind.wrap_u64];omega
   have hcl:=La n (by omega)
   rw [←hn] at hcl
   have Hcl:=AA hcl
   clear hn hb0 hcl
   have d1:(r.takes==1)=_:=congrArg (· ==(1:Int)) h;have d2:(r.takes==2)=_:=congrArg (· ==(2:Int)) h;have d3:(r.takes==3)=_:=congrArg (· ==(3:Int)) h;have d4:(r.takes==4)=_:=congrArg (· ==(4:Int)) h;have d5:(r.takes==5)=_:=congrArg (· ==(5:Int)) h;have d6:(r.takes==6)=_:=congrArg (· ==(6:Int)) h;have d7:(r.takes==7)=_:=congrArg (· ==(7:Int)) h;have d8:(r.takes==8)=_:=congrArg (· ==(8:Int)) h;have d9:(r.takes==9)=_:=congrArg (· ==(9:Int)) h;have Hh:=AA h;clear h
   go_wp2_with (first
    | (go_at_call 159;refine(Hcl.out _).mono ?_;rintro e w6 ⟨A6,c6,rfl,h2,h3⟩;have bN:=AA (Row.own h2);have HO6:=AA (E5 ql.out h3);have H6:=AA (H5.out.trans (h3.mono hsz5));clear h2 h3)
    | (at_builtin;refine PL _ rfl (.tmp 64) (.tmp 68) rfl w.heap.size (some ⟨w2.heap.size,0,none⟩) 1 1 [bv x.op] rfl HO6.out _ A6 (enc n).length c6 ((enc n).map bv) rfl (by rw [List.length_map]) bN.out (Nc _) (by have:=yg.out;omega) H6.out.size ?_;intro A7 c7 w7 h2 _ h3;have HO7:=AA h2;have H7:=AA (H6.out.trans h3);clear h2 h3))
   go_meet
   rw [HQ.out,Hn.out.2.1]
   refine⟨A7,c7,by rw [List.length_append];rfl,?_,H7.out⟩
   rw [List.length_append,List.map_append]
   exact HO7.out
 case rest=>
  obtain⟨A,c,rfl,ho,hb⟩:=hcut
  have HOx:=AA ho;have Hbx:=AA hb
  clear ho hb
  go_wp2_with fail
  go_ret2
  exact⟨Hbx.out,A,c,by rw [H0.out];rfl,HOx.out⟩
end
end Go.Proofs.YtejbcledkhioeaaGreatDoor
