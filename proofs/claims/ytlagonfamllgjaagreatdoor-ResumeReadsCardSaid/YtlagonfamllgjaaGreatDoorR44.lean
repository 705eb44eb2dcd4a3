/- The law ResumeReads of the seed flagon holds: for every module and bytes within the bounds, resume.Read answers the state of the document; tied card, no further condition. -/
import Derived.Test.YtlagonfamllgjaaGreatDoorRows
import Derived.Test.YtlagonfamllgjaaGreatDoorCards
import Derived.Test.YtlagonfamllgjaaGreatDoorTie
import Derived.ProofKit
import Derived.OpenShut
import Derived.ShutString
import Derived.ChangeOld
import Derived.Carry
import Derived.LaidMore
import Derived.Stop.Joined
import Derived.Stop.LaidErr
import Derived.SevenTiedAt
import Derived.HandedShaped
import Derived.Shelf.Vars
import Derived.Test.YtlagonfamllgjaaGreatDoorR43
set_option linter.unusedVariables false
set_option linter.unusedSimpArgs false
namespace Go.Proofs.YtlagonfamllgjaaGreatDoor.resumeReads
open Go.ChangeShapes Go.WideShapes Go.ChangeAt Go.RowKit
open Go.ChangeMaps (open_string shut_string)
set_option linter.unusedVariables false
theorem own:ownKnob Tryz.prog.godebug=none:=by kernel_rfl
theorem laidOut:laidOutB Tryz.prog=true:=by kernel_rfl
theorem iO {P:Program} {w w':World} {name:String} {k:IntKind} {zs:List Int} (h:Lib.TabIs P w name k zs) {B:Nat} (hb:Below B w w') (hB:w.heap.size≤B):Lib.TabIs P w' name k zs:=by
 unfold Lib.TabIs World.var? at*
 cases hg:P.globalNamed name with
 | none=>simp [hg] at h
 | some g=>
  simp only [hg,Option.bind_some] at h⊢
  by_cases hlt:g<w.heap.size
  ·rw [hb.block g (by omega)];exact h
  ·rw [Array.getElem?_eq_none (by omega)] at h;cases h
theorem iP:Rows.laid_strings_asciiSpace=(Lib.tabData .u8 Lib.asciiSpaceTab:DataW Unit):=by kernel_rfl
theorem oH (os:Os) (args:Array Value):laidMetH Tryz.prog Rows.resumeReadsRow.laid ((World.doorLaid Tryz.prog 400 os).forCall (fun _ _=>0) ⟨#[],args,[]⟩).memory:=
 laidMetH_of_parts3 (fuel:=8) (laidMet_of_run' 8 (by kernel_rfl) (by kernel_rfl)) (by kernel_rfl) (by kernel_rfl)
set_option maxRecDepth 100000 in
theorem lifted (os:Os) (started:os.Started) (H:Type) (enc:TypeId×Value→H):
 ReturnsInHanded {} Tryz.checked os 4 .any (fun w args=>(Rows.resumeReadsSpec.pre enc Tryz.prog Tryz.f4 [] false w args∧laidMetH Tryz.prog Rows.resumeReadsRow.laid w)∧sizedMet enc Tryz.prog Tryz.f4 (OpenSpec.ofChange Rows.resumeReadsSpec) false w args) (Rows.resumeReadsSpec.post enc Tryz.prog Tryz.f4 false true false false):=by
 refine returnsInHanded_of_change_and (C:=Tryz.checked) (X:=fun w _=>laidMetH Tryz.prog Rows.resumeReadsRow.laid w) (fun _ _ _ hh h=>h.of_heap hh) own started (by kernel_rfl) Tryz.func4
  (ChangeSpec.witness_shaped (enc:=enc) (C:=Tryz.checked) (os:=os) (X:=fun w _=>laidMetH Tryz.prog Rows.resumeReadsRow.laid w) false (World.doorLaid Tryz.prog 400 os) #[.agg #[.slice none 0 0,.slice none 0 0,.slice none 0 0,.int .i64 0,.int .i64 0,.slice none 0 0,.slice none 0 0,.slice none 0 0],.slice none 0 0] 8 rfl (World.shaped_of_RefB (by kernel_rfl) (by kernel_rfl)) (by kernel_rfl) (by kernel_rfl) (by kernel_rfl) (oH os _)) ?_
 intro W base args ds gs before hval0 hW hcnd hsz0 hL hrest
 have hval: ∀(j:Nat) t v,Tryz.f4.params[j]?=some t→args[j]?=some v→Value.okWide Tryz.prog W .any base t v:=hval0
 have hsz:(DataW.weightsEach Tryz.prog (Tryz.f4.params.toList++Rows.resumeReadsSpec.plain.varTypes Tryz.prog) (ds++gs)).all (· ≤reachBytes)=true:=hsz0
 clear hsz0
 have hW':=hW
 obtain⟨p,q,hA0,hV,rfl,hfz,hnd⟩:=hW
 have hA:DataW.TrodAll enc Tryz.prog W 0 (fun _=>true) true Tryz.f4.params.toList args.toList ds p:=hA0
 rw [Tryz.params4] at hA hval hsz
 obtain⟨v0,jA,d0,ds0,p0,q0,hargs,rfl,rfl,h0,r0⟩:=trodAll_cons hA
 obtain⟨v1,vs1,d1,ds1,p1,q1,rfl,rfl,rfl,h1,r1⟩:=trodAll_cons r0
 obtain⟨rfl,rfl,rfl⟩:=trodAll_nil r1
 obtain rfl:args= #[v0,v1]:=by cases args;simp_all
 obtain⟨rfl,rfl⟩:=trodVars_none hV
 have k0:=h0
 have lt0: ∀x∈p0,x.block<W.heap.size:=by obtain⟨m,hm⟩:=k0;exact DataW.trod_lt m _ _ _ hm
 obtain⟨cs0,rfl,_⟩:=okWide_struct Tryz.underlying29 (hval 0 29 v0 rfl rfl)
 obtain⟨y0,hy0,ok0⟩:=UL Ws h0 hsz (j:=0) rfl rfl
 have k1:=h1
 have xW: ∀x∈p1,x.block<W.heap.size:=by obtain⟨m,hm⟩:=k1;exact DataW.trod_lt m _ _ _ hm
 obtain⟨A1,n1,c1,rfl⟩:=okWide_slice Tryz.underlying40 (hval 1 40 v1 rfl rfl)
 obtain⟨y1,hy1,ok1⟩:=UL Yh h1 hsz (j:=1) rfl rfl
 obtain rfl:=Dp hy1
 clear hA0 hval0
 refine(show Calls Tryz.prog 4 #[.agg cs0,.slice A1 y1.length c1] W (fun e w'=>e= .returned (.bool true)∧Below W.heap.size W w')from by
  have hL':=hL
  rw [MakeChecks.laidMetH_plain _ _ _ (by kernel_rfl)] at hL'
  have hT:=laidMet.tail hL'
  have htab:Lib.TabIs Tryz.prog W "strings.asciiSpace" .u8 Lib.asciiSpaceTab:=Lib.tabIs_of_head (g:=0) (n:=256) (by kernel_rfl) (by kernel_rfl) Tryz.underlying264 Tryz.underlying5 (by kernel_rfl) (by kernel_rfl) (rest:= []) (by rw [←iP];exact hT)
  have h:=iN cs0.toList W.heap.size y0 A1 c1 y1 W hy0 hy1 (Nat.le_refl _) ok0 ok1.1 (fun w' Ep=>iO htab Ep (Nat.le_refl _))
  exact h.mono fun e w' hh=>⟨hh.2,hh.1⟩).mono fun e W' ⟨he,Ep⟩=> ?_
 subst he
 exact⟨_,rfl,_,_,_,[],_,[],hW',trodAll_mk1 (shut_bool Tryz.underlying4 _),(trodAll_cons_mk (Below.trod laidOut (by kernel_rfl) (of_decide_eq_true (by kernel_rfl)) k0 Ep lt0) (trodAll_cons_mk (Below.trod laidOut (by kernel_rfl) (of_decide_eq_true (by kernel_rfl)) k1 Ep xW) trodAll_mk0)),rfl,Ep.frame _,fun h=>by cases h⟩
theorem said:Rows.ResumeReadsSaid:=
 OpenClaim.holds_of_wide 4 Tryz.f4 rfl rfl rfl rfl rfl rfl rfl ⟨rfl,rfl,rfl,rfl,rfl⟩ rfl rfl rfl rfl rfl (by kernel_rfl) Tryz.func4 (by kernel_rfl)
  (of_decide_eq_true (by kernel_rfl)) (by unfold Func.isWrapper;first | (rw [if_pos (by decide+kernel)];kernel_rfl) | (rw [if_neg (by decide+kernel)];exact⟨rfl,rfl⟩))
  (fun os started H enc _=>lifted os started H enc)
theorem proved:Rows.ResumeReadsCardSaid:=
 Claim7.holds_tied_plain_at .later [] [.listed,.data] true (true,"de8d0419b49467efcce74baac787ca5fc35086550796723182a272b99533f153") true
  said (fun _ h=>by cases h) (by kernel_rfl) (fun _ h=>by cases h) resumeReads_row_tie rfl ⟨rfl,rfl⟩ (by kernel_rfl) rfl
  (fun f fn hf hfn=>by
   obtain rfl:f=4:=Option.some.inj ((show Tryz.prog.funcNamed "flagon/flagonlaw23.ResumeReads"=some 4 by kernel_rfl).symm.trans hf) |>.symm
   obtain rfl:fn=Tryz.f4:=(Option.some.inj (Tryz.func4.symm.trans hfn)).symm
   exact⟨by kernel_rfl,fun j t ht=>by
    rw [Tryz.params4] at ht
    by_cases e0:j=0
    ·subst e0
     obtain rfl:29=t:=by simpa using ht
     exact(show Tryz.prog.wantsStandIn 29=false by kernel_rfl)
    by_cases e1:j=1
    ·subst e1
     obtain rfl:40=t:=by simpa using ht
     exact(show Tryz.prog.wantsStandIn 40=false by kernel_rfl)
    ·rw [Array.getElem?_eq_none (by simp;omega)] at ht
     cases ht⟩)
  (by kernel_rfl)
#print axioms proved
end Go.Proofs.YtlagonfamllgjaaGreatDoor.resumeReads
