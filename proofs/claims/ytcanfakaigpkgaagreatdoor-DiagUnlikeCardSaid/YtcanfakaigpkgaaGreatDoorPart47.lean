/-
  For every two values, whatever they hold, the law DiagUnlike answers true, and both read as they did: where both may be and each has a text, they have one text just if they are the same, and just if the order holds them for equal. Its conditions: the package-level variables hold what their initialisers lay (the card ties them to the program's text); nothing else is asked.
-/
import Derived.Test.YtcanfakaigpkgaaGreatDoorPart46
set_option linter.unusedVariables false
set_option linter.unusedSimpArgs false
set_option maxRecDepth 100000
set_option maxHeartbeats 8000000
namespace Go.Proofs.YtcanfakaigpkgaaGreatDoor.diagUnlike
open Go Go.RowKit Go.ChangeShapes Go.WideShapes Go.ChangeAt D
theorem lifted(os:Os)(started:os.Started)(H:Type)(enc:TypeId × Value->H)(F:Stop.Interp):
  ReturnsInHanded {} Tryz.checked os 3 .any ((OpenSpec.ofChange Rows.diagUnlikeSpec).preRow enc Tryz.prog Tryz.f3 Rows.diagUnlikeRow.domain false Rows.diagUnlikeRow.laid) (((OpenSpec.ofChange Rows.diagUnlikeSpec).at F).post enc Tryz.prog Tryz.f3 false true false false):=by
 obtain⟨ds0,places,hx⟩:=zQx os enc;have hok:Input.okWideB Tryz.prog ((zA6 os).forCall (fun _ _=>0) ⟨#[],#[zV,zV],[]⟩) 3 ⟨#[],#[zV,zV],[]⟩=true:=by kernel_rfl
 refine returnsInHanded_of_row (C:=Tryz.checked) (s:=OpenSpec.ofChange Rows.diagUnlikeSpec) own started (by kernel_rfl) Tryz.func3
  ⟨zA6 os,fun _ _=>0,⟨#[],#[zV,zV],[]⟩,zF5 os,zN2 os,(Input.okWide_of_okWideB (base:=0) hok).1,(Input.okWide_of_okWideB hok).2,
   OpenSpec.preRow_of_cond 40 hx (by kernel_rfl) (fun k hk=>by cases hk) (by kernel_rfl) (zMz os _),by
    simp only[Assume.holds];exact⟨by simp,by simp,fun h=>(by cases h),by simp,by simp⟩⟩ ?_
 intro W base args ds gs before hval hW _ _ hwt hL hS _;exact zM7 H enc W base args ds gs before hval hW hwt hL (zKs hS)
theorem closed:joinedFacts Tryz.pinned.checked.prog 3 Tryz.f3 (OpenSpec.ofChange Rows.diagUnlikeSpec).bare Rows.diagUnlikeRow=true:=by
 unfold joinedFacts
 simp only[Bool.and_eq_true]
 and_intros
 all_goals (as_aux_lemma=>kernel_rfl)
theorem said:Rows.DiagUnlikeSaid:=
 OpenClaim.holds_of_cond 3 Tryz.f3 rfl rfl rfl rfl rfl rfl rfl ⟨rfl,rfl,rfl,rfl,rfl⟩ rfl rfl rfl rfl rfl (by as_aux_lemma=>kernel_rfl) Tryz.func3 closed
  (of_decide_eq_true (by as_aux_lemma=>kernel_rfl)) (by unfold Func.isWrapper;first|(rw[if_pos (by decide +kernel)];kernel_rfl)|(rw[if_neg (by decide +kernel)];exact⟨rfl,rfl⟩))
  (fun os started H enc _ F=>by rw[OpenClaim.pre_eq_preRow];exact lifted os started H enc F)
theorem plain(f:FuncId)(fn:Func)(hf:Tryz.pinned.checked.prog.funcNamed "crucible/cruciblelaw22.DiagUnlike" = some f)(hfn:Tryz.pinned.checked.prog.funcs[f]?=some fn):
  true=Tryz.pinned.checked.prog.looks []/\∀ (j:Nat) t,fn.params[j]?=some t->Tryz.pinned.checked.prog.wantsStandIn t=false:=by
 obtain rfl:f=3:=Option.some.inj ((show Tryz.prog.funcNamed "crucible/cruciblelaw22.DiagUnlike" = some 3 by kernel_rfl).symm.trans hf) |>.symm;obtain rfl:fn=Tryz.f3:=(Option.some.inj (Tryz.func3.symm.trans hfn)).symm;refine⟨by kernel_rfl,fun j t ht=>?_⟩;rw[Tryz.params3] at ht;obtain rfl:t=31:=by simpa using Array.mem_of_getElem? ht
 exact (show Tryz.prog.wantsStandIn 31=false by kernel_rfl)
theorem card:Rows.DiagUnlikeCardSaid:=
 Claim7.holds_tied_plain_at .later [] _ _ _ _ said (fun _ h=>by cases h) (by kernel_rfl) (fun _ h=>by cases h) diagUnlike_row_tie rfl ⟨rfl,rfl⟩ (by kernel_rfl) rfl plain (by kernel_rfl)
end Go.Proofs.YtcanfakaigpkgaaGreatDoor.diagUnlike
