/-
  PlicFirst returns true for whatever can be read as its arguments, and leaves them; no condition of its own.
-/
import Derived.Test.YtohccblfnjampaaVc
import Derived.Test.YtohccblfnjampaaLPlicFirst
import Derived.Test.YtohccblfnjampaaRows
namespace Go.Proofs.Ytohccblfnjampaa.rowPlicFirst
open Go.RowKit Go.WideShapes Go.ChangeShapes Go.ChangeAt
set_option linter.unusedVariables false

theorem own : ownKnob Try.prog.godebug = none := by kernel_rfl

set_option maxRecDepth 100000 in
theorem lifted (os : Os) (started : os.Started) (H : Type) (enc : TypeId × Value → H) :
    ReturnsInHanded {} Try.checked os 11 .any (Rows.plicFirstSpec.pre6 enc Try.prog Try.f11 Rows.plicFirstRow.domain false) (Rows.plicFirstSpec.post enc Try.prog Try.f11 false true false false) := by
  refine returnsInHanded_of_change (C := Try.checked) own started (by kernel_rfl) Try.func11
    (ChangeSpec.witness6 (enc := enc) (C := Try.checked) false ⟨#[], #[.slice none 0 0, .int .i64 0], []⟩ 8 (by kernel_rfl) (by kernel_rfl) (by kernel_rfl) (by kernel_rfl)) ?_
  intro W base args ds gs before hval0 hW hcnd _
  have hval : ∀ (j : Nat) t v, Try.f11.params[j]? = some t → args[j]? = some v → Value.okWide Try.prog W .any base t v := hval0
  have hW' := hW
  obtain ⟨p, q, hA0, hV, rfl, hfz, hnd⟩ := hW
  have hA : DataW.TrodAll enc Try.prog W 0 (fun _ => true) true Try.f11.params.toList args.toList ds p := hA0
  rw [Try.params11] at hA hval
  obtain ⟨v0, vs0, d0, ds0, p0, q0, hargs, rfl, rfl, h0, r0⟩ := trodAll_cons hA
  obtain ⟨v1, vs1, d1, ds1, p1, q1, rfl, rfl, rfl, h1, r1⟩ := trodAll_cons r0
  obtain ⟨rfl, rfl, rfl⟩ := trodAll_nil r1
  obtain rfl : args = #[v0, v1] := by cases args; simp_all
  obtain ⟨rfl, rfl⟩ := trodVars_none hV
  have o0 := hval 0 94 v0 rfl rfl
  obtain ⟨x0, e0⟩ := Opn.at (E := _) (opn_slice (size := 6) Try.underlying94 (by kernel_rfl) (by decide) opn_opP) h0
  rw [okWide_plain Try.underlying94 (by intro _ e; cases e) (by intro _ _ e; cases e) o0] at e0
  have o1 := hval 1 3 v1 rfl rfl
  obtain ⟨x1, e1⟩ := Opn.at (E := _) (opn_i64 Try.underlying3) h1
  rw [okWide_plain Try.underlying3 (by intro _ e; cases e) (by intro _ _ e; cases e) o1] at e1
  refine (law_PlicFirst W e0 e1).mono fun e W' ⟨he, hg⟩ => ?_
  subst he
  exact ⟨_, rfl, law_post hW' rfl rfl Try.underlying4 rfl (by kernel_rfl) (by decide +kernel) hg⟩

theorem over : Rows.plicFirstRow.holds Try.pinned (OpenSpec.ofChange Rows.plicFirstSpec) :=
  OpenClaim.holds_of_wide 11 Try.f11 rfl rfl rfl rfl rfl rfl rfl ⟨rfl, rfl, rfl, rfl, rfl⟩ rfl rfl rfl rfl rfl (by kernel_rfl) Try.func11 (by kernel_rfl)
    (of_decide_eq_true (by kernel_rfl)) (by unfold Func.isWrapper; first | (rw [if_pos (by decide +kernel)]; kernel_rfl) | (rw [if_neg (by decide +kernel)]; exact ⟨rfl, rfl⟩))
    (fun os started H enc _ => lifted os started H enc)

theorem proved : Rows.PlicFirstSaid :=
  over
#print axioms proved
end Go.Proofs.Ytohccblfnjampaa.rowPlicFirst
