/-
  QueueTells returns true for whatever can be read as its arguments, and leaves them; no condition of its own.
-/
import Derived.Test.YtiibiamobkhlbaaG1
import Derived.Test.YtiibiamobkhlbaaUVar
import Derived.Test.YtiibiamobkhlbaaULQueueTells
import Derived.Test.YtiibiamobkhlbaaRows
set_option linter.unusedVariables false
set_option linter.unusedSimpArgs false
namespace Go.Proofs.Ytiibiamobkhlbaa.rowQueueTells
open Go.RowKit Go.WideShapes Go.ChangeShapes Go.ChangeAt
set_option linter.unusedVariables false

theorem own : ownKnob Try.prog.godebug = none := by kernel_rfl

set_option maxRecDepth 100000 in
theorem lifted (os : Os) (started : os.Started) (H : Type) (enc : TypeId × Value → H) :
    ReturnsInHanded {} Try.checked os 6 .any (Rows.queueTellsSpec.pre6 enc Try.prog Try.f6 Rows.queueTellsRow.domain false) (Rows.queueTellsSpec.post enc Try.prog Try.f6 false true false false) := by
  refine returnsInHanded_of_change (C := Try.checked) own started (by kernel_rfl) Try.func6
    (ChangeSpec.witness6 (enc := enc) (C := Try.checked) false ⟨#[], #[.slice none 0 0, .agg #[.int .i64 0, .int .u64 0, .int .u64 0, .int .u64 0, .bool false, .int .i64 0, .int .i64 0, .bool false, .bool false], .agg #[.int .u32 0, .int .u32 0, .int .u32 0]], []⟩ 8 (by kernel_rfl) (by kernel_rfl) (by kernel_rfl) (by kernel_rfl)) ?_
  intro W base args ds gs before hval0 hW hcnd _
  have hval : ∀ (j : Nat) t v, Try.f6.params[j]? = some t → args[j]? = some v → Value.okWide Try.prog W .any base t v := hval0
  have hW' := hW
  obtain ⟨p, q, hA0, hV, rfl, hfz, hnd⟩ := hW
  have hA : DataW.TrodAll enc Try.prog W 0 (fun _ => true) true Try.f6.params.toList args.toList ds p := hA0
  rw [Try.params6] at hA hval
  obtain ⟨v0, vs0, d0, ds0, p0, q0, hargs, rfl, rfl, h0, r0⟩ := trodAll_cons hA
  obtain ⟨v1, vs1, d1, ds1, p1, q1, rfl, rfl, rfl, h1, r1⟩ := trodAll_cons r0
  obtain ⟨v2, vs2, d2, ds2, p2, q2, rfl, rfl, rfl, h2, r2⟩ := trodAll_cons r1
  obtain ⟨rfl, rfl, rfl⟩ := trodAll_nil r2
  obtain rfl : args = #[v0, v1, v2] := by cases args; simp_all
  obtain ⟨rfl, rfl⟩ := trodVars_none hV
  have o0 := hval 0 22 v0 rfl rfl
  obtain ⟨x0, e0⟩ := Opn.at (E := _) (opn_slice (size := 2) Try.underlying22 (by kernel_rfl) (by decide) opn_put) h0
  rw [okWide_plain Try.underlying22 (by intro _ e; cases e) (by intro _ _ e; cases e) o0] at e0
  have o1 := hval 1 27 v1 rfl rfl
  obtain ⟨cs1, rfl⟩ := okWide_struct Try.underlying27 o1
  obtain ⟨x1, e1⟩ := Opn.at (E := _) (opn_que) h1
  have o2 := hval 2 90 v2 rfl rfl
  obtain ⟨cs2, rfl⟩ := okWide_array Try.underlying90 o2
  obtain ⟨x2, e2⟩ := Opn.at (E := _) (opn_tri) h2
  refine (law_QueueTells W e0 e1 e2).mono fun e W' ⟨he, hg⟩ => ?_
  subst he
  exact ⟨_, rfl, law_post hW' rfl rfl Try.underlying4 rfl (by kernel_rfl) (by decide +kernel) hg⟩

theorem over : Rows.queueTellsRow.holds Try.pinned (OpenSpec.ofChange Rows.queueTellsSpec) :=
  OpenClaim.holds_of_wide 6 Try.f6 rfl rfl rfl rfl rfl rfl rfl ⟨rfl, rfl, rfl, rfl, rfl⟩ rfl rfl rfl rfl rfl (by kernel_rfl) Try.func6 (by kernel_rfl)
    (of_decide_eq_true (by kernel_rfl)) (by unfold Func.isWrapper; first | (rw [if_pos (by decide +kernel)]; kernel_rfl) | (rw [if_neg (by decide +kernel)]; exact ⟨rfl, rfl⟩))
    (fun os started H enc _ => lifted os started H enc)

theorem proved : Rows.QueueTellsSaid :=
  over
#print axioms proved
end Go.Proofs.Ytiibiamobkhlbaa.rowQueueTells
