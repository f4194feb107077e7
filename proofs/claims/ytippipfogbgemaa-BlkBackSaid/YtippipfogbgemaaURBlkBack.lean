/-
  BlkBack returns true for whatever can be read as its arguments, and leaves them; no condition of its own.
-/
import Derived.Test.YtippipfogbgemaaG1
import Derived.Test.YtippipfogbgemaaULBlkBack
import Derived.Test.YtippipfogbgemaaRows
set_option linter.unusedVariables false
set_option linter.unusedSimpArgs false
namespace Go.Proofs.Ytippipfogbgemaa.rowBlkBack
open Go.RowKit Go.WideShapes Go.ChangeShapes Go.ChangeAt
set_option linter.unusedVariables false

theorem own : ownKnob Try.prog.godebug = none := by kernel_rfl

set_option maxRecDepth 100000 in
theorem lifted (os : Os) (started : os.Started) (H : Type) (enc : TypeId × Value → H) :
    ReturnsInHanded {} Try.checked os 9 .any (Rows.blkBackSpec.pre6 enc Try.prog Try.f9 Rows.blkBackRow.domain false) (Rows.blkBackSpec.post enc Try.prog Try.f9 false true false false) := by
  refine returnsInHanded_of_change (C := Try.checked) own started (by kernel_rfl) Try.func9
    (ChangeSpec.witness6 (enc := enc) (C := Try.checked) false ⟨#[], #[.agg #[.bool false, .slice none 0 0, .int .u64 0, .string { data := #[] }], .int .u64 0, .slice none 0 0], []⟩ 8 (by kernel_rfl) (by kernel_rfl) (by kernel_rfl) (by kernel_rfl)) ?_
  intro W base args ds gs before hval0 hW hcnd _
  have hval : ∀ (j : Nat) t v, Try.f9.params[j]? = some t → args[j]? = some v → Value.okWide Try.prog W .any base t v := hval0
  have hW' := hW
  obtain ⟨p, q, hA0, hV, rfl, hfz, hnd⟩ := hW
  have hA : DataW.TrodAll enc Try.prog W 0 (fun _ => true) true Try.f9.params.toList args.toList ds p := hA0
  rw [Try.params9] at hA hval
  obtain ⟨v0, vs0, d0, ds0, p0, q0, hargs, rfl, rfl, h0, r0⟩ := trodAll_cons hA
  obtain ⟨v1, vs1, d1, ds1, p1, q1, rfl, rfl, rfl, h1, r1⟩ := trodAll_cons r0
  obtain ⟨v2, vs2, d2, ds2, p2, q2, rfl, rfl, rfl, h2, r2⟩ := trodAll_cons r1
  obtain ⟨rfl, rfl, rfl⟩ := trodAll_nil r2
  obtain rfl : args = #[v0, v1, v2] := by cases args; simp_all
  obtain ⟨rfl, rfl⟩ := trodVars_none hV
  have o0 := hval 0 85 v0 rfl rfl
  obtain ⟨cs0, rfl⟩ := okWide_struct Try.underlying85 o0
  obtain ⟨x0, e0⟩ := Opn.at (E := _) (opn_start) h0
  have o1 := hval 1 25 v1 rfl rfl
  obtain ⟨x1, e1⟩ := Opn.at (E := _) (opn_u64 Try.underlying25) h1
  rw [okWide_plain Try.underlying25 (by intro _ e; cases e) (by intro _ _ e; cases e) o1] at e1
  have o2 := hval 2 36 v2 rfl rfl
  obtain ⟨x2, e2⟩ := Opn.at (E := _) ((opn_slice (size := 1) Try.underlying36 (by kernel_rfl) (by decide) (opn_u8 Try.underlying5))) h2
  rw [okWide_plain Try.underlying36 (by intro _ e; cases e) (by intro _ _ e; cases e) o2] at e2
  refine (law_BlkBack W e0 e1 e2).mono fun e W' ⟨he, hg⟩ => ?_
  subst he
  exact ⟨_, rfl, law_post hW' rfl rfl Try.underlying4 rfl (by kernel_rfl) (by decide +kernel) hg⟩

theorem over : Rows.blkBackRow.holds Try.pinned (OpenSpec.ofChange Rows.blkBackSpec) :=
  OpenClaim.holds_of_wide 9 Try.f9 rfl rfl rfl rfl rfl rfl rfl ⟨rfl, rfl, rfl, rfl, rfl⟩ rfl rfl rfl rfl rfl (by kernel_rfl) Try.func9 (by kernel_rfl)
    (of_decide_eq_true (by kernel_rfl)) (by unfold Func.isWrapper; first | (rw [if_pos (by decide +kernel)]; kernel_rfl) | (rw [if_neg (by decide +kernel)]; exact ⟨rfl, rfl⟩))
    (fun os started H enc _ => lifted os started H enc)

theorem proved : Rows.BlkBackSaid :=
  over
#print axioms proved
end Go.Proofs.Ytippipfogbgemaa.rowBlkBack
