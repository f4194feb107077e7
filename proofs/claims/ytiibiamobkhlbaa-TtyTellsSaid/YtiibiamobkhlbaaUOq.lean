/-
  GREAT REGIONS THAT ONLY READ: that the order of the text serves, checked pair by pair. Plain theorems over any program.
-/
import Derived.Test.YtiibiamobkhlbaaG1
import Derived.BigQuiet
set_option linter.unusedVariables false
set_option linter.unusedSimpArgs false
namespace Go.Proofs.Ytiibiamobkhlbaa
set_option linter.unusedVariables false
set_option linter.unusedSimpArgs false

section
variable {md : Region.Mode} {ops : Array Oper}
def chk1 (md : Region.Mode) : Nat → List Oper → Bool
  | _, [] => true
  | k, o :: l => o.after.toList.all (fun e => !Region.binds md e || Nat.blt e.on k) && chk1 md (k + 1) l
def chk2 (md : Region.Mode) (ops : Array Oper) : Nat → List Oper → Bool
  | _, [] => true
  | k, x :: l => l.all (fun y => x.apart ops y || y.after.toList.any (fun e => Region.binds md e && e.on == k)) && chk2 md ops (k + 1) l

theorem chk1_at : ∀ {k : Nat} {l : List Oper} {i : Nat} {o : Oper}, chk1 md k l = true → l[i]? = some o → ∀ e ∈ o.after, Region.binds md e = true → e.on < k + i
  | k, [], i, o, h, ho => by simp at ho
  | k, x :: l, 0, o, h, ho => by
    obtain rfl : x = o := by simpa using ho
    intro e he hb
    unfold chk1 at h
    rw [Bool.and_eq_true] at h
    have h1 := List.all_eq_true.1 h.1 e (Array.mem_toList_iff.2 he)
    rw [hb] at h1
    simpa using h1
  | k, x :: l, i + 1, o, h, ho => by
    unfold chk1 at h
    rw [Bool.and_eq_true] at h
    intro e he hb
    have := chk1_at h.2 (i := i) (by simpa using ho) e he hb
    omega
theorem chk2_at {x y : Oper} : ∀ (l : List Oper) (k i j : Nat), chk2 md ops k l = true → l[i]? = some x → l[j]? = some y → i < j → x.apart ops y = true ∨ ∃ e ∈ y.after, Region.binds md e = true ∧ e.on = k + i := by
  intro l
  induction l with
  | nil => intro k i j h hx; simp at hx
  | cons z l ih =>
    intro k i j h hx hy hij
    obtain ⟨j', rfl⟩ : ∃ j', j = j' + 1 := ⟨j - 1, by omega⟩
    rw [List.getElem?_cons_succ] at hy
    rw [chk2, Bool.and_eq_true] at h
    cases i with
    | zero =>
      rw [List.getElem?_cons_zero] at hx
      have hx := Option.some.inj hx
      subst hx
      have h1 := List.all_eq_true.1 h.1 y (List.mem_of_getElem? hy)
      rw [Bool.or_eq_true] at h1
      refine h1.imp id fun h2 => ?_
      obtain ⟨e, he, h3⟩ := List.any_eq_true.1 h2
      rw [Bool.and_eq_true] at h3
      exact ⟨e, Array.mem_toList_iff.1 he, h3.1, by have := h3.2; rw [beq_iff_eq] at this; omega⟩
    | succ i =>
      rw [List.getElem?_cons_succ] at hx
      have := ih (k + 1) i j' h.2 hx hy (by omega)
      rw [show k + 1 + i = k + (i + 1) by omega] at this
      exact this

theorem lexFrom_fast (h1 : chk1 md 0 ops.toList = true) (h2 : chk2 md ops 0 ops.toList = true) : ∀ (fuel k : Nat) (listed : Array Bool), fuel + k = ops.size → listed.size = ops.size → (∀ j, j < ops.size → listed.getD j true = decide (j < k)) →
    Region.lexFrom md ops fuel k listed = true := by
  intro fuel
  induction fuel with
  | zero =>
    intro k listed hk hs hl
    rw [Region.lexFrom, List.isEmpty_iff]
    refine List.eq_nil_iff_forall_not_mem.2 fun j hj => ?_
    obtain ⟨h0, o, ho, _⟩ := mem_ready.1 hj
    have hlt := (Array.getElem?_eq_some_iff.1 ho).1
    rw [hl j hlt, decide_eq_true (by omega)] at h0
    cases h0
  | succ fuel ih =>
    intro k listed hk hs hl
    have hklt : k < ops.size := by omega
    have hok : ops[k]? = some ops[k] := Array.getElem?_eq_getElem hklt
    have hokl : ops.toList[k]? = some ops[k] := by rw [Array.getElem?_toList]; exact hok
    simp only [Region.lexFrom, Bool.and_eq_true]
    refine ⟨⟨?_, ?_⟩, ?_⟩
    · rw [List.contains_iff_mem]
      refine mem_ready.2 ⟨by rw [hl k hklt, decide_eq_false (by omega)], ops[k], hok, fun e he hb => ?_⟩
      have h3 := chk1_at h1 hokl e he hb
      rw [Nat.zero_add] at h3
      have h4 := hl e.on (by omega)
      rw [decide_eq_true h3] at h4
      have h5 : e.on < listed.size := by omega
      simp [h5] at h4 ⊢
      exact h4
    · unfold Region.free
      rw [hok]
      simp only
      rw [List.all_eq_true]
      intro j hj
      have hjlt := List.mem_range.1 hj
      by_cases hjk : j = k
      · simp [hjk]
      by_cases hjl : j < k
      · rw [hl j hjlt, decide_eq_true hjl]; simp
      · have hoj : ops[j]? = some ops[j] := Array.getElem?_eq_getElem hjlt
        have hojl : ops.toList[j]? = some ops[j] := by rw [Array.getElem?_toList]; exact hoj
        rw [hoj]
        simp only [Bool.or_eq_true]
        refine .inr ?_
        rcases chk2_at ops.toList 0 k j h2 hokl hojl (by omega) with h3 | ⟨e, he, hb, h3⟩
        · exact .inr h3
        · refine .inl ?_
          rw [Array.any_eq_true']
          exact ⟨e, he, by rw [hb]; simp; omega⟩
    · refine ih (k + 1) _ (by omega) (by simp [hs]) fun j hj => ?_
      by_cases hjk : k = j
      · subst hjk
        rw [decide_eq_true (by omega)]
        simp [show k < listed.size by omega]
      · rw [getD_set_ne true hjk, hl j hj]
        by_cases h3 : j < k
        · rw [decide_eq_true h3, decide_eq_true (by omega)]
        · rw [decide_eq_false h3, decide_eq_false (by omega)]
theorem lexB_fast {l : List Oper} (h0 : Region.noSelect l.toArray = true) (h1 : chk1 md 0 l = true) (h2 : chk2 md l.toArray 0 l = true) : Region.lexB md l.toArray = true := by
  unfold Region.lexB
  rw [h0, Bool.true_and]
  exact lexFrom_fast h1 h2 _ 0 _ (by simp) (by simp) fun j hj => by
    rw [decide_eq_false (by omega)]
    have : j < l.length := by simpa using hj
    simp [this]
end
end Go.Proofs.Ytiibiamobkhlbaa
