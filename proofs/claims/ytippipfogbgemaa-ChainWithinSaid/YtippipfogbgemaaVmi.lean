/-
  A RANGE OVER A MAP, the iterator as a piece of its own: next, entry. Plain theorems over any program.
-/
import Derived.Test.YtippipfogbgemaaVn
import Derived.Laws.IdiomRangeMap
namespace Go.Proofs.Ytippipfogbgemaa
open Go.RowKit
set_option linter.unusedVariables false

section
variable {P : Program} {W0 w : World} {H : Hp} {F : List Hp}

theorem run_setIter {r : Nat} {a : Option Nat} {b c0 : Nat} {s : Array Nat} (h : w.heap[r]? = some (.mapIter a b s c0)) (o : Obj) : (setObj r o).run P w = .ok () (setO w r o) := by
  simp only [setObj, Sem.run, h]
  rfl

theorem next_sat {r bm since c0 clock : Nat} {seen : Array Nat} {es : Array MapEntry} (ty : TypeId) (s : Sat W0 w H (objH r (.mapIter (some bm) since seen c0) :: objH bm (.map es clock) :: F)) (hold : ∀ x ∈ es.toList, x.born < since) (hsc : since ≤ c0) :
    ((leftOf es seen).size = 0 ∧ (Instr.next (.pointer (some ⟨r, 0, none⟩)) false ty).run P w = .ok (.tuple #[.bool false]) w) ∨
    ∃ e ∈ (leftOf es seen).toList, ∃ w1 : World, (Instr.next (.pointer (some ⟨r, 0, none⟩)) false ty).run P w = .ok (.tuple #[.bool true, e.key, e.val]) w1 ∧ Sat W0 w1 H (objH r (.mapIter (some bm) since (seen.push e.born) clock) :: objH bm (.map es clock) :: F) := by
  have hr := s.obj (b := r) (o := .mapIter (some bm) since seen c0) (List.mem_cons_self ..)
  have hb := s.obj (b := bm) (o := .map es clock) (by simp)
  simp only [Instr.next, getObj, Sem.run_bind, Sem.run, hr, hb, Result.andThen, next_test_false seen es since c0 hold hsc, Bool.false_eq_true, if_false]
  unfold leftOf
  have hmem : ∀ x ∈ (Array.filter (fun e => !seen.contains e.born) es).toList, x.born < since := fun x hx => hold x (by simp at hx ⊢; exact hx.1)
  generalize Array.filter (fun e => !seen.contains e.born) es = L at hmem ⊢
  have e1 : L.filter (fun x => decide (x.born < since)) = L := Array.filter_eq_self.2 (fun x hx => by simpa using hmem x (by simpa using hx))
  have e2 : L.filter (fun x => decide (x.born ≥ since)) = #[] := by
    rw [Array.filter_eq_empty_iff]
    intro x hx
    have := hmem x (by simpa using hx)
    simp
    omega
  simp only [e1, e2, Array.append_empty]
  by_cases h0 : L.size = 0
  · left
    have : L = #[] := Array.eq_empty_of_size_eq_zero h0
    subst this
    refine ⟨rfl, ?_⟩
    simp [choose, Sem.run, Question.forced]
  · right
    have hne : L.isEmpty = false := by simp [Array.isEmpty, h0]
    simp only [hne, Bool.false_eq_true, if_false, Array.empty_append, Array.size_map]
    have hch : ∃ (j : Nat) (w1 : World), j < L.size ∧ Sat W0 w1 H (objH r (.mapIter (some bm) since seen c0) :: objH bm (.map es clock) :: F) ∧ (choose (Question.mapNext L.size)).run P w = .ok j w1 := by
      by_cases hf : L.size ≤ 1
      · exact ⟨0, w, by omega, s, by simp [choose, Sem.run, Question.forced, hf]⟩
      · exact ⟨_, w.drew, Nat.mod_lt _ (by omega), s.drew, by
          simp only [choose, Sem.run, Question.forced, decide_eq_true_eq, hf, if_false, Question.cut]
          rfl⟩
    obtain ⟨j, w1, hj, s1, hrun⟩ := hch
    have hr1 := s1.obj (b := r) (o := .mapIter (some bm) since seen c0) (List.mem_cons_self ..)
    have s2 := s1.setO (o' := .mapIter (some bm) since (seen.push L[j].born) clock) (h' := objH r (.mapIter (some bm) since (seen.push L[j].born) clock)) rfl (by intro c t f h; cases h) rfl
    refine ⟨L[j], by simp, _, ?_, s2⟩
    simp only [hrun, Array.getElem?_map, Array.getElem?_eq_getElem hj, Option.map_some, Sem.run_bind, run_setIter hr1, Result.andThen]
    rfl

theorem entry_sat {r bm since clock : Nat} {seen : Array Nat} {es : Array MapEntry} {e : MapEntry} (s : Sat W0 w H (objH r (.mapIter (some bm) since (seen.push e.born) clock) :: objH bm (.map es clock) :: F)) (he : e ∈ es.toList) (hn : (es.toList.map (·.born)).Nodup) :
    (Instr.entry (.pointer (some ⟨r, 0, none⟩))).run P w = .ok (.tuple #[e.key, e.val]) w := by
  have hr := s.obj (b := r) (o := .mapIter (some bm) since (seen.push e.born) clock) (List.mem_cons_self ..)
  have hb := s.obj (b := bm) (o := .map es clock) (by simp)
  have hf : es.find? (·.born == e.born) = some e := by rw [← Array.find?_toList]; exact find_born e es.toList hn he
  simp only [Instr.entry, getObj, Sem.run_bind, Sem.run, hr, hb, Result.andThen, Array.back?_push, bne_self_eq_false, Bool.false_eq_true, if_false, hf]
  rfl
end
end Go.Proofs.Ytippipfogbgemaa
