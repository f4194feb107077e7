/-
  copy onto an owned slice, from cells that are read. Plain theorems over any program.
-/
import Derived.Test.YtippipfogbgemaaVd
import Derived.Laws.IdiomCopy
namespace Go.Proofs.Ytippipfogbgemaa
open Go.RowKit
set_option linter.unusedVariables false

theorem run_copy_sat {P : Program} {W0 w : World} {H : Hp} {F : List Hp} (dT sT ty elem : TypeId) (hu : P.underlying dT = some (.slice elem)) (hz : (P.info? elem).map (·.size) = some 1)
    {D : Option Addr} {n cap : Nat} {vs : List Value} {h : Hp} (own : OwnS 1 (.slice D n cap) n vs h) (s : Sat W0 w H (h :: F)) (X : Option Addr) (m c : Nat) (us : List Value) (hl : us.length = m) (hm : m ≤ n) (hus : RowR w X us)
    (h1 : ∀ x ∈ us, x.oneCell' = true) :
    ∃ w' h', (Builtin.copy_ #[dT, sT] ty #[.slice D n cap, .slice X m c]).run P w = .ok (goInt m) w' ∧ OwnS 1 (.slice D n cap) n (us ++ vs.drop m) h' ∧ Sat W0 w' H (h' :: F) := by
  by_cases h0 : m = 0
  · subst h0
    obtain rfl : us = [] := List.eq_nil_of_length_eq_zero hl
    exact ⟨w, h, run_copy_none w dT sT ty elem _ _ _ _ _ _ hu hz (by simp), by simpa using own, s⟩
  · obtain ⟨A', cap', spare, e, hnc, hcm, hlv, hls, hA, rfl⟩ := own
    injection e with e1 e2 e3
    subst e1 e3
    obtain ⟨b, o, rfl⟩ := hA (by omega)
    have hne : us ≠ [] := by rintro rfl; simp at hl; omega
    obtain ⟨b', o', rfl, _⟩ := hus hne
    have hlo := run_loadCells_list (P := P) w ⟨b', o', none⟩ us hus.add
    obtain ⟨w', hr, hs⟩ := run_store_row P (a := ⟨b, o, none⟩) rfl us 0 0 (vs ++ spare) w s (by rw [List.length_append, hlv, hl]; omega) h1
    refine ⟨w', _, ?_, ⟨_, cap, spare, rfl, hnc, hcm, by rw [List.length_append, List.length_drop, hlv, hl]; omega, hls, fun _ => ⟨b, o, rfl⟩, rfl⟩, ?_⟩
    · cases hq : P.info? elem with
      | none => simp [hq] at hz
      | some i =>
        have hi : i.size = 1 := by simpa [hq] using hz
        have hmn : min m n = m := by omega
        rw [hl] at hlo
        simp only [Nat.add_zero] at hr
        simp [Builtin.copy_, run_underlying hu, Builtin.lenOf, Builtin.firstCells, sizeOf, typeInfo, hq, hi, hmn, hlo, hr]
    · have e : (vs ++ spare).take (0 + 0) ++ us ++ (vs ++ spare).drop (0 + 0 + us.length) = us ++ vs.drop m ++ spare := by
        rw [hl, Nat.zero_add, Nat.zero_add, List.drop_append_of_le_length (by omega)]
        simp
      rw [e] at hs
      exact hs

theorem wpList_copy {P : Program} {ops : Array Oper} {rest : List Oper} {o : Oper} {a : Act} {Q : Exit → Act → World → Prop} {W0 w : World} {H : Hp} {A F : List Hp} (hgd : o.guard = none) (d s : Operand) (dT sT elem : TypeId)
    (ho : o.op = .call { callee := .builtin .copy, args := #[d, s], argTypes := #[dT, sT] }) (hu : P.underlying dT = some (.slice elem)) (hz : (P.info? elem).map (·.size) = some 1)
    {D : Option Addr} {n cap : Nat} {vs : List Value} {h : Hp} (hd : a.eval d = .slice D n cap) (own : OwnS 1 (.slice D n cap) n vs h) (st : Sat W0 w H A) [fr : FrH h A F] {X : Option Addr} {m c : Nat} {us : List Value} (hx : a.eval s = .slice X m c) (hl : us.length = m) (hm : m ≤ n) (hus : RowR w X us)
    (h1 : ∀ x ∈ us, x.oneCell' = true)
    (k : ∀ w' h', OwnS 1 (.slice D n cap) n (us ++ vs.drop m) h' → Sat W0 w' H (h' :: F) → wpList P ops Q rest (a.put o.dst (goInt m)) w') : wpList P ops Q (o :: rest) a w := by
  obtain ⟨w', h', hr, ho', hs'⟩ := run_copy_sat (P := P) dT sT o.type elem hu hz own st.pull X m c us hl hm hus h1
  refine wpList_run hgd (v := goInt m) (w' := w') ?_ (k w' h' ho' hs')
  unfold execOp
  rw [ho]
  simp only [resolve, invoke]
  simp [builtin, hd, hx, hr]
end Go.Proofs.Ytippipfogbgemaa
