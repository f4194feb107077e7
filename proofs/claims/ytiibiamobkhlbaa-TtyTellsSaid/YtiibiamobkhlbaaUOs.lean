/-
  WHOLE ROWS of values stored as an operation that comes up, and handed back.
-/
import Derived.Test.YtiibiamobkhlbaaG1
import Derived.Deep.MidRow
import Derived.Deep.LoopGhost
import Derived.Outline
set_option linter.unusedVariables false
set_option linter.unusedSimpArgs false
namespace Go.Proofs.Ytiibiamobkhlbaa
open Go.RowKit
set_option linter.unusedVariables false
set_option linter.unusedSimpArgs false

/-- a whole row stored over a row of the same length, as an operation that comes up -/
theorem wp_storeRow {P : Program} {o : Oper} {a : Act} {K : Act → World → Prop} {Q : Exit → Act → World → Prop} {W0 w : World} {H : Hp} {F : List Hp}
    (ty : TypeId) (x y : Operand) (ho : o.op = .store ty x y) (b : Nat) {vs us : List Value} (hx : a.eval x = .pointer (some ⟨b, 0, none⟩)) (hy : a.eval y = .agg us.toArray)
    (s : Sat W0 w H (cellsH ⟨b, 0, none⟩ vs :: F)) (hl : us.length = vs.length) (hi : (P.info? ty).map (·.size) = some us.length) (h1 : ∀ v ∈ us, v.oneCell' = true)
    (h : ∀ w', Sat W0 w' H (cellsH ⟨b, 0, none⟩ us :: F) → K (a.put o.dst undef) w') : Oper.wp P o a w K Q := by
  refine wp_store_mid ty x y ho b 0 us.toArray hx hy (fun j hj => ?_) (by rw [List.size_toArray]; exact hi) (all_oneCell_toArray h1) ?_
  · rw [List.size_toArray] at hj
    have := s.c (0 + j) (List.getElem?_eq_getElem (by omega))
    simp only [Nat.zero_add] at this ⊢
    exact ⟨by rw [this.1]; rfl, this.2⟩
  · have t := Sat.setCells us 0 _ _ s (by omega)
    have e : vs.take 0 ++ us ++ vs.drop (0 + us.length) = us := by
      rw [List.take_zero, List.nil_append, List.drop_eq_nil_of_le (by omega), List.append_nil]
    rw [e] at t
    exact h _ t
theorem wpList_storeRow {P : Program} {W0 w : World} {H : Hp} {F : List Hp} {ops : Array Oper} {rest : List Oper} {op : Oper} {a : Act} {Q : Exit → Act → World → Prop} (hgd : op.guard = none) (ty : TypeId) (x y : Operand) (ho : op.op = .store ty x y)
    (b : Nat) {vs us : List Value} (hx : a.eval x = .pointer (some ⟨b, 0, none⟩)) (hy : a.eval y = .agg us.toArray) (s : Sat W0 w H (cellsH ⟨b, 0, none⟩ vs :: F)) (hl : us.length = vs.length)
    (hi : (P.info? ty).map (·.size) = some us.length) (h1 : ∀ v ∈ us, v.oneCell' = true)
    (h : ∀ w', Sat W0 w' H (cellsH ⟨b, 0, none⟩ us :: F) → wpList P ops Q rest (a.put op.dst undef) w') : wpList P ops Q (op :: rest) a w :=
  wpList_plain hgd fun _ hK => wp_storeRow ty x y ho b hx hy s hl hi h1 (fun w' t => hK _ _ (h w' t))
theorem wpList_loadRow {P : Program} {W0 w : World} {H : Hp} {F : List Hp} {ops : Array Oper} {rest : List Oper} {op : Oper} {a : Act} {Q : Exit → Act → World → Prop} (hgd : op.guard = none) (ty : TypeId) (x : Operand) (ho : op.op = .load ty x)
    (b : Nat) (hx : a.eval x = .pointer (some ⟨b, 0, none⟩)) {cs : List Value} {d : TypeDesc} (s : Sat W0 w H (cellsH ⟨b, 0, none⟩ cs :: F))
    (hu : P.underlying ty = some d) (hd : d.isRow = true) (hi : (P.info? ty).map (·.size) = some cs.length)
    (h : wpList P ops Q rest (a.put op.dst (.agg cs.toArray)) w) : wpList P ops Q (op :: rest) a w :=
  wpList_load_mid hgd ty x ho b 0 hx cs d (fun j v hv => (s.c j hv).1) hu hd hi h
/-- a row in a cell of the results -/
theorem results_row {P : Program} {W0 w : World} {H : Hp} {F : List Hp} {fn : Func} {p : Tmp} {ty : TypeId} (h : fn.results = #[.cell p ty]) (tmps : Array Value) (b : Nat) {cs : List Value} {d : TypeDesc}
    (hp : tmps.getD p undef = .pointer (some ⟨b, 0, none⟩)) (s : Sat W0 w H (cellsH ⟨b, 0, none⟩ cs :: F)) (hu : P.underlying ty = some d) (hd : d.isRow = true) (hi : (P.info? ty).map (·.size) = some cs.length) :
    (results fn tmps).run P w = .ok (.agg cs.toArray) w := by
  have hp' : tmps[p]?.getD undef = .pointer (some ⟨b, 0, none⟩) := by simpa using hp
  have hl := run_loadVar_mid (P := P) w b 0 ty cs d (fun j v hv => (s.c j hv).1) hu hd hi
  simp [results, h, hp', asAddr, hl]
end Go.Proofs.Ytiibiamobkhlbaa
