/-
  SLICES THAT ARE OWNED: 'OwnS size v n vs h': the slice v has n elements, whose cells are vs; h is all of its row, up to its capacity. append onto such a slice; cells stored one by one. Plain theorems over any program.
-/
import Derived.Test.YtippipfogbgemaaVb
import Derived.Laws.Append
import Derived.Laws.AppendOwn
import Derived.StillTailTactics
import Derived.Deep.RegionLaw
import Derived.Deep.RegionHeldLaw
namespace Go.Proofs.Ytippipfogbgemaa
open Go.RowKit

def empH : Hp := fun _ => none

def rowH (A : Option Addr) (vs : List Value) : Hp := match A with | some a => cellsH a vs | none => empH

/-- an owned slice: n elements in the cells vs, then spare ones up to the capacity -/
def OwnS (size : Nat) (v : Value) (n : Nat) (vs : List Value) (h : Hp) : Prop :=
  ∃ A cap spare, v = .slice A n cap ∧ n ≤ cap ∧ cap ≤ 9223372036854775807 ∧ vs.length = n * size ∧ spare.length = (cap - n) * size ∧ (0 < cap → ∃ b o, A = some ⟨b, o, none⟩) ∧ h = rowH A (vs ++ spare)

theorem OwnS.nil (size : Nat) : OwnS size (.slice none 0 0) 0 [] empH := ⟨none, 0, [], rfl, Nat.le_refl _, by omega, by simp, by simp, fun h => absurd h (by omega), rfl⟩
theorem cellsH_nil (a : Addr) : cellsH a [] = empH := by
  funext l; cases l <;> simp [cellsH, empH]
theorem OwnS.zero (size : Nat) (A : Option Addr) : OwnS size (.slice A 0 0) 0 [] empH := ⟨A, 0, [], rfl, Nat.le_refl _, by omega, by simp, by simp, fun h => absurd h (by omega), by cases A <;> simp [rowH, cellsH_nil]⟩

section
variable {W0 w w' : World} {H : Hp} {A B F : List Hp}

theorem Sat.emp (s : Sat W0 w H F) : Sat W0 w H (empH :: F) :=
  ⟨s.below, s.ro, s.old, List.pairwise_cons.2 ⟨fun _ _ _ => .inl rfl, s.apart⟩, fun h hm => by
    rcases List.mem_cons.1 hm with rfl | hm
    · exact ⟨fun _ _ e => by simp [empH] at e, fun _ => .inl rfl⟩
    · exact s.each h hm⟩

/-- cells that are read in the world, in a row -/
def RowR (w : World) (a : Option Addr) (us : List Value) : Prop := us ≠ [] → ∃ b o, a = some ⟨b, o, none⟩ ∧ ∀ (j : Nat) u, us[j]? = some u → w.cell? ⟨b, o + j, none⟩ = some u

theorem RowR.add {a : Addr} {us : List Value} (h : RowR w (some a) us) : ∀ (j : Nat) u, us[j]? = some u → w.cell? (a.add j) = some u := by
  intro j u hu
  have hne : us ≠ [] := by rintro rfl; simp at hu
  obtain ⟨b, o, e, hc⟩ := h hne
  injection e with e
  subst e
  have := hc j u hu
  unfold Addr.add
  by_cases hj : j = 0
  · subst hj; simpa using this
  · simpa [hj] using this

/-- storing one cell after the other into a piece -/
theorem run_store_row (P : Program) {a : Addr} (ha : a.spot = none) : ∀ (us : List Value) (i k : Nat) (vs : List Value) (w : World), Sat W0 w H (cellsH a vs :: F) → i + k + us.length ≤ vs.length → (∀ u ∈ us, u.oneCell' = true) →
    ∃ w', (storeCells (⟨a.block, a.off + i, none⟩ : Addr) us k).run P w = .ok () w' ∧ Sat W0 w' H (cellsH a (vs.take (i + k) ++ us ++ vs.drop (i + k + us.length)) :: F)
  | [], i, k, vs, w, s, _, _ => ⟨w, by simp [storeCells], by simpa using s⟩
  | u :: us, i, k, vs, w, s, hl, h1 => by
    simp only [List.length_cons] at hl
    have hi : i + k < vs.length := by omega
    have hc := s.cells (List.mem_cons_self ..) (i := i + k) (v := vs[i + k]) (by simp [hi])
    have s' := s.setAt hi u
    have hadd : (⟨a.block, a.off + i, none⟩ : Addr).add k = ⟨a.block, a.off + (i + k), none⟩ := by
      unfold Addr.add
      by_cases hk : k = 0
      · subst hk; simp
      · simp [hk, Nat.add_assoc]
    obtain ⟨w', hr, hs⟩ := run_store_row P ha us i (k + 1) (vs.set (i + k) u) _ s' (by simp; omega) (fun x hx => h1 x (List.mem_cons_of_mem _ hx))
    refine ⟨w', ?_, ?_⟩
    · have hst := run_store P w ⟨a.block, a.off + (i + k), none⟩ u .plain (h1 u (List.mem_cons_self ..))
      rw [hc.1] at hst
      simp only [hc.2] at hst
      simp only [storeCells, hadd]
      simp [hst]
      exact hr
    · have e : (vs.set (i + k) u).take (i + (k + 1)) ++ us ++ (vs.set (i + k) u).drop (i + (k + 1) + us.length) = vs.take (i + k) ++ u :: us ++ vs.drop (i + k + (u :: us).length) := by
        simp only [List.length_cons]
        apply List.ext_getElem?
        intro j
        simp only [List.getElem?_append, List.length_append, List.length_take, List.length_set, List.length_cons, List.getElem?_take, List.getElem?_set, List.getElem?_drop, List.getElem?_cons]
        have e1 : min (i + (k + 1)) vs.length = i + k + 1 := by omega
        have e2 : min (i + k) vs.length = i + k := by omega
        rw [e1, e2]
        by_cases c1 : j < i + k
        · simp [show j < i + k + 1 + us.length by omega, show j < i + k + 1 by omega, c1, show j < i + k + (us.length + 1) by omega, show ¬ i + k = j by omega]; omega
        · by_cases c2 : j = i + k
          · subst c2; simp [show i + k < i + k + 1 + us.length by omega]; omega
          · by_cases c3 : j < i + k + 1 + us.length
            · simp [c3, show ¬ j < i + k + 1 by omega, c1, show j < i + k + (us.length + 1) by omega, show ¬ j - (i + k) = 0 by omega, show j - (i + k + 1) = j - (i + k) - 1 by omega]
            · simp [c3, show ¬ j < i + k + (us.length + 1) by omega, show ¬ i + k = i + (k + 1) + us.length + (j - (i + k + 1 + us.length)) by omega]
              congr 1; omega
      rw [← e]; exact hs

/-- append: onto an owned slice, from cells that are read -/
theorem run_append_sat {P : Program} (t u ty e : TypeId) (i : TypeInfo) (z : Value) (size bytes : Nat) (ht : P.underlying t = some (.slice e)) (hu : P.underlying u = some (.slice e)) (hi : P.info? e = some i) (hz : i.zero = some z)
    (hsize : i.size = size) (hby : i.bytes = bytes) (hzs : z.cells.size = size) (hsz : 0 < size)
    {v : Value} {n : Nat} {vs : List Value} {h : Hp} (own : OwnS size v n vs h) (s : Sat W0 w H (h :: F)) (X : Option Addr) (m c : Nat) (us : List Value) (hl : us.length = m * size) (hus : RowR w X us)
    (h1 : ∀ x ∈ us, x.oneCell' = true) (h63 : n + m ≤ 9223372036854775807) (hb : (n + m) * bytes ≤ 140737488355328) :
    ∃ v' w' h', (Builtin.append_ #[t, u] ty #[v, .slice X m c]).run P w = .ok v' w' ∧ OwnS size v' (n + m) (vs ++ us) h' ∧ Sat W0 w' H (h' :: F) := by
  subst hsize
  obtain ⟨A, cap, spare, rfl, hnc, hcm, hlv, hls, hA, rfl⟩ := own
  have hu' : (∀ k, P.underlying u ≠ some (.int k)) := by intro k; rw [hu]; simp
  by_cases hroom : n + m ≤ cap
  · -- there is room
    by_cases hm : m = 0
    · subst hm
      have : us = [] := by simpa using hl
      subst this
      refine ⟨.slice A n cap, w, _, ?_, ⟨A, cap, spare, rfl, hnc, hcm, by simpa using hlv, hls, hA, rfl⟩, by simpa using s⟩
      cases A with
      | none =>
        cases X <;> simp [Builtin.append_, run_underlying ht, run_underlying hu, sizeOf, typeInfo, hi, Builtin.lenOf, hnc, Builtin.firstCells, loadCells, loadCellsFrom]
      | some a =>
        cases X <;> simp [Builtin.append_, run_underlying ht, run_underlying hu, sizeOf, typeInfo, hi, Builtin.lenOf, hnc, Builtin.firstCells, loadCells, loadCellsFrom, storeCells]
    · obtain ⟨b, o, rfl⟩ := hA (by omega)
      have hne : us ≠ [] := by rintro rfl; have := Nat.mul_pos (show 0 < m by omega) hsz; simp at hl; omega
      obtain ⟨b', o', rfl, _⟩ := hus hne
      have hf := run_firstCells_some (P := P) w i.size m ⟨b', o', none⟩ m c us hl hus.add
      obtain ⟨w', hr, hs⟩ := run_store_row P (a := ⟨b, o, none⟩) rfl us (n * i.size) 0 (vs ++ spare) w s (by
        rw [List.length_append, hlv, hls, hl]
        have : n * i.size + m * i.size ≤ n * i.size + (cap - n) * i.size := Nat.add_le_add_left (Nat.mul_le_mul_right _ (by omega)) _
        omega) h1
      refine ⟨.slice (some ⟨b, o, none⟩) (n + m) cap, w', _, ?_, ⟨some ⟨b, o, none⟩, cap, spare.drop us.length, rfl, hroom, hcm, by rw [List.length_append, hlv, hl, Nat.add_mul], ?_, hA, rfl⟩, ?_⟩
      · have hadd : (⟨b, o, none⟩ : Addr).add (n * i.size) = ⟨b, o + n * i.size, none⟩ := by
          unfold Addr.add
          by_cases h0 : n * i.size = 0
          · simp [h0]
          · simp [h0]
        simp [Builtin.append_, run_underlying ht, run_underlying hu, sizeOf, typeInfo, hi, Builtin.lenOf, hroom, hf, hadd, hr]
      · rw [List.length_drop, hls, hl, ← Nat.sub_mul]; congr 1; omega
      · have e : (vs ++ spare).take (n * i.size + 0) ++ us ++ (vs ++ spare).drop (n * i.size + 0 + us.length) = vs ++ us ++ spare.drop us.length := by
          rw [Nat.add_zero, ← hlv, List.take_left, List.drop_append, List.drop_eq_nil_of_le (by omega : vs.length ≤ vs.length + us.length)]
          simp
        rw [e] at hs
        exact hs
  · -- a new row
    have hfit : Builtin.nextslicecap (n + m) cap * i.bytes ≤ 281474976710656 := growslice_fits (by omega) (by rw [hby]; exact hb)
    have hm : m ≠ 0 := by omega
    have hne : us ≠ [] := by rintro rfl; have := Nat.mul_pos (show 0 < m by omega) hsz; simp at hl; omega
    obtain ⟨b', o', rfl, _⟩ := hus hne
    have hgc := grownCap_ge w (n + m) cap e
    have hgm := grownCap_le_maxLen w (n + m) cap e (by unfold maxLen; omega)
    have hf := run_firstCells_some (P := P) w.drew i.size m ⟨b', o', none⟩ m c us hl (by simpa using hus.add)
    have h63' : ¬ (9223372036854775807 < ((n : Int) + (m : Int))) := by omega
    have h48' : ¬ (281474976710656 < Builtin.nextslicecap (n + m) cap * i.bytes) := by omega
    have hold : (Builtin.firstCells i.size n (.slice A n cap)).run P w.drew = .ok vs.toArray w.drew := by
      cases A with
      | none =>
        have : n = 0 := by
          rcases Nat.eq_zero_or_pos cap with h0 | h0
          · omega
          · obtain ⟨_, _, e⟩ := hA h0; cases e
        subst this
        have : vs = [] := by simpa using hlv
        subst this
        simp [Builtin.firstCells]
      | some a =>
        refine run_firstCells_some (P := P) w.drew i.size n a n cap vs hlv ?_
        intro j x hx
        have hj : j < vs.length := by
          rcases Nat.lt_or_ge j vs.length with h0 | h0
          · exact h0
          · rw [List.getElem?_eq_none h0] at hx; cases hx
        have hcap : 0 < cap := by
          rcases Nat.eq_zero_or_pos cap with h0 | h0
          · have : n = 0 := by omega
            subst this; simp at hlv; subst hlv; simp at hj
          · exact h0
        obtain ⟨b, o, e⟩ := hA hcap
        injection e with e
        subst e
        have hc := s.cells (a := ⟨b, o, none⟩) (List.mem_cons_self ..) (i := j) (v := x) (by rw [List.getElem?_append_left hj]; exact hx)
        unfold Addr.add
        by_cases h0 : j = 0
        · subst h0; simpa using hc.1
        · simpa [h0] using hc.1
    have hnr : ¬ (n + m ≤ cap) := hroom
    refine ⟨.slice (some ⟨w.heap.size, 0, none⟩) (n + m) (grownCap w (n + m) cap e),
      w.drew.alloc (.cells (vs ++ us ++ (Builtin.zeroCells z.cells (grownCap w (n + m) cap e - (n + m))).toList).toArray e), _, ?_,
      ⟨some ⟨w.heap.size, 0, none⟩, grownCap w (n + m) cap e, (Builtin.zeroCells z.cells (grownCap w (n + m) cap e - (n + m))).toList, rfl, hgc, by unfold maxLen at hgm; omega, by rw [List.length_append, hlv, hl, Nat.add_mul], ?_, fun _ => ⟨_, _, rfl⟩, rfl⟩, ?_⟩
    · simp [Builtin.append_, run_underlying ht, run_underlying hu, sizeOf, typeInfo, zeroValue, hi, hz, Builtin.lenOf, hnr, h63', h48', Question.forced, hf, hold, newRow, grownCap]
      congr 2
      apply Array.ext'
      simp
    · simp [size_zeroCells, hzs]
    · exact (s.tail1.drew).alloc
end

theorem OwnS.row {w : World} {size : Nat} {A : Option Addr} {n cap : Nat} {vs : List Value} {h : Hp} (own : OwnS size (.slice A n cap) n vs h) (hh : Holds w h) (i m : Nat) :
    (vs.drop i).take m ≠ [] → ∃ b o, A = some ⟨b, o, none⟩ ∧ ∀ (j : Nat) u, ((vs.drop i).take m)[j]? = some u → w.cell? ⟨b, o + i + j, none⟩ = some u := by
  obtain ⟨A', cap', spare, e, hnc, hcm, hlv, hls, hA, rfl⟩ := own
  injection e with e1 e2 e3
  subst e1 e3
  intro hne
  have hcap : 0 < cap := by
    rcases Nat.eq_zero_or_pos cap with h0 | h0
    · have : n = 0 := by omega
      subst this
      simp at hlv
      subst hlv
      simp at hne
    · exact h0
  obtain ⟨b, o, rfl⟩ := hA hcap
  refine ⟨b, o, rfl, fun j u hu => ?_⟩
  rw [List.getElem?_take] at hu
  split at hu
  case isFalse => cases hu
  case isTrue hj =>
    rw [List.getElem?_drop] at hu
    have hlt : i + j < vs.length := by
      rcases Nat.lt_or_ge (i + j) vs.length with h0 | h0
      · exact h0
      · rw [List.getElem?_eq_none h0] at hu; cases hu
    have := hh (.cell b (o + i + j)) (.val u false) (by
      have h1 : (vs ++ spare)[i + j]? = some u := by rw [List.getElem?_append_left hlt]; exact hu
      have h2 := cellsH_at (a := ⟨b, o, none⟩) h1
      simpa [rowH, Nat.add_assoc] using h2)
    exact (look_cell this).1

theorem OwnS.row0 {w : World} {size : Nat} {A : Option Addr} {n cap : Nat} {vs : List Value} {h : Hp} (own : OwnS size (.slice A n cap) n vs h) (hh : Holds w h) (m : Nat) : RowR w A (vs.take m) := by
  intro hne
  obtain ⟨b, o, e, g⟩ := own.row hh 0 m (by simpa using hne)
  exact ⟨b, o, e, fun j u hu => by simpa using g j u (by simpa using hu)⟩

/-- a row cut at i: where the cut leads -/
theorem OwnS.rowAt {w : World} {A : Option Addr} {n cap : Nat} {vs : List Value} {h : Hp} (own : OwnS 1 (.slice A n cap) n vs h) (hh : Holds w h) (i m : Nat) : RowR w (A.map (·.add i)) ((vs.drop i).take m) := by
  intro hne
  obtain ⟨b, o, rfl, g⟩ := own.row hh i m hne
  refine ⟨b, o + i, ?_, g⟩
  unfold Addr.add
  by_cases h0 : i = 0
  · simp [h0]
  · simp [h0]

theorem OwnS.rowCut {w : World} {A : Option Addr} {n cap : Nat} {vs : List Value} {h : Hp} (own : OwnS 1 (.slice A n cap) n vs h) (hh : Holds w h) (i : Nat) : RowR w (if cap = i then A else A.map (·.add i)) ((vs.drop i).take (n - i)) := by
  by_cases hc : cap = i
  · obtain ⟨A', cap', spare, e, hnc, _⟩ := own
    injection e with e1 e2 e3
    intro hne
    refine absurd (List.eq_nil_of_length_eq_zero ?_) hne
    rw [List.length_take]
    omega
  · rw [if_neg hc]; exact own.rowAt hh i _
theorem rowR_nil {w : World} {X : Option Addr} {us : List Value} (h : us.length = 0) : RowR w X us := fun hne => absurd (List.eq_nil_of_length_eq_zero h) hne
theorem rowR_old {w : World} {A : Option Addr} {f : Nat → List Value} (h : ∀ m, RowR w A (f m)) (m : Nat) (o : Obj) : RowR (w.alloc o) A (f m) := by
  intro hne
  obtain ⟨b, i, e, g⟩ := h m hne
  exact ⟨b, i, e, fun j u hu => by
    have := g j u hu
    rw [World.cell?_alloc_lt _ _ _ (World.block_lt_of_cell? _ _ this)]
    exact this⟩

theorem OwnS.made {size b o n c : Nat} {vs : List Value} (spare : List Value) (hn : n ≤ c) (hc : c ≤ 9223372036854775807) (hv : vs.length = n * size) (hs : spare.length = (c - n) * size) :
    OwnS size (.slice (some ⟨b, o, none⟩) n c) n vs (cellsH ⟨b, o, none⟩ (vs ++ spare)) :=
  ⟨_, c, spare, rfl, hn, hc, hv, hs, fun _ => ⟨b, o, rfl⟩, rfl⟩

/-- an owned slice of bytes is read -/
theorem OwnS.rd {v : Value} {n : Nat} {xs : List Int} {h : Hp} (own : OwnS 1 v n (xs.map (Value.int .u8)) h) (hx : ∀ x ∈ xs, 0 ≤ x ∧ x ≤ 255) : Rd u8E 1 h v xs := by
  obtain ⟨A, c, spare, rfl, hnc, hcm, hlv, hls, hA, rfl⟩ := own
  simp at hlv
  subst hlv
  refine ⟨A, c, rfl, hnc, hcm, fun i x hi => ?_⟩
  have hlt : i < xs.length := by
    rcases Nat.lt_or_ge i xs.length with h0 | h0
    · exact h0
    · rw [List.getElem?_eq_none h0] at hi; cases hi
  obtain ⟨b, o, rfl⟩ := hA (by omega)
  refine ⟨b, o, [.int .u8 x], rfl, ⟨rfl, hx x (List.mem_of_getElem? hi)⟩, rfl, fun j u hu => ⟨false, ?_⟩⟩
  cases j with
  | succ j => simp at hu
  | zero =>
    simp at hu
    subst hu
    have := cellsH_at (a := ⟨b, o, none⟩) (vs := xs.map (Value.int .u8) ++ spare) (i := i) (v := .int .u8 x) (by rw [List.getElem?_append_left (by simpa using hlt)]; simp [hi])
    simpa [rowH] using this

/-- a slice of bytes over cells that are owned -/
theorem Rd.ofCells {b o c : Nat} {xs : List Int} (more : List Value) (hx : ∀ x ∈ xs, 0 ≤ x ∧ x ≤ 255) (hc : xs.length ≤ c) (hc2 : c ≤ 9223372036854775807) :
    Rd u8E 1 (cellsH ⟨b, o, none⟩ (xs.map (Value.int .u8) ++ more)) (.slice (some ⟨b, o, none⟩) xs.length c) xs := by
  refine ⟨_, _, rfl, hc, hc2, fun i x hi => ⟨b, o, [.int .u8 x], rfl, ⟨rfl, hx x (List.mem_of_getElem? hi)⟩, rfl, fun j u hu => ⟨false, ?_⟩⟩⟩
  cases j with
  | succ j => simp at hu
  | zero =>
    simp at hu
    subst hu
    have hlt : i < xs.length := by
      rcases Nat.lt_or_ge i xs.length with h0 | h0
      · exact h0
      · rw [List.getElem?_eq_none h0] at hi; cases hi
    have := cellsH_at (a := ⟨b, o, none⟩) (vs := xs.map (Value.int .u8) ++ more) (i := i) (v := .int .u8 x) (by rw [List.getElem?_append_left (by simpa using hlt)]; simp [hi])
    simpa using this

/-- an operation whose run is known -/
theorem wpList_run {P : Program} {ops : Array Oper} {rest : List Oper} {o : Oper} {a : Act} {w w' : World} {Q : Exit → Act → World → Prop} {v : Value} (hg : o.guard = none)
    (hr : (execOp a.eval o).run P w = .ok (.value v) w') (k : wpList P ops Q rest (a.put o.dst v) w') : wpList P ops Q (o :: rest) a w := by
  refine wpList_plain hg fun K hK => ?_
  unfold Oper.wp
  rw [hr]
  exact hK _ _ k

theorem wpList_append {P : Program} {ops : Array Oper} {rest : List Oper} {o : Oper} {a : Act} {Q : Exit → Act → World → Prop} {W0 w : World} {H : Hp} {F : List Hp}
    (hg : o.guard = none) (sx xx : Operand) (t u e : TypeId) (hop : o.op = .call { callee := .builtin .append, args := #[sx, xx], argTypes := #[t, u] })
    (i : TypeInfo) (z : Value) (size bytes : Nat) (ht : P.underlying t = some (.slice e)) (hu : P.underlying u = some (.slice e)) (hi : P.info? e = some i) (hz : i.zero = some z)
    (hsize : i.size = size) (hby : i.bytes = bytes) (hzs : z.cells.size = size) (hsz : 0 < size)
    {v : Value} {n : Nat} {vs : List Value} {h : Hp} (hv : a.eval sx = v) (own : OwnS size v n vs h) (s : Sat W0 w H (h :: F)) {X : Option Addr} {m c : Nat} {us : List Value} (hx : a.eval xx = .slice X m c) (hl : us.length = m * size) (hus : RowR w X us)
    (h1 : ∀ x ∈ us, x.oneCell' = true) (h63 : n + m ≤ 9223372036854775807) (hb : (n + m) * bytes ≤ 140737488355328)
    (k : ∀ A' cap' w' h', OwnS size (.slice A' (n + m) cap') (n + m) (vs ++ us) h' → Sat W0 w' H (h' :: F) → wpList P ops Q rest (a.put o.dst (.slice A' (n + m) cap')) w') : wpList P ops Q (o :: rest) a w := by
  obtain ⟨v', w', h', hr, ho, hs⟩ := run_append_sat (P := P) t u o.type e i z size bytes ht hu hi hz hsize hby hzs hsz own s X m c us hl hus h1 h63 hb
  obtain ⟨A', cap', sp', rfl, ho'⟩ := id ho
  refine wpList_run hg (v := .slice A' (n + m) cap') (w' := w') ?_ (k A' cap' w' h' ho hs)
  unfold execOp
  rw [hop]
  simp only [resolve, invoke]
  simp [builtin, hv, hx, hr]

/-- append as one step of a region that draws its order -/
theorem step_append {P : Program} {ops : Array Oper} {o : Oper} {a : Act} {K : Act → World → Prop} {Q : Exit → Act → World → Prop} {E : Prop} {W0 w : World} {H : Hp} {F : List Hp}
    (hg : o.guard = none) (sx xx : Operand) (t u e : TypeId) (hop : o.op = .call { callee := .builtin .append, args := #[sx, xx], argTypes := #[t, u] })
    (i : TypeInfo) (z : Value) (size bytes : Nat) (ht : P.underlying t = some (.slice e)) (hu : P.underlying u = some (.slice e)) (hi : P.info? e = some i) (hz : i.zero = some z)
    (hsize : i.size = size) (hby : i.bytes = bytes) (hzs : z.cells.size = size) (hsz : 0 < size)
    {v : Value} {n : Nat} {vs : List Value} {h : Hp} (hv : a.eval sx = v) (own : OwnS size v n vs h) (s : Sat W0 w H (h :: F)) {X : Option Addr} {m c : Nat} {us : List Value} (hx : a.eval xx = .slice X m c) (hl : us.length = m * size) (hus : RowR w X us)
    (h1 : ∀ x ∈ us, x.oneCell' = true) (h63 : n + m ≤ 9223372036854775807) (hb : (n + m) * bytes ≤ 140737488355328)
    (k : ∀ A' cap' w' h', OwnS size (.slice A' (n + m) cap') (n + m) (vs ++ us) h' → Sat W0 w' H (h' :: F) → K (a.put o.dst (.slice A' (n + m) cap')) w') : if Region.wanted o (yielded ops a.tmps) = true then Oper.wp P o a w K Q else E := by
  obtain ⟨v', w', h', hr, ho, hs⟩ := run_append_sat (P := P) t u o.type e i z size bytes ht hu hi hz hsize hby hzs hsz own s X m c us hl hus h1 h63 hb
  obtain ⟨A', cap', sp', rfl, ho'⟩ := id ho
  rw [if_pos (by simp [Region.wanted, hg])]
  have he : (execOp a.eval o).run P w = .ok (.value (.slice A' (n + m) cap')) w' := by
    unfold execOp
    rw [hop]
    simp only [resolve, invoke]
    simp [builtin, hv, hx, hr]
  unfold Oper.wp
  rw [he]
  exact k A' cap' w' h' ho hs

/-- the cells of a piece that stands first -/
theorem Sat.c {W0 w : World} {H : Hp} {F : List Hp} {b o : Nat} {vs : List Value} (s : Sat W0 w H (cellsH ⟨b, o, none⟩ vs :: F)) (i : Nat) {v : Value} (h : vs[i]? = some v) : w.cell? ⟨b, o + i, none⟩ = some v ∧ w.frozen? ⟨b, o + i, none⟩ = false :=
  s.cells (List.mem_cons_self ..) h
theorem Sat.c0 {W0 w : World} {H : Hp} {F : List Hp} {b o : Nat} {v : Value} {vs : List Value} (s : Sat W0 w H (cellsH ⟨b, o, none⟩ (v :: vs) :: F)) : w.cell? ⟨b, o, none⟩ = some v ∧ w.frozen? ⟨b, o, none⟩ = false :=
  s.c 0 rfl
theorem Sat.s {W0 w : World} {H : Hp} {F : List Hp} {b o : Nat} {vs : List Value} (s : Sat W0 w H (cellsH ⟨b, o, none⟩ vs :: F)) (i : Nat) (h : i < vs.length) (v : Value) : Sat W0 (w.setCell ⟨b, o + i, none⟩ v) H (cellsH ⟨b, o, none⟩ (vs.set i v) :: F) :=
  s.setAt h v
theorem Sat.s0 {W0 w : World} {H : Hp} {F : List Hp} {b o : Nat} {u : Value} {vs : List Value} (s : Sat W0 w H (cellsH ⟨b, o, none⟩ (u :: vs) :: F)) (v : Value) : Sat W0 (w.setCell ⟨b, o, none⟩ v) H (cellsH ⟨b, o, none⟩ (v :: vs) :: F) :=
  s.s 0 (by simp) v
theorem Sat.blt {W0 w : World} {H : Hp} {F : List Hp} {b o : Nat} {v : Value} {vs : List Value} (s : Sat W0 w H (cellsH ⟨b, o, none⟩ (v :: vs) :: F)) : b < w.heap.size :=
  World.block_lt_of_cell? _ _ s.c0.1
theorem Sat.head {W0 w : World} {H h : Hp} {F : List Hp} (s : Sat W0 w H (h :: F)) : Holds w h := (s.each h (List.mem_cons_self ..)).1
theorem Sat.swap {W0 w : World} {H : Hp} {F : List Hp} {h k : Hp} (s : Sat W0 w H (h :: k :: F)) : Sat W0 w H (k :: h :: F) := s.perm (List.Perm.swap ..)

end Go.Proofs.Ytippipfogbgemaa
