/-
  PLIC, the plain laws: what is claimed comes first, is held, waits again; a state equals itself.
-/
import Derived.Test.YtohccblfnjampaaPq
import Derived.ChangeKeysEq
namespace Go.Proofs.Ytohccblfnjampaa
open Go.RowKit
set_option linter.unusedVariables false
set_option linter.unusedSimpArgs false

/-- a source that is served, and does not wait -/
def PlS.Held (s : PlS) (q : Nat) : Prop := s.waits.getLsbD q = false ∧ s.serving.getLsbD q = true
theorem PlS.best_bit (s : PlS) (c : Nat) (h : 0 < s.best c) : s.waits.getLsbD (s.best c) = true ∧ (s.lets c).getLsbD (s.best c) = true := by
  rcases bst_is (s.waits &&& s.lets c) s.p 31 with ⟨h1, _⟩ | ⟨_, _, h1, _⟩
  · unfold PlS.best at h; omega
  · rw [BitVec.getLsbD_and] at h1
    simpa [PlS.best] using h1
theorem tw_self {q : Nat} (h : q < 32) : (tw q).getLsbD q = true := by rw [tw_bit]; simp [h]
theorem tw_ne {n q : Nat} (h : n ≠ q) : (tw n).getLsbD q = false := by rw [tw_bit]; simp [h]
theorem not_bit (x : W32) {q : Nat} (h : q < 32) : (~~~x).getLsbD q = !x.getLsbD q := by rw [BitVec.getLsbD_not]; simp [h]
theorem PlS.serve_held (s : PlS) {q : Nat} (h : q < 32) : (s.serve q).Held q := by
  refine ⟨?_, ?_⟩
  · show (s.waits &&& ~~~tw q).getLsbD q = false
    rw [BitVec.getLsbD_and, not_bit _ h, tw_self h]; simp
  · show (s.serving ||| tw q).getLsbD q = true
    rw [BitVec.getLsbD_or, tw_self h]; simp
theorem PlS.take_two (s : PlS) (c : Int) {q : Nat} (hq : (s.take c).2 = q) (h0 : 0 < q) : 0 ≤ c ∧ c < 2 ∧ s.best c.toNat = q ∧ (s.take c).1 = s.serve q := by
  unfold PlS.take at hq ⊢
  by_cases hc : 0 ≤ c ∧ c < 2
  · rw [if_pos hc] at hq ⊢
    by_cases hb : 0 < s.best c.toNat
    · rw [if_pos hb] at hq ⊢
      exact ⟨hc.1, hc.2, hq, by simp only at hq; rw [hq]⟩
    · rw [if_neg hb] at hq; simp only at hq; omega
  · rw [if_neg hc] at hq; simp only at hq; omega
theorem PlS.take_held (s : PlS) (c : Int) {q : Nat} (hq : (s.take c).2 = q) (h0 : 0 < q) : (s.take c).1.Held q := by
  obtain ⟨_, _, hb, e⟩ := s.take_two c hq h0
  rw [e]
  exact s.serve_held (by have := s.best_le c.toNat; omega)
theorem PlS.held_take (s : PlS) {q : Nat} (h : s.Held q) (h0 : 0 < q) (hq : q < 32) (c : Int) : (s.take c).1.Held q ∧ (s.take c).2 ≠ q := by
  have hne : (s.take c).2 ≠ q := by
    intro e
    obtain ⟨_, _, hb, _⟩ := s.take_two c e h0
    have := (s.best_bit c.toNat (by omega)).1
    rw [hb, h.1] at this
    cases this
  refine ⟨?_, hne⟩
  by_cases hz : 0 < (s.take c).2
  · obtain ⟨_, _, hb, e⟩ := s.take_two c rfl hz
    rw [e]
    refine ⟨?_, ?_⟩
    · show (s.waits &&& ~~~tw _).getLsbD q = false
      rw [BitVec.getLsbD_and, h.1]; rfl
    · show (s.serving ||| tw _).getLsbD q = true
      rw [BitVec.getLsbD_or, h.2]; rfl
  · have e : (s.take c).1 = s := by
      unfold PlS.take at hz ⊢
      by_cases hc : 0 ≤ c ∧ c < 2
      · rw [if_pos hc] at hz ⊢
        by_cases hb : 0 < s.best c.toNat
        · rw [if_pos hb] at hz; simp only at hz; omega
        · rw [if_neg hb]
      · rw [if_neg hc]
    rw [e]; exact h
theorem PlS.held_gate (s : PlS) {q : Nat} (h : s.Held q) (hq : q < 32) : s.gate.Held q := by
  refine ⟨?_, h.2⟩
  show (s.waits ||| (s.high &&& ~~~s.serving)).getLsbD q = false
  rw [BitVec.getLsbD_or, BitVec.getLsbD_and, not_bit _ hq, h.1, h.2]; simp
theorem PlS.held_line (s : PlS) {q : Nat} (h : s.Held q) (hq : q < 32) (n : Int) (hi : Bool) : (s.line n hi).Held q := by
  unfold PlS.line
  split
  · cases hi
    · exact h
    · exact PlS.held_gate _ (by exact h) hq
  · exact h

/-- a source that its server is done with -/
theorem PlS.again (s : PlS) (c : Int) {q : Nat} (hq : (s.take c).2 = q) (h0 : 0 < q) :
    ((s.take c).1.done c q).waits.getLsbD q = (s.take c).1.high.getLsbD q ∧ ((s.take c).1.done c q).serving.getLsbD q = false := by
  obtain ⟨hc0, hc2, hb, e⟩ := s.take_two c hq h0
  have hle := s.best_le c.toNat
  have hq32 : q < 32 := by omega
  have hlet : ((s.serve q).lets c.toNat).getLsbD q = true := by
    have := (s.best_bit c.toNat (by omega)).2
    rw [hb] at this; exact this
  have hd : (s.serve q).done c q = ((s.serve q).free q).gate := by
    unfold PlS.done
    rw [if_pos ⟨⟨hc0, hc2⟩, ⟨by omega, by omega⟩, by rw [Int.toNat_natCast]; exact hlet⟩, Int.toNat_natCast]
  rw [e, hd]
  have hs : ((s.serve q).free q).serving.getLsbD q = false := by
    show ((s.serve q).serving &&& ~~~tw q).getLsbD q = false
    rw [BitVec.getLsbD_and, not_bit _ hq32, tw_self hq32]; simp
  refine ⟨?_, hs⟩
  show ((s.serve q).waits ||| ((s.serve q).high &&& ~~~((s.serve q).free q).serving)).getLsbD q = _
  rw [BitVec.getLsbD_or, BitVec.getLsbD_and, not_bit _ hq32, hs, (s.serve_held hq32).1]; simp

/-! ### a state equals itself -/
section
variable {P : Program} (w : World)
theorem run_isAgg_array {t e : TypeId} {n : Nat} (hu : P.underlying t = some (.array n e)) : (isAgg t).run P w = .ok true w := by
  unfold isAgg
  rw [Sem.run_bind, run_underlying hu w]; rfl
theorem run_part_array {t e : TypeId} {n k : Nat} (hu : P.underlying t = some (.array n e)) (hs : (P.info? t).map (·.size) = some k) (xs : Array Value) (off : Nat) :
    (part t xs off).run P w = .ok (.agg (xs.extract off (off + k))) w := by
  cases hi : P.info? t with
  | none => simp [hi] at hs
  | some i =>
    have : i.size = k := by simpa [hi] using hs
    simp [part, run_isAgg_array w hu, sizeOf, typeInfo, hi, this]
theorem run_eqItems_self {e : TypeId} {k : IntKind} (hu : P.underlying e = some (.int k)) (d : Nat) (xs : Array Value) : ∀ (is : List Nat), (∀ i ∈ is, ∃ x, xs[i]? = some (.int k x)) →
    (Op.eqItems (d + 1) e 1 xs xs is).run P w = .ok true w
  | [], _ => by simp [Op.eqItems]
  | i :: is, h => by
    obtain ⟨x, hx⟩ := h i (by simp)
    have ih := run_eqItems_self hu d xs is (fun j hj => h j (by simp [hj]))
    have p1 : (part e xs (i * 1)).run P w = .ok (.int k x) w := run_part_plain w (by simp [Program.plainKey, hu]) (by simp [hx])
    simp only [Op.eqItems, Sem.run_bind, p1, Result.andThen_ok, run_equalIn_int w d e k k _ _ hu, beq_self_eq_true, Bool.not_true, Bool.false_eq_true, if_false, ih]
theorem run_equalIn_selfA {t e : TypeId} {n : Nat} {k : IntKind} (hu : P.underlying t = some (.array n e)) (he : P.underlying e = some (.int k)) (hs : (P.info? e).map (·.size) = some 1) (d : Nat) (xs : Array Value) (hx : ∀ i, i < n → ∃ x, xs[i]? = some (.int k x)) :
    (Op.equalIn (d + 2) t (.agg xs) (.agg xs)).run P w = .ok true w := by
  cases hi : P.info? e with
  | none => simp [hi] at hs
  | some i =>
    have hc : P.cellsOf e = 1 := by simp [hi] at hs; simp [Program.cellsOf, hi, hs]
    rw [run_equalIn_array w (d + 1) _ _ hu hi, hc, run_eqItems_self w he d xs (List.range n) (fun j hj => hx j (by rw [List.mem_range] at hj; omega))]
theorem run_eqFields_self (d : Nat) (xs : Array Value) : ∀ (fs : List Field), (∀ f ∈ fs, f.name ≠ "_" ∧ ∃ v, (part f.type xs f.offset).run P w = .ok v w ∧ (Op.equalIn d f.type v v).run P w = .ok true w) → (Op.eqFields d xs xs fs).run P w = .ok true w
  | [], _ => by simp [Op.eqFields]
  | f :: fs, h => by
    obtain ⟨hn, v, p1, p2⟩ := h f (by simp)
    have ih := run_eqFields_self d xs fs (fun g hg => h g (by simp [hg]))
    simp only [Op.eqFields, hn, ne_eq, not_false_eq_true, if_true, Sem.run_bind, p1, p2, Result.andThen_ok, Bool.not_true, Bool.false_eq_true, if_false, ih]
theorem run_row_self {t e : TypeId} {n : Nat} {q : IntKind} (hu : P.underlying t = some (.array n e)) (he : P.underlying e = some (.int q)) (hs : (P.info? e).map (·.size) = some 1) (ht : (P.info? t).map (·.size) = some n) (d : Nat) (xs : Array Value) (o : Nat) (hx : ∀ i, i < n → ∃ x, xs[o + i]? = some (.int q x)) (ho : o + n ≤ xs.size) :
    ∃ v, (part t xs o).run P w = .ok v w ∧ (Op.equalIn (d + 2) t v v).run P w = .ok true w := by
  refine ⟨_, run_part_array w hu ht xs o, run_equalIn_selfA w hu he hs d _ (fun i hi => ?_)⟩
  obtain ⟨x, hx⟩ := hx i hi
  refine ⟨x, ?_⟩
  rw [Array.getElem?_extract, if_pos (by omega)]
  exact hx
theorem run_one_self {e : TypeId} {q : IntKind} (he : P.underlying e = some (.int q)) (d : Nat) (xs : Array Value) (o : Nat) (hx : ∃ x, xs[o]? = some (.int q x)) :
    ∃ v, (part e xs o).run P w = .ok v w ∧ (Op.equalIn (d + 2) e v v).run P w = .ok true w := by
  obtain ⟨x, hx⟩ := hx
  exact ⟨_, run_part_plain w (by simp [Program.plainKey, he]) hx, by rw [run_equalIn_int w (d + 1) _ q q x x he]; simp⟩
/-- the state's type, whatever the program -/
theorem run_struct_self {a32 u a2 : TypeId} {fs : List Field} (hf : fs.map (fun f => (f.name == "_", f.type, f.offset)) = [(false, a32, 0), (false, u, 32), (false, u, 33), (false, u, 34), (false, a2, 35), (false, a2, 37)])
    (h32 : P.underlying a32 = some (.array 32 u)) (h2 : P.underlying a2 = some (.array 2 u)) (hu : P.underlying u = some (.int .u32)) (s32 : (P.info? a32).map (·.size) = some 32) (s2 : (P.info? a2).map (·.size) = some 2) (s1 : (P.info? u).map (·.size) = some 1)
    (d : Nat) (xs : Array Value) (hl : xs.size = 39) (hx : ∀ i, i < 39 → ∃ x, xs[i]? = some (.int .u32 x)) : (Op.eqFields (d + 2) xs xs fs).run P w = .ok true w := by
  refine run_eqFields_self w (d + 2) xs fs fun f hfm => ?_
  have hm : (f.name == "_", f.type, f.offset) ∈ fs.map (fun f => (f.name == "_", f.type, f.offset)) := List.mem_map.2 ⟨f, hfm, rfl⟩
  rw [hf] at hm
  simp only [List.mem_cons, Prod.mk.injEq, List.not_mem_nil, or_false] at hm
  refine ⟨by intro h; rw [h] at hm; simp at hm, ?_⟩
  rcases hm with ⟨_, e1, e2⟩ | ⟨_, e1, e2⟩ | ⟨_, e1, e2⟩ | ⟨_, e1, e2⟩ | ⟨_, e1, e2⟩ | ⟨_, e1, e2⟩ <;> rw [e1, e2]
  · exact run_row_self w h32 hu s1 s32 d xs 0 (fun i hi => hx (0 + i) (by omega)) (by omega)
  · exact run_one_self w hu d xs 32 (hx 32 (by omega))
  · exact run_one_self w hu d xs 33 (hx 33 (by omega))
  · exact run_one_self w hu d xs 34 (hx 34 (by omega))
  · exact run_row_self w h2 hu s1 s2 d xs 35 (fun i hi => hx (35 + i) (by omega)) (by omega)
  · exact run_row_self w h2 hu s1 s2 d xs 37 (fun i hi => hx (37 + i) (by omega)) (by omega)
end

set_option maxRecDepth 100000 in
theorem u32x32_size : (Try.prog.info? 95).map (·.size) = some 32 := by kernel_rfl
theorem u32x2_size : (Try.prog.info? 96).map (·.size) = some 2 := by kernel_rfl
theorem u32_size : (Try.prog.info? 85).map (·.size) = some 1 := by kernel_rfl
theorem PlS.int_at (s : PlS) {i : Nat} (h : i < 39) : ∃ x, s.enc[i]? = some (.int .u32 x) := by
  by_cases h1 : i < 32
  · exact ⟨_, s.enc_p h1⟩
  · obtain ⟨j, rfl⟩ : ∃ j, i = 32 + j := ⟨i - 32, by omega⟩
    rw [s.enc_tl]
    match j, (show j < 7 by omega) with
    | 0, _ => exact ⟨_, rfl⟩
    | 1, _ => exact ⟨_, rfl⟩
    | 2, _ => exact ⟨_, rfl⟩
    | 3, _ => exact ⟨_, rfl⟩
    | 4, _ => exact ⟨_, rfl⟩
    | 5, _ => exact ⟨_, rfl⟩
    | 6, _ => exact ⟨_, rfl⟩
theorem plc_fields : (Try.prog.fieldsOf 98).toList.map (fun f => (f.name == "_", f.type, f.offset)) = [(false, 95, 0), (false, 85, 32), (false, 85, 33), (false, 85, 34), (false, 96, 35), (false, 96, 37)] := by kernel_rfl
theorem plc_struct : Try.prog.underlying 98 = some (.struct (Try.prog.fieldsOf 98)) := by kernel_rfl
theorem plc_held : Try.prog.stoodInHeld 98 = false := by kernel_rfl
theorem PlS.eq_selfD (s : PlS) (w : World) (d : Nat) : (Op.equalIn (d + 2 + 1) 98 (.agg s.enc.toArray) (.agg s.enc.toArray)).run Try.prog w = .ok true w := by
  rw [run_equalIn_struct w (d + 2) _ _ _ plc_struct plc_held]
  exact run_struct_self w plc_fields Try.underlying95 Try.underlying96 Try.underlying85 u32x32_size u32x2_size u32_size d _ (by rw [List.size_toArray, s.enc_len]) (fun i hi => by
    obtain ⟨x, hx⟩ := s.int_at hi
    exact ⟨x, by simpa using hx⟩)
theorem PlS.eq_self (s : PlS) (w : World) : (Op.equalIn 10000 98 (.agg s.enc.toArray) (.agg s.enc.toArray)).run Try.prog w = .ok true w := by
  have h := s.eq_selfD w 9997
  rw [show (9997 + 2 + 1 : Nat) = 10000 from rfl] at h
  exact h
end Go.Proofs.Ytohccblfnjampaa
