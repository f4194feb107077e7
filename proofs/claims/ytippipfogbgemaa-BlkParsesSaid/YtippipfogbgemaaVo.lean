/-
  RAM, the rest: New, Load, Store, Read, Write, Watch.
-/
import Derived.Test.YtippipfogbgemaaVn
namespace Go.Proofs.Ytippipfogbgemaa
open Go.RowKit
set_option linter.unusedVariables false

/-- n bytes from a place on -/
def rdB (m : Int → Int) (a : Int) : Nat → List Int
  | 0 => []
  | n + 1 => rdB m a n ++ [m (a + n)]
theorem rdB_len (m : Int → Int) (a : Int) (n : Nat) : (rdB m a n).length = n := by induction n with | zero => rfl | succ n ih => simp [rdB, ih]
theorem rdB_get (m : Int → Int) (a : Int) (n i : Nat) (h : i < n) : (rdB m a n)[i]? = some (m (a + i)) := by
  induction n with
  | zero => omega
  | succ n ih =>
    rw [rdB]
    by_cases hi : i < n
    · rw [List.getElem?_append_left (by rw [rdB_len]; exact hi)]; exact ih hi
    · obtain rfl : i = n := by omega
      rw [List.getElem?_append_right (by rw [rdB_len]; omega), rdB_len]; simp

/-- bytes as a word, the lowest first -/
def ofB : List Int → Int
  | [] => 0
  | b :: bs => b + 256 * ofB bs
theorem ofB_snoc (l : List Int) (x : Int) : ofB (l ++ [x]) = ofB l + 256 ^ l.length * x := by
  induction l with
  | nil => simp [ofB]
  | cons b bs ih => simp only [List.cons_append, ofB, ih, List.length_cons, Int.pow_succ]; rw [Int.mul_add, Int.add_assoc, Int.mul_comm (256 ^ bs.length) 256, Int.mul_assoc]
theorem ofB_bd {l : List Int} (h : ∀ x ∈ l, 0 ≤ x ∧ x ≤ 255) : 0 ≤ ofB l ∧ ofB l < 256 ^ l.length := by
  induction l with
  | nil => simp [ofB]
  | cons b bs ih =>
    have h1 := ih (fun x hx => h x (List.mem_cons_of_mem _ hx))
    have h2 := h b (List.mem_cons_self ..)
    simp only [ofB, List.length_cons, Int.pow_succ]
    omega
theorem rdB_bd {m : Int → Int} (hm : ∀ a, 0 ≤ m a ∧ m a ≤ 255) (a : Int) (n : Nat) : ∀ x ∈ rdB m a n, 0 ≤ x ∧ x ≤ 255 := by
  induction n with
  | zero => simp [rdB]
  | succ n ih =>
    intro x hx
    rw [rdB] at hx
    rcases List.mem_append.1 hx with h | h
    · exact ih x h
    · simp at h; subst h; exact hm _

/-- bytes put at a place -/
def putB (m : Int → Int) (a : Int) (bs : List Int) : Int → Int := fun x => if a ≤ x then (bs[(x - a).toNat]?).getD (m x) else m x
theorem putB_nil (m : Int → Int) (a : Int) : putB m a [] = m := by funext x; simp [putB]
theorem putB_snoc (m : Int → Int) (a : Int) (bs : List Int) (v : Int) : putB m a (bs ++ [v]) = updM (putB m a bs) (a + bs.length) v := by
  funext x
  unfold putB updM
  by_cases h : a ≤ x
  · simp only [if_pos h]
    by_cases h2 : x = a + bs.length
    · subst h2
      have : (a + (bs.length : Int) - a).toNat = bs.length := by omega
      rw [if_pos rfl, this, List.getElem?_append_right (Nat.le_refl _)]; simp
    · rw [if_neg h2]
      rcases Nat.lt_or_ge (x - a).toNat bs.length with h3 | h3
      · rw [List.getElem?_append_left h3]
      · rw [List.getElem?_append_right h3, List.getElem?_eq_none (l := bs) h3, List.getElem?_eq_none (by simp; omega)]
  · have : x ≠ a + bs.length := by omega
    simp only [if_neg h, if_neg this]

section
variable {R : Ending → World → Prop} {W0 w : World} {H : Hp} {A F : List Hp} {b o : Nat} {r : RamG} {l : Option LogG}

def sizedP (n : Int) : Prop := n = 1 ∨ n = 2 ∨ n = 4 ∨ n = 8
instance (n : Int) : Decidable (sizedP n) := by unfold sizedP; infer_instance

set_option maxRecDepth 100000 in
set_option maxHeartbeats 4000000 in
theorem c_ramSized (n : Int) (k : R (.returned (.bool (decide (sizedP n)))) w) : Calls Try.prog 92 #[.int .i64 n] w R := by
  by_cases h1 : n = 1
  · subst h1
    go_enter Try.func92, Try.ntmps92
    go_wp2
    exact k
  by_cases h2 : n = 2
  · subst h2
    go_enter Try.func92, Try.ntmps92
    go_wp2
    exact k
  by_cases h4 : n = 4
  · subst h4
    go_enter Try.func92, Try.ntmps92
    go_wp2
    exact k
  have e1 : (n == 1) = false := by simp [h1]
  have e2 : (n == 2) = false := by simp [h2]
  have e4 : (n == 4) = false := by simp [h4]
  go_enter Try.func92, Try.ntmps92
  go_wp2
  exact ret_b k (by rw [Bool.eq_iff_iff]; simp [sizedP, h1, h2, h4])

/-- a new memory -/
def RamG.new (size : Int) (mb : Nat) (h : size % 4096 = 0 ∧ 4096 ≤ size ∧ size ≤ 268435456) : RamG := ⟨size, mb, 0, [], fun _ => 0, h, by simp, by simp, ⟨by simp, by simp⟩, by simp, by simp, by simp, by simp⟩

theorem pagesH_none (base sz : Nat) (m : Int → Int) : pagesH base sz [] m = empH := by
  funext x; cases x <;> rfl

def rightP (n : Int) : Prop := n % 4096 = 0 ∧ 4096 ≤ n ∧ n ≤ 268435456
instance (n : Int) : Decidable (rightP n) := by unfold rightP; infer_instance

set_option maxRecDepth 100000 in
set_option maxHeartbeats 4000000 in
theorem c_ramNewBad (n : Int) (h0 : 0 ≤ n ∧ n ≤ 18446744073709551615) (hr : ¬ rightP n)
    (k : R (.returned (.tuple #[.pointer none, .int .i64 20])) w) : Calls Try.prog 37 #[.int .u64 n] w R := by
  unfold rightP at hr
  by_cases h1 : n < 4096
  · go_enter Try.func37, Try.ntmps37
    go_wp2
    exact k
  by_cases h2 : n > 268435456
  · go_enter Try.func37, Try.ntmps37
    go_wp2
    exact k
  have h3 : ¬ (n % 4096 = 0) := by omega
  go_enter Try.func37, Try.ntmps37
  go_wp2_with (go_at_call 83; refine c_Aligned _ _ 12 (by decide) (by omega) (by omega) ?_)
  exact k

set_option maxRecDepth 100000 in
set_option maxHeartbeats 4000000 in
theorem c_ramNew (s : Sat W0 w H A) (n : Int) (hr : n % 4096 = 0 ∧ 4096 ≤ n ∧ n ≤ 268435456)
    (k : ∀ w' b mb, Sat W0 w' H (ramL ⟨b, 0, none⟩ (RamG.new n mb hr, none) ++ A) → R (.returned (.tuple #[.pointer (some ⟨b, 0, none⟩), .int .i64 0])) w') : Calls Try.prog 37 #[.int .u64 n] w R := by
  have hmm : ∀ W, (Instr.makeMap 146 none).run Try.prog W = .ok (.map (some W.heap.size)) (W.alloc (.map #[] 0)) := fun W => run_makeMap _ W
  go_enter Try.func37, Try.ntmps37
  go_wp2_with (go_at_call 83; refine c_Aligned _ _ 12 (by decide) (by omega) (by omega) ?_)
  have s1 := ((s.allocO (o := .map #[] 0) (by intro c t f h; cases h)).alloc (c := [.int .u64 n, .map (some w.heap.size), .pointer none]) (t := 148)).emp
  rw [← pagesH_none 2147483648 4096 (fun _ => 0), World.size_alloc] at s1
  refine k _ _ w.heap.size ?_
  show Sat W0 _ H (cellsH ⟨w.heap.size + 1, 0, none⟩ [.int .u64 n, .map (some w.heap.size), .pointer none] :: objH w.heap.size (.map #[] 0) :: pagesH 2147483648 4096 [] (fun _ => 0) :: A)
  exact s1.wk

/-! ### Load -/
theorem or_step (x y : Int) (i : Nat) (hi : i < 8) (hx : 0 ≤ x ∧ x < 256 ^ i) (hy : 0 ≤ y ∧ y ≤ 255) : bits .or .u64 x (y * 256 ^ i) = x + 256 ^ i * y := by
  obtain ⟨x, rfl⟩ := Int.eq_ofNat_of_zero_le hx.1
  obtain ⟨y, rfl⟩ := Int.eq_ofNat_of_zero_le hy.1
  have h1 : x < 256 ^ i := by have := hx.2; rw [show (256 : Int) ^ i = ((256 ^ i : Nat) : Int) by simp] at this; omega
  have h2 : y * 256 ^ i < 18446744073709551616 := by
    have a1 : y * 256 ^ i ≤ 255 * 256 ^ i := Nat.mul_le_mul_right _ (by omega)
    have a2 : 256 ^ i ≤ 256 ^ 7 := Nat.pow_le_pow_right (by omega) (by omega)
    have a3 : (256 : Nat) ^ 7 = 72057594037927936 := by decide
    omega
  have h3 : (256 : Nat) ^ i ≤ 256 ^ 7 := Nat.pow_le_pow_right (by omega) (by omega)
  have h4 : (256 : Nat) ^ 7 = 72057594037927936 := by decide
  have e : ((y : Int) * 256 ^ i) = ((y * 256 ^ i : Nat) : Int) := by simp
  have hp : (256 : Nat) ^ i = 2 ^ (8 * i) := by rw [Nat.pow_mul]
  rw [e, u64_or_nat _ _ (by omega) h2, Nat.or_comm, nat_join (8 * i) _ _ (by rw [hp]; exact Nat.mul_mod_left _ _) (by rw [← hp]; exact h1)]
  simp
  rw [Int.add_comm, Int.mul_comm]

theorem or_step2 (x y : Int) (i : Nat) (hi : i < 8) (hx : 0 ≤ x ∧ x < 256 ^ i) (hy : 0 ≤ y ∧ y ≤ 255) : bits .or .u64 x (IntKind.u64.wrap (y * 2 ^ (8 * i))) = x + 256 ^ i * y := by
  have hp : (2 : Int) ^ (8 * i) = 256 ^ i := by rw [Int.pow_mul]; rfl
  have h3 : (256 : Nat) ^ i ≤ 256 ^ 7 := Nat.pow_le_pow_right (by omega) (by omega)
  have h4 : (256 : Nat) ^ 7 = 72057594037927936 := by decide
  have h5 : (256 : Int) ^ i = ((256 ^ i : Nat) : Int) := by simp
  have h6 : 0 ≤ y * (256 : Int) ^ i := Int.mul_nonneg hy.1 (by rw [h5]; omega)
  have h7 : y * (256 : Int) ^ i ≤ 255 * 72057594037927936 := Int.mul_le_mul hy.2 (by rw [h5]; omega) (by rw [h5]; omega) (by omega)
  rw [hp, wrap_u64, Int.emod_eq_of_lt h6 (by omega), or_step x y i hi hx hy]

set_option maxRecDepth 100000 in
set_option maxHeartbeats 4000000 in
theorem c_ramLoad (s : Sat W0 w H A) [fr : FrK (κ := Addr) (ρ := fun _ => RamG × Option LogG) ramL ⟨b, o, none⟩ A (r, l) F] (a n : Int) (h0 : 0 ≤ a ∧ a ≤ 18446744073709551615) (hn : -9223372036854775808 ≤ n ∧ n ≤ 9223372036854775807)
    (kb : ¬ (sizedP n ∧ r.has a n) → R (.returned (.tuple #[.int .u64 0, .bool false])) w)
    (k : (sizedP n ∧ r.has a n) → R (.returned (.tuple #[.int .u64 (ofB (rdB r.mem a n.toNat)), .bool true])) w) : Calls Try.prog 43 #[.pointer (some ⟨b, o, none⟩), .int .u64 a, .int .i64 n] w R := by
  by_cases hs : sizedP n
  · have hu : IntKind.u64.wrap n = n := by rw [wrap_u64]; unfold sizedP at hs; omega
    by_cases hh : r.has a n
    · have K := k ⟨hs, hh⟩
      have hz := r.hsize
      obtain ⟨m, rfl⟩ : ∃ m : Nat, n = m := ⟨n.toNat, by unfold sizedP at hs; omega⟩
      rw [Int.toNat_natCast] at K
      have h8 : m ≤ 8 := by unfold sizedP at hs; omega
      unfold RamG.has at hh
      go_enter Try.func43, Try.ntmps43
      go_wp2_with (first | (go_at_call 92; refine c_ramSized _ ?_; rw [decide_eq_true hs]) | (go_at_call 64; refine c_ramHas s _ _ h0 (by omega) ?_; rw [decide_eq_true (show r.has a m from hh)]))
      clear k kb
      go_loopg [8, 9, 22] m (fun q v8 v9 v22 w' => ∃ i : Nat, q + i = m ∧ w' = w ∧ v8 = .int .u64 (ofB (rdB r.mem a i)) ∧ v22 = .int .i64 i)
      case atStart => exact ⟨0, by simp, rfl, rfl, rfl⟩
      case round =>
        obtain ⟨i, hq, rfl, rfl, rfl⟩ := hrel
        by_cases hi : i < m
        · have hb := ofB_bd (rdB_bd r.hmem a i)
          rw [rdB_len] at hb
          have hy := r.hmem (a + i)
          have e1 : IntKind.u64.wrap (i : Int) = i := by rw [wrap_u64]; omega
          have e2 : IntKind.u64.wrap (a + i) = a + i := by rw [wrap_u64]; omega
          have hx : ofB (rdB r.mem a (i + 1)) = ofB (rdB r.mem a i) + 256 ^ i * r.mem (a + i) := by rw [rdB, ofB_snoc, rdB_len]
          have hg0 : 2147483648 ≤ a + i := by omega
          have hg1 : a + i - 2147483648 < r.size := by omega
          obtain ⟨Y, hY⟩ : ∃ Y, r.mem (a + i) = Y := ⟨_, rfl⟩
          obtain ⟨X, hX⟩ : ∃ X, ofB (rdB r.mem a i) = X := ⟨_, rfl⟩
          rw [hX, hY] at hx
          rw [hX] at hb
          rw [hY] at hy
          have hor := aside (or_step2 X Y i (by omega) hb hy)
          replace hx := aside hx
          replace hY := aside hY
          replace hb := aside hb
          rw [hX]
          replace hX := aside hX
          clear hz hn hs hu hh h0
          go_wp2_with (go_at_call 66; refine c_ramGet s _ hg0 hg1 ?_; rw [hY.out])
          go_roundg (gk - 1)
          case measure => omega
          case rel => exact ⟨i + 1, by omega, rfl, by rw [hx.out, hor.out], by go_num⟩
        · obtain rfl : i = m := by omega
          go_wp2
          exact K
    · go_enter Try.func43, Try.ntmps43
      go_wp2_with (first | (go_at_call 92; refine c_ramSized _ ?_; rw [decide_eq_true hs]) | (go_at_call 64; refine c_ramHas s _ _ h0 (by unfold sizedP at hs; omega) ?_; rw [decide_eq_false hh]))
      exact kb (fun h => hh h.2)
  · go_enter Try.func43, Try.ntmps43
    go_wp2_with (go_at_call 92; refine c_ramSized _ ?_; rw [decide_eq_false hs])
    exact kb (fun h => hs h.1)
end

end Go.Proofs.Ytippipfogbgemaa
