/-
  WORDS AND BITS, the document's (any word): Bits, Word, Put, Get.
-/
import Derived.Test.YtiibiamobkhlbaaG1
set_option linter.unusedVariables false
set_option linter.unusedSimpArgs false
namespace Go.Proofs.Ytiibiamobkhlbaa
open Go.RowKit
set_option linter.unusedVariables false
set_option linter.unusedSimpArgs false

def nOf (l : List Bool) : Nat := l.foldr (fun b n => b.toNat + 2 * n) 0
theorem nOf_cons (b : Bool) (l : List Bool) : nOf (b :: l) = b.toNat + 2 * nOf l := rfl
theorem nOf_lt : ∀ l : List Bool, nOf l < 2 ^ l.length
  | [] => by simp [nOf]
  | b :: l => by
    have := nOf_lt l
    rw [nOf_cons, List.length_cons, Nat.pow_succ]
    cases b <;> simp <;> omega
theorem nOf_bit : ∀ (l : List Bool) (i : Nat), (nOf l).testBit i = (l[i]?).getD false
  | [], i => by simp [nOf]
  | b :: l, 0 => by
    rw [nOf_cons, Nat.testBit_zero]
    cases b <;> simp <;> omega
  | b :: l, i + 1 => by
    rw [nOf_cons, Nat.testBit_succ, show (b.toNat + 2 * nOf l) / 2 = nOf l by cases b <;> simp <;> omega, nOf_bit l i]
    simp
theorem nOf_drop {l : List Bool} {j : Nat} {b : Bool} (h : l[j]? = some b) : nOf (l.drop j) = b.toNat + 2 * nOf (l.drop (j + 1)) := by
  have hj := (List.getElem?_eq_some_iff.1 h).1
  rw [List.drop_eq_getElem_cons hj]
  have : l[j] = b := (List.getElem?_eq_some_iff.1 h).2
  rw [this]; rfl
def bX (b : Bool) : Value := .int .i64 (if b then 1 else 0)
theorem oneCell_bX (l : List Bool) : ∀ v ∈ l.map bX, v.oneCell' = true := by
  intro v hv; obtain ⟨x, _, rfl⟩ := List.mem_map.1 hv; rfl
theorem info_intX : ∃ i, Try.prog.info? 3 = some i ∧ i.zero = some (.int .i64 0) ∧ i.size = 1 ∧ i.bytes = 8 := by
  have h : (Try.prog.info? 3).map (fun i => (i.zero, i.size, i.bytes)) = some (some (.int .i64 0), 1, 8) := by kernel_rfl
  cases hi : Try.prog.info? 3 with
  | none => simp [hi] at h
  | some i => simp [hi] at h; exact ⟨i, rfl, h⟩
theorem row_intX {w : World} {a : Int} {t : TypeId} : RowR (w.alloc (.cells #[.int .i64 a] t)) (some ⟨w.heap.size, 0, none⟩) [.int .i64 a] := by
  intro _
  exact ⟨_, _, rfl, fun j u hu => by rw [Nat.zero_add]; simp [hu]⟩
/-- the bits of a word -/
def btL (W : Nat) : List Bool := (List.range 64).map W.testBit
theorem btL_len (W : Nat) : (btL W).length = 64 := by simp [btL]
theorem btL_at (W : Nat) {i : Nat} (h : i < 64) : (btL W)[i]? = some (W.testBit i) := by simp [btL, h]
theorem nOf_btL {W : Nat} (h : W < 2 ^ 64) : nOf (btL W) = W := by
  apply Nat.eq_of_testBit_eq
  intro i
  rw [nOf_bit]
  by_cases hi : i < 64
  · rw [btL_at W hi]; rfl
  · rw [List.getElem?_eq_none (by rw [btL_len]; omega)]
    rw [Nat.testBit_lt_two_pow (Nat.lt_of_lt_of_le h (Nat.pow_le_pow_right (by omega) (by omega)))]; rfl
/-- n bits from a place on, put; and got -/
def putL (W a n V : Nat) : List Bool := (List.range 64).map fun i => if a ≤ i ∧ i < a + n then V.testBit (i - a) else W.testBit i
def putN (W a n V : Nat) : Nat := nOf (putL W a n V)
theorem putL_len (W a n V : Nat) : (putL W a n V).length = 64 := by simp [putL]
theorem putL_at (W a n V : Nat) {i : Nat} (h : i < 64) : (putL W a n V)[i]? = some (if a ≤ i ∧ i < a + n then V.testBit (i - a) else W.testBit i) := by simp [putL, h]
theorem putL_zero (W a V : Nat) : putL W a 0 V = btL W := by
  unfold putL btL
  apply List.map_congr_left
  intro i hi
  rw [if_neg (by omega)]
theorem putL_step (W a n V : Nat) (h : a + n < 64) : (putL W a n V).set (a + n) (V.testBit n) = putL W a (n + 1) V := by
  apply List.ext_getElem?
  intro i
  by_cases hi : i < 64
  · rw [putL_at _ _ _ _ hi]
    by_cases he : a + n = i
    · subst he
      rw [List.getElem?_set_self (by rw [putL_len]; exact hi), if_pos (by omega), Nat.add_sub_cancel_left]
    · rw [List.getElem?_set_ne he, putL_at _ _ _ _ hi]
      by_cases hc : a ≤ i ∧ i < a + n
      · rw [if_pos hc, if_pos (by omega)]
      · rw [if_neg hc, if_neg (by omega)]
  · rw [List.getElem?_eq_none (by rw [List.length_set, putL_len]; omega), List.getElem?_eq_none (by rw [putL_len]; omega)]
theorem putL_sat (W a n V : Nat) (m : Nat) (h : 64 ≤ a + m) (hm : m ≤ n) : putL W a n V = putL W a m V := by
  unfold putL
  apply List.map_congr_left
  intro i hi
  have := List.mem_range.1 hi
  by_cases hc : a ≤ i ∧ i < a + n
  · rw [if_pos hc, if_pos (by omega)]
  · rw [if_neg hc, if_neg (by omega)]
theorem putN_lt (W a n V : Nat) : putN W a n V < 2 ^ 64 := by have := nOf_lt (putL W a n V); rwa [putL_len] at this
theorem putN_bit (W a n V i : Nat) : (putN W a n V).testBit i = (decide (i < 64) && (if a ≤ i ∧ i < a + n then V.testBit (i - a) else W.testBit i)) := by
  unfold putN
  rw [nOf_bit]
  by_cases h : i < 64
  · rw [putL_at _ _ _ _ h, decide_eq_true h]; rfl
  · rw [List.getElem?_eq_none (by rw [putL_len]; omega), decide_eq_false h]; rfl
def getL (W a n : Nat) : List Bool := (List.range (min n (64 - a))).map fun i => W.testBit (a + i)
def getN (W a n : Nat) : Nat := nOf (getL W a n)
theorem nOf_bd {l : List Bool} (h : l.length ≤ 64) : (nOf l : Int) ≤ 18446744073709551615 := by
  have h1 := nOf_lt l
  have h2 : 2 ^ l.length ≤ 2 ^ 64 := Nat.pow_le_pow_right (by omega) h
  have h3 : (2 : Nat) ^ 64 = 18446744073709551616 := by decide
  omega

section
variable {R : Ending → World → Prop} {W0 w : World} {H : Hp} {A F : List Hp}

set_option maxRecDepth 100000 in
set_option maxHeartbeats 4000000 in
theorem c_word01 {B : Option Addr} {c : Nat} {h : Hp} {l : List Bool} (t : Sat W0 w H (h :: A)) (own : OwnS 1 (.slice B l.length c) l.length (l.map bX) h) (hl : l.length ≤ 64) (k : R (.returned (.int .u64 (nOf l : Nat))) w) :
    Calls Try.prog 167 #[.slice B l.length c] w R := by
  have hrow := own.row0 t.head l.length
  rw [List.take_of_length_le (by rw [List.length_map]; exact Nat.le_refl _)] at hrow
  obtain ⟨N, hN⟩ : ∃ N, l.length = N := ⟨_, rfl⟩
  rw [hN] at hl ⊢
  have e1 : (if (N : Int) < 64 then (N : Int) else 64) = N := by split <;> omega
  have e2 : (if (64 : Int) < N then (64 : Int) else N) = N := by split <;> omega
  have e3 : IntKind.i64.wrap ((N : Int) - 1) = N - 1 := by simp [IntKind.wrap, IntKind.bits, IntKind.signed]; omega
  replace k := aside k
  clear own
  replace hN := aside hN
  replace hrow := aside hrow
  go_enter Try.func167, Try.ntmps167
  go_wp2
  go_loopg [3, 4] N (fun q v3 v4 w' => w' = w ∧ q ≤ N ∧ v4 = .int .i64 ((q : Int) - 1) ∧ v3 = .int .u64 (nOf (l.drop q) : Nat))
  case atStart => exact ⟨rfl, Nat.le_refl _, rfl, by rw [List.drop_eq_nil_of_le (by rw [hN.out]; exact Nat.le_refl _)]; rfl⟩
  case round =>
    obtain ⟨rfl, hq, rfl, rfl⟩ := hrel
    obtain ⟨q, rfl⟩ : ∃ q : Nat, q = gk := ⟨_, rfl⟩
    cases q with
    | zero =>
      rw [List.drop_zero]
      clear e1 e2 e3
      go_wp2
      exact k.out
    | succ j =>
      obtain ⟨x, hx⟩ : ∃ x, l[j]? = some x := ⟨_, List.getElem?_eq_getElem (by rw [hN.out]; omega)⟩
      obtain ⟨b, o, rfl, hat⟩ := hrow.out (by intro h0; have := congrArg List.length h0; rw [List.length_map, hN.out] at this; simp at this; omega)
      have y1 := hat j (bX x) (by rw [List.getElem?_map, hx]; rfl)
      have hd := nOf_drop hx
      have hb := nOf_bd (l := l.drop j) (by rw [List.length_drop, hN.out]; omega)
      rw [hd] at hb
      obtain ⟨V, hV⟩ : ∃ V, nOf (l.drop (j + 1)) = V := ⟨_, rfl⟩
      rw [hV] at hd hb ⊢
      have hj1 : ((j + 1 : Nat) : Int) - 1 = j := by omega
      rw [hj1]
      have ej : (0 : Int) ≤ j ∧ (j : Int) < N := by omega
      unfold bX at y1
      clear hj1 hx hat e1 e2 e3
      replace hV := aside hV
      replace hd := aside hd
      cases x
      all_goals
        simp only [Bool.false_eq_true, if_false, if_true, Bool.toNat_false, Bool.toNat_true] at y1 hb
        go_wp2
        go_roundg j
        case measure => omega
        case rel => exact ⟨rfl, by omega, by go_num, by rw [hd.out]; simp only [Bool.toNat_false, Bool.toNat_true, Value.int.injEq, true_and]; omega⟩

set_option maxRecDepth 100000 in
set_option maxHeartbeats 4000000 in
theorem c_bits01 (t : Sat W0 w H A) (W : Nat) (hW : (W : Int) ≤ 18446744073709551615) (k : ∀ w' B c h, OwnS 1 (.slice B 64 c) 64 ((btL W).map bX) h → Sat W0 w' H (h :: A) → R (.returned (.slice B 64 c)) w') :
    Calls Try.prog 166 #[.int .u64 W] w R := by
  obtain ⟨i0, hi0, hz0, hs0, hb0⟩ := info_intX
  have t1 := t.emp
  replace k := aside k
  go_enter Try.func166, Try.ntmps166
  go_wp2
  go_loopg [0, 3, 4] 64 (fun q v0 v3 v4 w' => ∃ (n : Nat) (h : Hp) (B : Option Addr) (c : Nat), q + n = 64 ∧ n ≤ 64 ∧ v4 = .int .i64 n ∧ v0 = .int .u64 (W / 2 ^ n : Nat) ∧ v3 = .slice B n c ∧ OwnS 1 (.slice B n c) n (((btL W).take n).map bX) h ∧ Sat W0 w' H (h :: A))
  case atStart => exact ⟨0, empH, none, 0, rfl, by omega, rfl, by simp, rfl, OwnS.nil 1, t1⟩
  clear t1 t
  case round =>
    obtain ⟨n, h, B, c, hq, hn1, rfl, rfl, rfl, own, t⟩ := hrel
    by_cases hn : n < 64
    · have hY1 : W / 2 ^ n ≤ W := Nat.div_le_self _ _
      have hY2 : W / 2 ^ n / 2 = W / 2 ^ (n + 1) := by rw [Nat.div_div_eq_div_mul, ← Nat.pow_succ]
      have htb : W.testBit n = decide (W / 2 ^ n % 2 = 1) := Nat.testBit_eq_decide_div_mod_eq ..
      have hS : ((btL W).take (n + 1)).map bX = ((btL W).take n).map bX ++ [bX (W.testBit n)] := by
        rw [List.take_add_one, btL_at W hn, List.map_append]; rfl
      obtain ⟨Y, hY⟩ : ∃ Y, W / 2 ^ n = Y := ⟨_, rfl⟩
      rw [hY] at hY1 hY2 htb ⊢
      obtain ⟨b1, hb1⟩ : ∃ b, W.testBit n = b := ⟨_, rfl⟩
      rw [hb1] at htb hS
      have hbx : bX b1 = .int .i64 ((Y : Int) % 2) := by
        unfold bX
        rw [htb]
        by_cases h2 : Y % 2 = 1
        · rw [decide_eq_true h2]; simp; omega
        · rw [decide_eq_false h2]; simp; omega
      rw [hbx] at hS
      have e1 : IntKind.i64.wrap ((Y : Int) % 2) = (Y : Int) % 2 := by simp [IntKind.wrap, IntKind.bits, IntKind.signed]; omega
      have hY0 : (0 : Int) ≤ Y ∧ (Y : Int) ≤ 18446744073709551615 := by omega
      have hq2 := aside (show gk - 1 + (n + 1) = 64 ∧ gk - 1 < gk by omega)
      have hY3 := aside (show (Y : Int) / 2 = ((W / 2 ^ (n + 1) : Nat) : Int) by rw [← hY2]; rfl)
      obtain ⟨YI, hYI⟩ : ∃ y : Int, (Y : Int) = y := ⟨_, rfl⟩
      rw [hYI] at e1 hY0 hY3 hS ⊢
      clear htb hbx hY1 hY2 hq
      replace hS := aside hS
      replace hY := aside hY
      replace hb1 := aside hb1
      replace hYI := aside hYI
      go_wp2_with (at_builtin; refine wpList_append rfl (.tmp 9) (.tmp 13) 275 275 3 rfl i0 (.int .i64 0) 1 8 Try.underlying275 Try.underlying275 hi0 hz0 hs0 hb0 rfl (by decide) rfl own (t.alloc (c := [.int .i64 (YI % 2)]) (t := 3)).swap rfl (us := [.int .i64 (YI % 2)]) rfl row_intX (by simp [Value.oneCell']) (by omega) (by omega) ?_; intro A6 c6 w6 h6 own6 t6)
      go_roundg (gk - 1)
      case measure => exact hq2.out.2
      case rel => exact ⟨n + 1, h6, _, c6, hq2.out.1, by omega, by go_num, by rw [← hY3.out], rfl, by rw [hS.out]; exact own6, t6.wk⟩
    · obtain rfl : n = 64 := by omega
      rw [List.take_of_length_le (by rw [btL_len]; omega)] at own
      clear hq hn hn1
      go_wp2
      exact k.out _ _ _ _ own t

set_option maxRecDepth 100000 in
set_option maxHeartbeats 4000000 in
theorem c_put01 (t : Sat W0 w H A) (W a n V : Nat) (hW : (W : Int) ≤ 18446744073709551615) (hV : (V : Int) ≤ 18446744073709551615) (ha : a ≤ 63) (hn : n ≤ 64) (k : ∀ w', Sat W0 w' H A → R (.returned (.int .u64 (putN W a n V : Nat))) w') :
    Calls Try.prog 149 #[.int .u64 W, .int .i64 a, .int .i64 n, .int .u64 V] w R := by
  replace k := aside k
  have i1 : (0 : Int) ≤ a ∧ (a : Int) ≤ 63 := by omega
  go_enter Try.func149, Try.ntmps149
  go_wp2_with fail
  refine c_bits01 t W hW ?_
  intro w2 B1 d1 h1 own1 t1
  go_wp2_with fail
  refine c_bits01 t1 V hV ?_
  intro w3 B2 d2 h2 own2 t2
  clear t t1
  rw [← putL_zero W a V] at own1
  obtain ⟨A1, c1, sp1, hs1, g1, g2, g3, g4, g5, rfl⟩ := own1
  obtain ⟨rfl, _, rfl⟩ := Value.slice.inj hs1
  obtain ⟨b1, o1, rfl⟩ := g5 (by omega)
  obtain ⟨A2, c2, sp2, hs2, f1, f2, f3, f4, f5, rfl⟩ := own2
  obtain ⟨rfl, _, rfl⟩ := Value.slice.inj hs2
  obtain ⟨b2, o2, rfl⟩ := f5 (by omega)
  have t3 : Sat W0 w3 H (cellsH ⟨b1, o1, none⟩ ((putL W a 0 V).map bX ++ sp1) :: cellsH ⟨b2, o2, none⟩ ((btL V).map bX ++ sp2) :: A) := t2.swap
  have m1 : (if (n : Int) < 64 then (n : Int) else 64) = n := by split <;> omega
  have m2 : (if (64 : Int) < n then (64 : Int) else n) = n := by split <;> omega
  have hown := aside (show ∀ j, OwnS 1 (.slice (some ⟨b1, o1, none⟩) 64 d1) 64 ((putL W a j V).map bX) (cellsH ⟨b1, o1, none⟩ ((putL W a j V).map bX ++ sp1)) from fun j => ⟨_, _, sp1, rfl, g1, g2, by rw [List.length_map, putL_len], g4, fun _ => ⟨_, _, rfl⟩, rfl⟩)
  clear t2 hs1 hs2 g3 g4 g5 f3 f4 f5 hW hV
  go_wp2
  go_loopg [11] 64 (fun p v11 w' => ∃ j : Nat, p + j = 64 ∧ v11 = .int .i64 j ∧ (j ≤ n ∧ a + j ≤ 64) ∧ Sat W0 w' H (cellsH ⟨b1, o1, none⟩ ((putL W a j V).map bX ++ sp1) :: cellsH ⟨b2, o2, none⟩ ((btL V).map bX ++ sp2) :: A))
  case atStart => exact ⟨0, rfl, rfl, by omega, t3⟩
  clear t3
  case round =>
    obtain ⟨j, hp, rfl, hj, t⟩ := hrel
    obtain ⟨P, hP⟩ : ∃ P : Nat, a + j = P := ⟨_, rfl⟩
    have eP : IntKind.i64.wrap ((a : Int) + (j : Int)) = (P : Int) := by simp [IntKind.wrap, IntKind.bits, IntKind.signed]; omega
    by_cases c1 : j < n
    · by_cases c2 : P < 64
      · have c1' : (j : Int) < n := by omega
        have c2' : (P : Int) < 64 := by omega
        have i2 : (0 : Int) ≤ P ∧ (P : Int) < 64 := by omega
        have i3 : (0 : Int) ≤ j ∧ (j : Int) < 64 := by omega
        have hl1 : ((putL W a j V).map bX).length = 64 := by rw [List.length_map, putL_len]
        obtain ⟨X, hX⟩ : ∃ X, bX (V.testBit j) = .int .i64 X := ⟨_, rfl⟩
        obtain ⟨X0, hX0⟩ : ∃ X, ((putL W a j V).map bX ++ sp1)[P]? = some (.int .i64 X) := ⟨_, by rw [List.getElem?_append_left (by rw [hl1]; exact c2), List.getElem?_map, putL_at _ _ _ _ c2]; rfl⟩
        have y1 := t.c P hX0
        have y2 := t.tail1.c j (v := .int .i64 X) (by rw [List.getElem?_append_left (by rw [List.length_map, btL_len]; omega), List.getElem?_map, btL_at V (by omega)]; exact congrArg some hX)
        have t5 := t.s P (by rw [List.length_append, hl1]; omega) (.int .i64 X)
        rw [List.set_append_left _ _ (by rw [hl1]; exact c2), ← hX, ← List.map_set, ← hP, putL_step W a j V (by omega), hP, hX] at t5
        have hp2 := aside (show gk - 1 + (j + 1) = 64 ∧ gk - 1 < gk by omega)
        have hj2 := aside (show j + 1 ≤ n ∧ a + (j + 1) ≤ 64 by omega)
        clear hp hj hl1 hX0 t
        replace hP := aside hP
        replace hX := aside hX
        go_wp2
        go_roundg (gk - 1)
        case measure => exact hp2.out.2
        case rel => exact ⟨j + 1, hp2.out.1, by go_num, hj2.out, t5⟩
      · have c1' : (j : Int) < n := by omega
        have c2' : ¬ (P : Int) < 64 := by omega
        have e1 := putL_sat W a n V j (by omega) (by omega)
        have K := aside (show ∀ w', Sat W0 w' H A → R (.returned (.int .u64 (nOf (putL W a j V) : Nat))) w' by rw [← e1]; exact k.out)
        have ho := hown.out j
        have t5 : Sat W0 wr H (cellsH ⟨b1, o1, none⟩ ((putL W a j V).map bX ++ sp1) :: A) := t.wk
        have hl1 := aside (putL_len W a j V)
        clear e1 k hp hj hP t
        obtain ⟨L, hL⟩ : ∃ L, putL W a j V = L := ⟨_, rfl⟩
        rw [hL] at K ho t5 hl1
        rw [← hl1.out] at ho
        replace hL := aside hL
        go_wp2_with fail
        rw [← hl1.out]
        refine c_word01 t5 ho (by rw [hl1.out]; omega) ?_
        go_wp2
        exact K.out _ t5.tail1
    · have c1' : ¬ (j : Int) < n := by omega
      obtain rfl : j = n := by omega
      have K := aside (show ∀ w', Sat W0 w' H A → R (.returned (.int .u64 (nOf (putL W a j V) : Nat))) w' from k.out)
      have ho := hown.out j
      have t5 : Sat W0 wr H (cellsH ⟨b1, o1, none⟩ ((putL W a j V).map bX ++ sp1) :: A) := t.wk
      have hl1 := aside (putL_len W a j V)
      clear k hp hj hP t
      obtain ⟨L, hL⟩ : ∃ L, putL W a j V = L := ⟨_, rfl⟩
      rw [hL] at K ho t5 hl1
      rw [← hl1.out] at ho
      replace hL := aside hL
      go_wp2_with fail
      rw [← hl1.out]
      refine c_word01 t5 ho (by rw [hl1.out]; omega) ?_
      go_wp2
      exact K.out _ t5.tail1
theorem c_put01i (t : Sat W0 w H A) (W a n V : Nat) {Wi ai ni Vi : Int} (e1 : Wi = W) (e2 : ai = a) (e3 : ni = n) (e4 : Vi = V) (hW : (W : Int) ≤ 18446744073709551615) (hV : (V : Int) ≤ 18446744073709551615) (ha : a ≤ 63) (hn : n ≤ 64) (k : ∀ w', Sat W0 w' H A → R (.returned (.int .u64 (putN W a n V : Nat))) w') :
    Calls Try.prog 149 #[.int .u64 Wi, .int .i64 ai, .int .i64 ni, .int .u64 Vi] w R := by
  subst e1 e2 e3 e4
  exact c_put01 t W a n V hW hV ha hn k
end
end Go.Proofs.Ytiibiamobkhlbaa
