/-
  PLIC, the document's state as a row of values: what stands where, what a store makes of it. Plain theorems over any program.
-/
import Derived.Test.YtohccblfnjampaaPa
namespace Go.Proofs.Ytohccblfnjampaa
open Go.RowKit
set_option linter.unusedVariables false
set_option linter.unusedSimpArgs false

theorem skL {A B : List Value} {n : Nat} (i : Nat) (hA : A.length = n) : (A ++ B)[n + i]? = B[i]? := by
  rw [List.getElem?_append_right (by omega), hA]; congr 1; omega
theorem ltL {A B : List Value} {i : Nat} (h : i < A.length) : (A ++ B)[i]? = A[i]? := List.getElem?_append_left h
theorem skS {A B : List Value} {n : Nat} (i : Nat) (v : Value) (hA : A.length = n) : (A ++ B).set (n + i) v = A ++ B.set i v := by
  rw [List.set_append_right _ _ (by omega), hA]; congr 2; omega
theorem ltS {A B : List Value} {i : Nat} (v : Value) (h : i < A.length) : (A ++ B).set i v = A.set i v ++ B := List.set_append_left _ _ h
theorem mk32_at (x : W32) {i : Nat} (h : i < 32) : (mk32 x)[i]? = some (.bool (x.getLsbD i)) := by simp [mk32, h]
theorem mk32_set {x y : W32} {i : Nat} {v : Bool} (h : i < 32) (hy : ∀ j, j < 32 → y.getLsbD j = if j = i then v else x.getLsbD j) : (mk32 x).set i (.bool v) = mk32 y := by
  apply List.ext_getElem?
  intro j
  rw [List.getElem?_set]
  rcases Nat.lt_or_ge j 32 with hj | hj
  · rw [mk32_at y hj, mk32_at x hj, mk32_len, hy j hj]
    by_cases hij : i = j
    · subst hij; simp [h]
    · rw [if_neg hij, if_neg (Ne.symm hij)]
  · rw [List.getElem?_eq_none (by rw [mk32_len]; exact hj), List.getElem?_eq_none (by rw [mk32_len]; exact hj), if_neg (by omega)]
theorem mk32_on {x : W32} {i : Nat} (h : i < 32) : (mk32 x).set i (.bool true) = mk32 (x ||| tw i) :=
  mk32_set h fun j hj => by
    rw [BitVec.getLsbD_or, tw_bit]
    by_cases hij : j = i
    · subst hij; simp [h]
    · simp [hij, Ne.symm hij]
theorem mk32_off {x : W32} {i : Nat} (h : i < 32) : (mk32 x).set i (.bool false) = mk32 (x &&& ~~~tw i) :=
  mk32_set h fun j hj => by
    rw [BitVec.getLsbD_and, BitVec.getLsbD_not, tw_bit]
    by_cases hij : j = i
    · subst hij; simp [h]
    · simp [hij, Ne.symm hij, hj]

section
variable (s : PlS)
theorem PlS.pl : (s.prio.map (Value.int .i64)).length = 32 := by simp [s.plen]
theorem PlS.rP {i : Nat} (h : i < 32) : s.ref[i]? = some (.int .i64 (s.p i)) := by
  unfold PlS.ref; simp only [List.append_assoc]
  rw [ltL (by rw [s.pl]; exact h), List.getElem?_map, s.p_get h]; rfl
theorem PlS.rH {i : Nat} (h : i < 32) : s.ref[32 + i]? = some (.bool (s.high.getLsbD i)) := by
  unfold PlS.ref; simp only [List.append_assoc]
  rw [skL i s.pl, ltL (by rw [mk32_len]; exact h), mk32_at _ h]
theorem PlS.rW {i : Nat} (h : i < 32) : s.ref[64 + i]? = some (.bool (s.waits.getLsbD i)) := by
  unfold PlS.ref; simp only [List.append_assoc]
  rw [show 64 + i = 32 + (32 + i) by omega, skL _ s.pl, skL _ (mk32_len _), ltL (by rw [mk32_len]; exact h), mk32_at _ h]
theorem PlS.rS {i : Nat} (h : i < 32) : s.ref[96 + i]? = some (.bool (s.serving.getLsbD i)) := by
  unfold PlS.ref; simp only [List.append_assoc]
  rw [show 96 + i = 32 + (32 + (32 + i)) by omega, skL _ s.pl, skL _ (mk32_len _), skL _ (mk32_len _), ltL (by rw [mk32_len]; exact h), mk32_at _ h]
theorem PlS.rL {c i : Nat} (hc : c < 2) (h : i < 32) : s.ref[128 + c * 32 + i]? = some (.bool ((s.lets c).getLsbD i)) := by
  unfold PlS.ref; simp only [List.append_assoc]
  match c, hc with
  | 0, _ => rw [show 128 + 0 * 32 + i = 32 + (32 + (32 + (32 + i))) by omega, skL _ s.pl, skL _ (mk32_len _), skL _ (mk32_len _), skL _ (mk32_len _), ltL (by rw [mk32_len]; exact h), mk32_at _ h]; rfl
  | 1, _ => rw [show 128 + 1 * 32 + i = 32 + (32 + (32 + (32 + (32 + i)))) by omega, skL _ s.pl, skL _ (mk32_len _), skL _ (mk32_len _), skL _ (mk32_len _), skL _ (mk32_len _), ltL (by rw [mk32_len]; exact h), mk32_at _ h]; rfl
theorem PlS.rE {c : Nat} (hc : c < 2) : s.ref[192 + c]? = some (.int .i64 (s.least c)) := by
  unfold PlS.ref; simp only [List.append_assoc]
  rw [show 192 + c = 32 + (32 + (32 + (32 + (32 + (32 + c))))) by omega, skL _ s.pl, skL _ (mk32_len _), skL _ (mk32_len _), skL _ (mk32_len _), skL _ (mk32_len _), skL _ (mk32_len _)]
  match c, hc with
  | 0, _ => rfl
  | 1, _ => rfl
theorem PlS.sP {i : Nat} (h : i < 32) (v : Int) (hv : 0 ≤ v ∧ v ≤ 7) : s.ref.set i (.int .i64 v) = (s.setP i v hv).ref := by
  unfold PlS.ref; simp only [List.append_assoc]
  rw [ltS _ (by rw [s.pl]; exact h)]
  simp [PlS.setP, List.map_set]
/-- any other high word: without the page's invariant -/
def refV (p : List Int) (hi wa se l0 l1 : W32) (a b : Int) : List Value := p.map (Value.int .i64) ++ mk32 hi ++ mk32 wa ++ mk32 se ++ mk32 l0 ++ mk32 l1 ++ [.int .i64 a, .int .i64 b]
theorem PlS.ref_V : s.ref = refV s.prio s.high s.waits s.serving s.lets0 s.lets1 s.least0 s.least1 := rfl
theorem refV_hi {p : List Int} (hp : p.length = 32) {hi wa se l0 l1 : W32} {a b : Int} {i : Nat} (h : i < 32) {v : Bool} {y : W32} (hy : (mk32 hi).set i (.bool v) = mk32 y) : (refV p hi wa se l0 l1 a b).set (32 + i) (.bool v) = refV p y wa se l0 l1 a b := by
  unfold refV; simp only [List.append_assoc]
  rw [skS _ _ (by simp [hp]), ltS _ (by rw [mk32_len]; exact h), hy]
theorem refV_wa {p : List Int} (hp : p.length = 32) {hi wa se l0 l1 : W32} {a b : Int} {i : Nat} (h : i < 32) {v : Bool} {y : W32} (hy : (mk32 wa).set i (.bool v) = mk32 y) : (refV p hi wa se l0 l1 a b).set (64 + i) (.bool v) = refV p hi y se l0 l1 a b := by
  unfold refV; simp only [List.append_assoc]
  rw [show 64 + i = 32 + (32 + i) by omega, skS _ _ (by simp [hp]), skS _ _ (mk32_len _), ltS _ (by rw [mk32_len]; exact h), hy]
theorem refV_se {p : List Int} (hp : p.length = 32) {hi wa se l0 l1 : W32} {a b : Int} {i : Nat} (h : i < 32) {v : Bool} {y : W32} (hy : (mk32 se).set i (.bool v) = mk32 y) : (refV p hi wa se l0 l1 a b).set (96 + i) (.bool v) = refV p hi wa y l0 l1 a b := by
  unfold refV; simp only [List.append_assoc]
  rw [show 96 + i = 32 + (32 + (32 + i)) by omega, skS _ _ (by simp [hp]), skS _ _ (mk32_len _), skS _ _ (mk32_len _), ltS _ (by rw [mk32_len]; exact h), hy]
theorem refV_e0 {p : List Int} (hp : p.length = 32) {hi wa se l0 l1 : W32} {a b v : Int} : (refV p hi wa se l0 l1 a b).set 192 (.int .i64 v) = refV p hi wa se l0 l1 v b := by
  unfold refV; simp only [List.append_assoc]
  rw [show 192 = 32 + (32 + (32 + (32 + (32 + (32 + 0))))) by omega, skS _ _ (by simp [hp]), skS _ _ (mk32_len _), skS _ _ (mk32_len _), skS _ _ (mk32_len _), skS _ _ (mk32_len _), skS _ _ (mk32_len _)]; rfl
theorem refV_e1 {p : List Int} (hp : p.length = 32) {hi wa se l0 l1 : W32} {a b v : Int} : (refV p hi wa se l0 l1 a b).set 193 (.int .i64 v) = refV p hi wa se l0 l1 a v := by
  unfold refV; simp only [List.append_assoc]
  rw [show 193 = 32 + (32 + (32 + (32 + (32 + (32 + 1))))) by omega, skS _ _ (by simp [hp]), skS _ _ (mk32_len _), skS _ _ (mk32_len _), skS _ _ (mk32_len _), skS _ _ (mk32_len _), skS _ _ (mk32_len _)]; rfl
end
/-- cells stored one behind the other -/
def setR (l : List Value) (o : Nat) (us : List Value) : List Value := l.take o ++ us ++ l.drop (o + us.length)
theorem refV_l0 {p : List Int} (hp : p.length = 32) {hi wa se l0 l1 y : W32} {a b : Int} : setR (refV p hi wa se l0 l1 a b) 128 (mk32 y) = refV p hi wa se y l1 a b := by
  have e : refV p hi wa se l0 l1 a b = (p.map (Value.int .i64) ++ mk32 hi ++ mk32 wa ++ mk32 se) ++ (mk32 l0 ++ (mk32 l1 ++ [.int .i64 a, .int .i64 b])) := by simp [refV]
  have hl : (p.map (Value.int .i64) ++ mk32 hi ++ mk32 wa ++ mk32 se).length = 128 := by simp [hp, mk32_len]
  unfold setR
  rw [e, mk32_len, List.take_append_of_le_length (by omega), List.take_of_length_le (by omega), List.drop_append, List.drop_eq_nil_of_le (by omega), hl]
  rw [List.drop_append_of_le_length (by simp [mk32_len]), List.drop_eq_nil_of_le (by simp [mk32_len])]
  simp [refV]
theorem refV_l1 {p : List Int} (hp : p.length = 32) {hi wa se l0 l1 y : W32} {a b : Int} : setR (refV p hi wa se l0 l1 a b) 160 (mk32 y) = refV p hi wa se l0 y a b := by
  have e : refV p hi wa se l0 l1 a b = (p.map (Value.int .i64) ++ mk32 hi ++ mk32 wa ++ mk32 se ++ mk32 l0) ++ (mk32 l1 ++ [.int .i64 a, .int .i64 b]) := by simp [refV]
  have hl : (p.map (Value.int .i64) ++ mk32 hi ++ mk32 wa ++ mk32 se ++ mk32 l0).length = 160 := by simp [hp, mk32_len]
  unfold setR
  rw [e, mk32_len, List.take_append_of_le_length (by omega), List.take_of_length_le (by omega), List.drop_append, List.drop_eq_nil_of_le (by omega), hl]
  rw [List.drop_append_of_le_length (by simp [mk32_len]), List.drop_eq_nil_of_le (by simp [mk32_len])]
  simp [refV]

/-- the document's gate, as far as i -/
def gtW (hi se wa : W32) : Nat → W32
  | 0 => wa
  | i + 1 => if hi.getLsbD (i + 1) = true ∧ se.getLsbD (i + 1) = false then gtW hi se wa i ||| tw (i + 1) else gtW hi se wa i
theorem gtW_bit (hi se wa : W32) {j : Nat} (hj : j < 32) : ∀ i, i < 32 → (gtW hi se wa i).getLsbD j = (wa.getLsbD j || (decide (1 ≤ j ∧ j ≤ i) && hi.getLsbD j && !se.getLsbD j))
  | 0, _ => by simp [gtW]; omega
  | i + 1, h => by
    have ih := gtW_bit hi se wa hj i (by omega)
    unfold gtW
    by_cases hij : j = i + 1
    · subst hij
      split
      · rename_i c; rw [BitVec.getLsbD_or, ih, tw_bit, c.1, c.2]; simp; omega
      · rename_i c
        rw [ih]
        have e1 : decide (1 ≤ i + 1 ∧ i + 1 ≤ i) = false := by simp
        have e2 : decide (1 ≤ i + 1 ∧ i + 1 ≤ i + 1) = true := by simp
        rw [e1, e2]
        cases h1 : hi.getLsbD (i + 1) <;> cases h2 : se.getLsbD (i + 1) <;> simp_all
    · have e : decide (1 ≤ j ∧ j ≤ i + 1) = decide (1 ≤ j ∧ j ≤ i) := by rw [decide_eq_decide]; omega
      split
      · rw [BitVec.getLsbD_or, ih, tw_bit, e]; simp [Ne.symm hij]
      · rw [ih, e]
theorem gtW_end (s : PlS) : gtW s.high s.serving s.waits 31 = s.waits ||| (s.high &&& ~~~s.serving) := by
  apply BitVec.eq_of_getLsbD_eq
  intro j hj
  rw [gtW_bit _ _ _ hj 31 (by omega), BitVec.getLsbD_or, BitVec.getLsbD_and, BitVec.getLsbD_not]
  by_cases h0 : j = 0
  · subst h0; rw [s.h0]; simp only [Bool.and_false, Bool.false_and]
  · have e : decide (1 ≤ j ∧ j ≤ 31) = true := by simp; omega
    rw [e]; simp [hj]

/-- the document's first, as far as i from above -/
def fst (a : W32) (p : Nat → Int) : Nat → Nat
  | 0 => 0
  | k + 1 => dwn a p (fst a p k) (31 - k)
theorem fst_is (a : W32) (p : Nat → Int) : ∀ k, k ≤ 31 → IsB a p (32 - k) 31 (fst a p k)
  | 0, _ => isB_top a p 31
  | k + 1, h => by
    have ih := fst_is a p k (by omega)
    have := dwn_is (i := 31 - k) (hi := 31) (by omega) (by rw [show 31 - k + 1 = 32 - k by omega]; exact ih) (by omega)
    rw [show 32 - (k + 1) = 31 - k by omega]
    exact this
theorem fst_end (a : W32) (p : Nat → Int) : fst a p 31 = bst a p 31 := isB_uni (by omega) (fst_is a p 31 (by omega)) (bst_is a p 31)
theorem fst_le (a : W32) (p : Nat → Int) (k : Nat) (h : k ≤ 31) : fst a p k ≤ 31 := by
  rcases fst_is a p k h with ⟨h1, _⟩ | ⟨_, h1, _⟩ <;> omega

/-- a word of marks -/
def wordB (l : List Bool) : Int := l.foldr (fun b n => (if b then 1 else 0) + 2 * n) 0
end Go.Proofs.Ytohccblfnjampaa
