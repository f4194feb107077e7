/-
  RingPassed returns true for all events and counts; no condition.
-/
import Derived.Test.YtmdhhidcbcgbjaaVc
import Derived.Test.YtmdhhidcbcgbjaaChecked
namespace Go.Proofs.Ytmdhhidcbcgbjaa
open Go.RowKit
set_option linter.unusedVariables false

theorem bel_alloc {W w : World} (h : Below W.heap.size W w) (o : Obj) : Below W.heap.size W (w.alloc o) := h.alloc h.size o

/-! ### ring.Areas, Power(4), awake -/
theorem c_Areas4 {R : Ending → World → Prop} {W : World} (n d a u : Int) (h : 0 ≤ n ∧ n ≤ 256) (hd : 0 ≤ d ∧ d ≤ 18446744073709551615) (w : World) (hw : Below W.heap.size W w)
    (k : ∀ w', Below W.heap.size W w' → R (.returned (.agg #[.int .u64 d, .int .u64 (16*n), .int .u64 a, .int .u64 (2*n+6), .int .u64 u, .int .u64 (8*n+6)])) w') :
    Calls Try.prog 50 #[.agg #[.int .i64 n, .int .u64 d, .int .u64 a, .int .u64 u]] w R := by
  go_enter Try.func50, Try.ntmps50
  go_wp2
  refine bodyPost_ret (v := .agg #[.int .u64 d, .int .u64 (16*n), .int .u64 a, .int .u64 (2*n+6), .int .u64 u, .int .u64 (8*n+6)]) (by simp [results, Try.results50, go_sem]; omega) rfl (k _ ?_)
  exact bel_alloc (bel_alloc hw _) _

theorem c_Power4 {R : Ending → World → Prop} (w : World) (k : R (.returned (.bool true)) w) : Calls Try.prog 48 #[.int .i64 4] w R := by
  go_enter Try.func48, Try.ntmps48
  go_wp2
  exact k

theorem c_ringAwake {R : Ending → World → Prop} {W : World} (w : World) (hw : Below W.heap.size W w) (k : ∀ w', Below W.heap.size W w' → R (.returned (.bool true)) w') :
    Calls Try.prog 15 #[] w R := by
  go_enter Try.func15, Try.ntmps15
  go_wp2_with (first
    | (go_at_call 50; refine c_Areas4 _ _ _ _ (by omega) (by omega) _ hw ?_; intro w1 hw1)
    | (go_at_call 48; refine c_Power4 _ ?_))
  exact bel_alloc hw1 _

/-! ### Passed, both -/
theorem c_Passed {R : Ending → World → Prop} (a b c : Int) (h0 : 0 ≤ a ∧ a ≤ 65535) (h1 : 0 ≤ b ∧ b ≤ 65535) (h2 : 0 ≤ c ∧ c ≤ 65535) (w : World)
    (k : R (.returned (.bool (decide ((c - a - 1) % 65536 < (c - b) % 65536)))) w) :
    Calls Try.prog 16 #[.int .u16 a, .int .u16 b, .int .u16 c] w R := by
  go_enter Try.func16, Try.ntmps16
  go_wp2
  refine ret_b k ?_
  simp [wrap_u16]

theorem c_refPassed {R : Ending → World → Prop} (a b c : Int) (h0 : 0 ≤ a ∧ a ≤ 65535) (h1 : 0 ≤ b ∧ b ≤ 65535) (h2 : 0 ≤ c ∧ c ≤ 65535) (w : World)
    (k : R (.returned (.bool (decide ((c - a - 1) % 65536 < (c - b) % 65536)))) w) :
    Calls Try.prog 17 #[.int .i64 a, .int .i64 b, .int .i64 c] w R := by
  go_enter Try.func17, Try.ntmps17
  go_wp2
  go_loop [7] (fun v => ∃ i : Int, 0 ≤ i ∧ i ≤ (c - b) % 65536 ∧ v = .int .i64 ((b + i) % 65536) ∧ (i ≤ (a - b) % 65536)) (fun v => ((c - intOf v) % 65536).toNat)
  case atStart => exact ⟨0, by omega, by omega, by simp; omega, by omega⟩
  case round =>
    obtain ⟨i, hi0, hi1, rfl, hi2⟩ := hrel
    by_cases e : (b + i) % 65536 = c
    · have e1 : ((b + i) % 65536 != c) = false := bne_eq_false_iff_eq.2 e
      have K : decide ((c - a - 1) % 65536 < (c - b) % 65536) = false := by simp; omega
      clear e
      go_wp2
      exact ret_b k K
    · by_cases f : (b + i) % 65536 = a
      · have e1 : ((b + i) % 65536 != c) = true := bne_iff_ne.2 e
        have f1 : ((b + i) % 65536 == a) = true := beq_iff_eq.2 f
        have K : decide ((c - a - 1) % 65536 < (c - b) % 65536) = true := by simp; omega
        clear e f
        go_wp2
        exact ret_b k K
      · have e1 : ((b + i) % 65536 != c) = true := bne_iff_ne.2 e
        have f1 : ((b + i) % 65536 == a) = false := beq_eq_false_iff_ne.2 f
        have K : ∃ j, 0 ≤ j ∧ j ≤ (c - b) % 65536 ∧ Value.int .i64 (((b + i) % 65536 + 1) % 65536) = Value.int .i64 ((b + j) % 65536) ∧ j ≤ (a - b) % 65536 :=
          ⟨i + 1, by omega, by omega, by congr 1; omega, by omega⟩
        have M : ((c - intOf (Value.int IntKind.i64 (((b + i) % 65536 + 1) % 65536))) % 65536).toNat < ((c - intOf (Value.int IntKind.i64 ((b + i) % 65536))) % 65536).toNat := by simp [intOf]; omega
        clear e f
        go_wp2
        go_round
        case rel => exact K
        case measure => exact M

theorem law_RingPassed (W : World) {v0 v1 v2 : Value} {x0 x1 x2 : Int} (e0 : u16E (look W) x0 [v0]) (e1 : u16E (look W) x1 [v1]) (e2 : u16E (look W) x2 [v2]) :
    Calls Try.prog 3 #[v0, v1, v2] W fun e w' => e = .returned (.bool true) ∧ Below W.heap.size W w' := by
  obtain ⟨h0, a0, b0⟩ := e0
  obtain ⟨h1, a1, b1⟩ := e1
  obtain ⟨h2, a2, b2⟩ := e2
  obtain rfl : v0 = _ := List.cons.inj h0 |>.1
  obtain rfl : v1 = _ := List.cons.inj h1 |>.1
  obtain rfl : v2 = _ := List.cons.inj h2 |>.1
  clear h0 h1 h2
  go_enter Try.func3, Try.ntmps3
  go_wp2_with (first
    | (go_at_call 15; refine c_ringAwake _ (Below.refl _ _) ?_; intro w1 hw1)
    | (go_at_call 16; refine c_Passed _ _ _ ⟨a0, b0⟩ ⟨a1, b1⟩ ⟨a2, b2⟩ _ ?_)
    | (go_at_call 17; refine c_refPassed _ _ _ ⟨a0, b0⟩ ⟨a1, b1⟩ ⟨a2, b2⟩ _ ?_))
  go_ret
  exact ⟨by simp, hw1⟩
end Go.Proofs.Ytmdhhidcbcgbjaa
