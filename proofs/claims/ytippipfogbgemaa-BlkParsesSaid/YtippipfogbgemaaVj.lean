/-
  RING: word.Of; words that are read from a memory, the code's (read, half) and the document's (Word).
-/
import Derived.Test.YtippipfogbgemaaVy
import Derived.Test.YtippipfogbgemaaVra
namespace Go.Proofs.Ytippipfogbgemaa
open Go.RowKit
set_option linter.unusedVariables false

section
variable {R : Ending → World → Prop} {W0 w : World} {H : Hp} {A F : List Hp} {v : Value} {b : Nat} {r : RamG} {size : Int} {m : Int → Int} {L : Nat}

set_option maxRecDepth 100000 in
set_option maxHeartbeats 4000000 in
theorem c_wordOf {hp : Hp} {xs : List Int} (hh : Holds w hp) (rd : Rd u8E 1 hp v xs) (hx : xs.length ≤ 8) (k : R (.returned (.int .u64 (ofB xs))) w) : Calls Try.prog 82 #[v] w R := by
  obtain ⟨B, c, rfl, rd⟩ := rd.open_
  obtain ⟨_, hc, hc2, g⟩ := rd.u8
  have hb := rd.bytes
  have hlen : (xs.length : Int) ≤ 8 := by omega
  clear rd
  go_enter Try.func82, Try.ntmps82
  go_wp2
  go_loopg [3, 4, 5, 8] xs.length (fun q v3 v4 v5 v8 w' => ∃ i : Nat, q + i = xs.length ∧ w' = w ∧ v3 = .int .u64 (ofB (xs.take i)) ∧ v8 = .int .i64 i)
  case atStart => exact ⟨0, by simp, rfl, rfl, rfl⟩
  case round =>
    obtain ⟨i, hq, rfl, rfl, rfl⟩ := hrel
    by_cases hi : i < xs.length
    · obtain ⟨bb, ob, rfl, hcell, hd0, hd1⟩ := g i hi
      have cc := hh.cell hcell
      have hbd := ofB_bd (l := xs.take i) (fun x hx => hb x (List.mem_of_mem_take hx))
      have htk : xs.take (i + 1) = xs.take i ++ [xs[i]] := List.take_succ_eq_append_getElem hi
      have hof : ofB (xs.take (i + 1)) = ofB (xs.take i) + 256 ^ i * xs[i] := by rw [htk, ofB_snoc, List.length_take, show min i xs.length = i by omega]
      rw [List.length_take, show min i xs.length = i by omega] at hbd
      obtain ⟨Y, hY⟩ : ∃ Y, xs[i] = Y := ⟨_, rfl⟩
      obtain ⟨X, hX⟩ : ∃ X, ofB (xs.take i) = X := ⟨_, rfl⟩
      rw [hX, hY] at hof
      rw [hX] at hbd
      rw [hY] at cc hd0 hd1
      have hor := aside (or_step2 X Y i (by omega) hbd ⟨hd0, hd1⟩)
      replace hof := aside hof
      replace hbd := aside hbd
      rw [hX]
      replace hX := aside hX
      have hi8 : i < 8 := by omega
      have e8 : ((i : Int) == 8) = false := by rw [beq_eq_false_iff_ne]; omega
      clear hcell g hb htk hY
      go_wp2
      go_roundg (gk - 1)
      case measure => omega
      case rel => exact ⟨i + 1, by omega, rfl, by rw [hof.out, hor.out], by go_num⟩
    · obtain rfl : i = xs.length := by omega
      rw [List.take_length]
      clear g hb
      go_wp2
      exact k

set_option maxRecDepth 100000 in
set_option maxHeartbeats 4000000 in
theorem c_refWord (s : Sat W0 w H A) (rm : RefM H v size m L) (hL : L ≤ 1000000) (hz : 0 ≤ size ∧ size ≤ 268435456) (a n : Int) (h0 : 0 ≤ a ∧ a ≤ 18446744073709551615) (hn : 0 ≤ n ∧ n ≤ 8)
    (k : ∀ w', Sat W0 w' H A → R (.returned (.int .u64 (if hasP size a n then ofB (rdB m a n.toNat) else 0))) w') : Calls Try.prog 100 #[v, .int .u64 a, .int .i64 n] w R := by
  obtain ⟨B, n0, c, rfl⟩ := rm.shapeM
  have s1 := s.alloc (c := [.int .u64 size, .slice B n0 c]) (t := 28)
  obtain ⟨Z, hZ⟩ : ∃ Z, w.heap.size = Z := ⟨_, rfl⟩
  rw [hZ] at s1
  have y0 := s1.cel Z 0 0 rfl
  have y1 := s1.cel Z 0 1 rfl
  simp only [Nat.zero_add] at y0 y1
  have en : IntKind.u64.wrap n = n := by rw [wrap_u64]; omega
  have hn8 : n.toNat ≤ 8 := by omega
  clear s
  by_cases hc : hasP size a n
  · rw [if_pos hc] at k
    go_enter Try.func100, Try.ntmps100
    go_wp2_with fail
    refine c_refRead s1 rm hL hz a n h0 (by omega) (fun h => absurd hc h) ?_
    intro _ w2 v2 h2 own s2
    have hd2 := own.rd (rdB_bd rm.bd _ _)
    go_wp2_with fail
    refine c_refOf s2.head hd2 (by rw [rdB_len]; exact hn8) ?_
    go_wp2
    exact s2.tail1.tail1
  · rw [if_neg hc] at k
    go_enter Try.func100, Try.ntmps100
    go_wp2_with fail
    refine c_refRead s1 rm hL hz a n h0 (by omega) ?_ (fun h => absurd h hc)
    intro _ w2 s2
    go_wp2_with fail
    refine c_refOf s2.ro (Rd.nil (h := H)) (by simp) ?_
    go_wp2
    exact s2.tail1

set_option maxRecDepth 100000 in
set_option maxHeartbeats 4000000 in
theorem c_ringRead (s : Sat W0 w H A) [fr : FrK (κ := Addr) (ρ := fun _ => RamG × Option LogG) ramL ⟨b, 0, none⟩ A (r, none) F] (a n : Int) (h0 : 0 ≤ a ∧ a ≤ 18446744073709551615) (hn : 0 ≤ n ∧ n ≤ 8)
    (k : ∀ w', Sat W0 w' H (ramL ⟨b, 0, none⟩ (r, none) ++ F) → R (.returned (.tuple #[.int .u64 (if hasP r.size a n then ofB (rdB r.mem a n.toNat) else 0), .bool (decide (hasP r.size a n))])) w') :
    Calls Try.prog 145 #[.pointer (some ⟨b, 0, none⟩), .int .u64 a, .int .i64 n] w R := by
  have en : IntKind.u64.wrap n = n := by rw [wrap_u64]; omega
  have hn8 : n.toNat ≤ 8 := by omega
  have e := has_iff r a n hn.1
  have hmb := r.hmem
  by_cases hc : hasP r.size a n
  · rw [if_pos hc, decide_eq_true hc] at k
    go_enter Try.func145, Try.ntmps145
    go_wp2_with fail
    refine c_ramRead s a n h0 (by omega) (fun h => absurd (e.2 hc) h) ?_
    intro _ w2 v2 h2 l2 own hl s2
    have hn2 : l2 = none := by
      cases l2 with
      | none => rfl
      | some x => simp [lgs, addR] at hl
    subst hn2
    have hd2 := own.rd (rdB_bd hmb _ _)
    go_wp2_with fail
    refine c_wordOf s2.head hd2 (by rw [rdB_len]; exact hn8) ?_
    go_wp2
    exact s2.tail1
  · rw [if_neg hc, decide_eq_false hc] at k
    have s0 := s.front (mk := ramL) (k := ⟨b, 0, none⟩)
    go_enter Try.func145, Try.ntmps145
    go_wp2_with fail
    refine c_ramRead s a n h0 (by omega) ?_ (fun h => absurd (e.1 h) hc)
    intro _
    go_wp2_with fail
    refine c_wordOf s0.ro (Rd.nil (h := H)) (by simp) ?_
    go_wp2
    exact s0

set_option maxRecDepth 100000 in
set_option maxHeartbeats 4000000 in
theorem c_ringHalf (s : Sat W0 w H A) [fr : FrK (κ := Addr) (ρ := fun _ => RamG × Option LogG) ramL ⟨b, 0, none⟩ A (r, none) F] (a : Int) (h0 : 0 ≤ a ∧ a ≤ 18446744073709551615)
    (k : ∀ w', Sat W0 w' H (ramL ⟨b, 0, none⟩ (r, none) ++ F) → R (.returned (.int .u16 (if hasP r.size a 2 then ofB (rdB r.mem a 2) else 0))) w') :
    Calls Try.prog 131 #[.pointer (some ⟨b, 0, none⟩), .int .u64 a] w R := by
  have hb := ofB_bd (rdB_bd r.hmem a 2)
  rw [rdB_len] at hb
  obtain ⟨y, hy⟩ : ∃ y, (if hasP r.size a 2 then ofB (rdB r.mem a 2) else 0) = y := ⟨_, rfl⟩
  have hy2 : 0 ≤ y ∧ y < 65536 := by
    rw [← hy]
    split
    · exact hb
    · omega
  have ew : IntKind.u16.wrap y = y := by rw [wrap_u16]; omega
  rw [hy] at k
  clear hb
  replace hy := aside hy
  go_enter Try.func131, Try.ntmps131
  go_wp2_with fail
  refine c_ringRead s a 2 h0 (by omega) ?_
  intro w2 s2
  rw [show (if hasP r.size a 2 then ofB (rdB r.mem a (2 : Int).toNat) else 0) = y from hy.out]
  go_wp2
  exact s2
end
end Go.Proofs.Ytippipfogbgemaa
