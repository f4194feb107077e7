/-
  RamBeside returns true for every script, call and place; no condition.
-/
import Derived.Test.YtmdhhidcbcgbjaaVx
import Derived.Test.YtmdhhidcbcgbjaaVz
import Derived.Test.YtmdhhidcbcgbjaaLRamOwns
namespace Go.Proofs.Ytmdhhidcbcgbjaa
open Go.RowKit
set_option linter.unusedVariables false

theorem rdB_one_out (m : Int → Int) (a : Int) (bs : List Int) (x : Int) (h : x < a ∨ a + bs.length ≤ x) : rdB (putB m a bs) x 1 = rdB m x 1 := by
  simp only [rdB]
  rw [putB_out m a bs _ (by simpa using h)]

set_option maxRecDepth 100000 in
set_option maxHeartbeats 4000000 in
theorem law_RamBeside (W : World) {v0 v2 : Value} {cs1 : Array Value} {os : List OpM} {op : OpM} {q : Int} (e0 : sliceE opE 5 (look W) os [v0]) (e1 : opE (look W) op cs1.toList) (e2 : u64E (look W) q [v2]) :
    Calls Try.prog 13 #[v0, .agg cs1, v2] W fun e w' => e = .returned (.bool true) ∧ Below W.heap.size W w' := by
  obtain ⟨_, hv0, e0⟩ := e0
  obtain rfl := (List.cons.inj hv0).1
  clear hv0
  obtain ⟨h2, a2, b2⟩ := e2
  obtain rfl : v2 = _ := List.cons.inj h2 |>.1
  clear h2
  obtain ⟨dv, hcs, rdv⟩ := e1
  obtain rfl : cs1 = (op.vals dv).toArray := by apply Array.ext'; simpa using hcs
  clear hcs
  obtain ⟨E, ec, rfl, rdv⟩ := rdv.open_
  have s0 := (Sat.start W).alloc (c := op.vals (.slice E op.data.length ec)) (t := 92)
  obtain ⟨X, hX⟩ : ∃ X, W.heap.size = X := ⟨_, rfl⟩
  rw [hX] at s0
  obtain ⟨kind, at', n, x, data, hk, ha, hn, hx⟩ := op
  simp only [OpM.vals] at *
  go_enter Try.func13, Try.ntmps13
  go_wp2_with fail
  refine c_ramAwake s0 ?_; intro w1 s1
  go_wp2_with fail
  refine c_played s1 e0 ?_ ?_
  · intro w2 H2 v2 m2 le r2 s2
    obtain ⟨B, n, c, rfl⟩ := r2.shape
    have s3 := s2.alloc (c := [.int .u64 8192, .slice B n c]) (t := 72)
    go_wp2
    go_ret
    exact ⟨rfl, hX ▸ s3.below⟩
  · intro w2 H2 v2 b r le hz r2 s2
    obtain ⟨B, n2, c, rfl⟩ := r2.shape
    have s3 := s2.alloc (c := [.int .u64 8192, .slice B n2 c]) (t := 72)
    go_wp2_with fail
    refine c_ramLoad1 s3 q 1 (by omega) (by omega) ?_
    obtain ⟨was, hwas⟩ : ∃ y, (if condS r.size 1 q then ofB (rdB r.mem q (1 : Int).toNat) else 0) = y := ⟨_, rfl⟩
    obtain ⟨had, hhad⟩ : ∃ y, decide (condS r.size 1 q) = y := ⟨_, rfl⟩
    rw [hwas, hhad]
    have y1 := s3.cel X 0 1 rfl
    have y2 := s3.cel X 0 2 rfl
    have y3 := s3.cel X 0 3 rfl
    simp only [Nat.zero_add] at y1 y2 y3
    replace hwas := aside hwas
    replace hhad := aside hhad
    go_wp2_with fail
    refine c_ramStore1 s3 at' n x ha hn hx ?_
    intro w4 r4 hm4 hz4 s4
    by_cases hc : condS r.size n at'
    · rw [decide_eq_true hc]
      rw [if_pos hc] at hm4
      have hn8 : 1 ≤ n ∧ n ≤ 8 := by have := hc.1; unfold sizedP at this; omega
      have y1 := s4.cel X 0 1 rfl
      have y2 := s4.cel X 0 2 rfl
      have y3 := s4.cel X 0 3 rfl
      simp only [Nat.zero_add] at y1 y2 y3
      clear s3 s2 s1 s0
      go_wp2_with fail
      refine c_ramLoad1 s4 q 1 (by omega) (by omega) ?_
      obtain ⟨now, hnow⟩ : ∃ y, (if condS r4.size 1 q then ofB (rdB r4.mem q (1 : Int).toNat) else 0) = y := ⟨_, rfl⟩
      rw [hnow, hz4, hhad.out]
      rw [hz4] at hnow
      replace hnow := aside hnow
      go_wp2_with fail
      refine c_ramLoad1 s4 at' n ha hn ?_
      rw [hz4, decide_eq_true hc, if_pos hc]
      obtain ⟨vv, hvv⟩ : ∃ y, ofB (rdB r4.mem at' n.toNat) = y := ⟨_, rfl⟩
      rw [hvv]
      replace hvv := aside hvv
      have evv : vv = x % 256 ^ n.toNat := by
        rw [← hvv.out, hm4]
        have h1 := rdB_putB r.mem at' (leb x n.toNat)
        rw [leb_len] at h1
        obtain ⟨k, rfl⟩ := Int.eq_ofNat_of_zero_le hx.1
        rw [h1, ofB_leb]; simp
      have hs4 : n = 1 ∨ n = 2 ∨ n = 4 ∨ n = 8 := hc.1
      replace hc := aside hc
      have hsame : (q < at' ∨ at' + n ≤ q) → now = was := fun h => by
        rw [← hnow.out, ← hwas.out]
        split
        · rw [show rdB r4.mem q (1 : Int).toNat = rdB r.mem q (1 : Int).toNat from by rw [hm4]; exact rdB_one_out _ _ _ _ (by rw [leb_len]; omega)]
        · rfl
      rcases hs4 with rfl | rfl | rfl | rfl
      · have hand : bits .and .u64 x 255 = vv := by rw [evv, show (255 : Int) = (2 : Int) ^ 8 - 1 by decide, and_pow x 8 (by omega) hx]; rfl
        replace evv := aside evv
        by_cases hin : at' ≤ q
        · by_cases hin2 : q - at' < 1
          · have ew : IntKind.u64.wrap (q - at') = q - at' := by rw [wrap_u64]; omega
            go_wp2
            go_quiet (fail)
            go_wp2
            first | (go_ret; exact ⟨rfl, hX ▸ (s4.drewN _).below⟩) | (go_quiet (fail); go_wp2; go_ret; simp only [World.drewN_drewN]; exact ⟨rfl, hX ▸ (s4.drewN _).below⟩)
          · have ew : IntKind.u64.wrap (q - at') = q - at' := by rw [wrap_u64]; omega
            have hin3 : 1 ≤ q - at' := by omega
            have hnw := hsame (.inr (by omega))
            have hnw2 : (now == was) = true := by simp [hnw]
            replace hnw := aside hnw
            clear hin2
            go_wp2
            go_quiet (fail)
            go_wp2
            first | (go_ret; exact ⟨rfl, hX ▸ (s4.drewN _).below⟩) | (go_quiet (fail); go_wp2; go_ret; simp only [World.drewN_drewN]; exact ⟨rfl, hX ▸ (s4.drewN _).below⟩)
        · have hin3 : q < at' := by omega
          have hnw := hsame (.inl hin3)
          have hnw2 : (now == was) = true := by simp [hnw]
          replace hnw := aside hnw
          clear hin
          go_wp2
          go_quiet (fail)
          go_wp2
          first | (go_ret; exact ⟨rfl, hX ▸ (s4.drewN _).below⟩) | (go_quiet (fail); go_wp2; go_ret; simp only [World.drewN_drewN]; exact ⟨rfl, hX ▸ (s4.drewN _).below⟩)
      · have hand : bits .and .u64 x 65535 = vv := by rw [evv, show (65535 : Int) = (2 : Int) ^ 16 - 1 by decide, and_pow x 16 (by omega) hx]; rfl
        replace evv := aside evv
        by_cases hin : at' ≤ q
        · by_cases hin2 : q - at' < 2
          · have ew : IntKind.u64.wrap (q - at') = q - at' := by rw [wrap_u64]; omega
            go_wp2
            go_quiet (fail)
            go_wp2
            first | (go_ret; exact ⟨rfl, hX ▸ (s4.drewN _).below⟩) | (go_quiet (fail); go_wp2; go_ret; simp only [World.drewN_drewN]; exact ⟨rfl, hX ▸ (s4.drewN _).below⟩)
          · have ew : IntKind.u64.wrap (q - at') = q - at' := by rw [wrap_u64]; omega
            have hin3 : 2 ≤ q - at' := by omega
            have hnw := hsame (.inr (by omega))
            have hnw2 : (now == was) = true := by simp [hnw]
            replace hnw := aside hnw
            clear hin2
            go_wp2
            go_quiet (fail)
            go_wp2
            first | (go_ret; exact ⟨rfl, hX ▸ (s4.drewN _).below⟩) | (go_quiet (fail); go_wp2; go_ret; simp only [World.drewN_drewN]; exact ⟨rfl, hX ▸ (s4.drewN _).below⟩)
        · have hin3 : q < at' := by omega
          have hnw := hsame (.inl hin3)
          have hnw2 : (now == was) = true := by simp [hnw]
          replace hnw := aside hnw
          clear hin
          go_wp2
          go_quiet (fail)
          go_wp2
          first | (go_ret; exact ⟨rfl, hX ▸ (s4.drewN _).below⟩) | (go_quiet (fail); go_wp2; go_ret; simp only [World.drewN_drewN]; exact ⟨rfl, hX ▸ (s4.drewN _).below⟩)
      · have hand : bits .and .u64 x 4294967295 = vv := by rw [evv, show (4294967295 : Int) = (2 : Int) ^ 32 - 1 by decide, and_pow x 32 (by omega) hx]; rfl
        replace evv := aside evv
        by_cases hin : at' ≤ q
        · by_cases hin2 : q - at' < 4
          · have ew : IntKind.u64.wrap (q - at') = q - at' := by rw [wrap_u64]; omega
            go_wp2
            go_quiet (fail)
            go_wp2
            first | (go_ret; exact ⟨rfl, hX ▸ (s4.drewN _).below⟩) | (go_quiet (fail); go_wp2; go_ret; simp only [World.drewN_drewN]; exact ⟨rfl, hX ▸ (s4.drewN _).below⟩)
          · have ew : IntKind.u64.wrap (q - at') = q - at' := by rw [wrap_u64]; omega
            have hin3 : 4 ≤ q - at' := by omega
            have hnw := hsame (.inr (by omega))
            have hnw2 : (now == was) = true := by simp [hnw]
            replace hnw := aside hnw
            clear hin2
            go_wp2
            go_quiet (fail)
            go_wp2
            first | (go_ret; exact ⟨rfl, hX ▸ (s4.drewN _).below⟩) | (go_quiet (fail); go_wp2; go_ret; simp only [World.drewN_drewN]; exact ⟨rfl, hX ▸ (s4.drewN _).below⟩)
        · have hin3 : q < at' := by omega
          have hnw := hsame (.inl hin3)
          have hnw2 : (now == was) = true := by simp [hnw]
          replace hnw := aside hnw
          clear hin
          go_wp2
          go_quiet (fail)
          go_wp2
          first | (go_ret; exact ⟨rfl, hX ▸ (s4.drewN _).below⟩) | (go_quiet (fail); go_wp2; go_ret; simp only [World.drewN_drewN]; exact ⟨rfl, hX ▸ (s4.drewN _).below⟩)
      · have p8 : (256 : Int) ^ 8 = 18446744073709551616 := by decide
        have e8 : vv = x := by rw [evv]; show x % (256 : Int) ^ 8 = x; rw [p8]; omega
        have hvx : (vv != x) = false := by simp [e8]
        replace e8 := aside e8
        replace evv := aside evv
        by_cases hin : at' ≤ q
        · by_cases hin2 : q - at' < 8
          · have ew : IntKind.u64.wrap (q - at') = q - at' := by rw [wrap_u64]; omega
            go_wp2
            go_quiet (fail)
            go_wp2
            first | (go_ret; exact ⟨rfl, hX ▸ (s4.drewN _).below⟩) | (go_quiet (fail); go_wp2; go_ret; simp only [World.drewN_drewN]; exact ⟨rfl, hX ▸ (s4.drewN _).below⟩)
          · have ew : IntKind.u64.wrap (q - at') = q - at' := by rw [wrap_u64]; omega
            have hin3 : 8 ≤ q - at' := by omega
            have hnw := hsame (.inr (by omega))
            have hnw2 : (now == was) = true := by simp [hnw]
            replace hnw := aside hnw
            clear hin2
            go_wp2
            go_quiet (fail)
            go_wp2
            first | (go_ret; exact ⟨rfl, hX ▸ (s4.drewN _).below⟩) | (go_quiet (fail); go_wp2; go_ret; simp only [World.drewN_drewN]; exact ⟨rfl, hX ▸ (s4.drewN _).below⟩)
        · have hin3 : q < at' := by omega
          have hnw := hsame (.inl hin3)
          have hnw2 : (now == was) = true := by simp [hnw]
          replace hnw := aside hnw
          clear hin
          go_wp2
          go_quiet (fail)
          go_wp2
          first | (go_ret; exact ⟨rfl, hX ▸ (s4.drewN _).below⟩) | (go_quiet (fail); go_wp2; go_ret; simp only [World.drewN_drewN]; exact ⟨rfl, hX ▸ (s4.drewN _).below⟩)
    · rw [decide_eq_false hc]
      go_wp2
      go_ret
      exact ⟨rfl, hX ▸ s4.below⟩
end Go.Proofs.Ytmdhhidcbcgbjaa
