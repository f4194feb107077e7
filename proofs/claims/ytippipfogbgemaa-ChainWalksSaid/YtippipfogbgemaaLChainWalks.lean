/-
  ChainWalks returns true for every memory, layout and head; no condition.
-/
import Derived.Test.YtippipfogbgemaaCf
import Derived.Test.YtippipfogbgemaaCk
import Derived.Test.YtippipfogbgemaaVh
import Derived.Test.YtippipfogbgemaaVy
namespace Go.Proofs.Ytippipfogbgemaa
open Go.RowKit
set_option linter.unusedVariables false
set_option linter.unusedSimpArgs false

set_option maxRecDepth 100000 in
set_option maxHeartbeats 4000000 in
theorem law_ChainWalks (W : World) {v0 : Value} {cs1 : Array Value} {ps : List PutM} {k : AskM} (e0 : sliceE putE 2 (look W) ps [v0]) (e1 : askE (look W) k cs1.toList) :
    Calls Try.prog 4 #[v0, .agg cs1] W fun e w' => e = .returned (.bool true) ∧ Below W.heap.size W w' := by
  obtain ⟨_, hv0, e0⟩ := e0
  obtain rfl := (List.cons.inj hv0).1
  clear hv0
  have e1q : cs1.toList = k.vals := e1
  obtain rfl : cs1 = k.vals.toArray := by apply Array.ext'; simpa using e1q
  clear e1 e1q
  obtain ⟨⟨n, d, a, u, hn, hd, ha, hu⟩, head, ind, hhead⟩ := k
  simp only [AskM.vals, LayM.vals, List.cons_append, List.nil_append]
  have s0 := (Sat.start W).alloc (c := [.int .i64 n, .int .u64 d, .int .u64 a, .int .u64 u, .int .i64 head, .bool ind]) (t := 48)
  obtain ⟨Z, hZ⟩ : ∃ Z, W.heap.size = Z := ⟨_, rfl⟩
  rw [hZ] at s0
  go_enter Try.func4, Try.ntmps4
  go_wp2_with fail
  refine c_chainAwake s0 ?_; intro wA s1
  go_wp2_with fail
  refine c_Memory s1 e0 ?_ ?_
  · intro wB H2 v2 m2 le r2 s2
    obtain ⟨B, n, c, rfl⟩ := r2.shapeM
    have s3 := s2.alloc (c := [.int .u64 8192, .slice B n c]) (t := 28)
    clear s0 s1 s2
    go_wp2
    go_ret
    exact ⟨rfl, hZ ▸ s3.below⟩
  · intro wB H2 v2 b r le hz rm s2
    obtain ⟨B, n0, c, rfl⟩ := rm.shapeM
    have s3 := s2.alloc (c := [.int .u64 8192, .slice B n0 c]) (t := 28)
    obtain ⟨Y, hY⟩ : ∃ Y, wB.heap.size = Y := ⟨_, rfl⟩
    rw [hY] at s3
    have y0 := s3.cel Y 0 0 rfl
    have y1 := s3.cel Y 0 1 rfl
    simp only [Nat.zero_add] at y0 y1
    have z0 := s3.cel Z 0 0 rfl
    have z1 := s3.cel Z 0 1 rfl
    have z2 := s3.cel Z 0 2 rfl
    have z3 := s3.cel Z 0 3 rfl
    have z4 := s3.cel Z 0 4 rfl
    have z5 := s3.cel Z 0 5 rfl
    simp only [Nat.zero_add] at z0 z1 z2 z3 z4 z5
    clear s1 s2 s0
    go_wp2_with fail
    refine c_refCheck s3 rm (by omega) n d a u hn hd ha hu ?_
    intro w4 s4
    by_cases hc : layP n d a u ∧ liesP 8192 n d a u
    · have hc0 : chk 8192 n d a u = 0 := by unfold chk; rw [if_pos hc.1, if_pos hc.2]
      rw [hc0]
      have hnb := powP_bd hc.1.1
      have z0 := s4.cel Z 0 0 rfl
      have z1 := s4.cel Z 0 1 rfl
      have z2 := s4.cel Z 0 2 rfl
      have z3 := s4.cel Z 0 3 rfl
      have z4 := s4.cel Z 0 4 rfl
      have z5 := s4.cel Z 0 5 rfl
      simp only [Nat.zero_add] at z0 z1 z2 z3 z4 z5
      replace hz := aside hz
      replace hY := aside hY
      clear s3 hc hc0
      obtain ⟨N, rfl⟩ : ∃ N : Nat, n = N := ⟨n.toNat, by omega⟩
      have hN : N ≤ 256 := by omega
      go_wp2_with fail
      refine c_walk s4 N d a u head ind hN hd hhead ?_
      intro e segs ta tl hW w6 v6 h6 l6 own6 hx6 s6
      obtain rfl := hx6.none
      rw [hz.out] at hW
      have rd := own6.rdG
      obtain ⟨A1, c1, rfl, rd⟩ := rd.open_
      have s7 := s6.alloc (c := [.slice A1 segs.length c1, .int .u64 ta, .int .u64 tl]) (t := 56)
      obtain ⟨X, hX⟩ : ∃ X, w6.heap.size = X := ⟨_, rfl⟩
      rw [hX] at s7
      have z0 := s7.cel Z 0 0 rfl
      have z1 := s7.cel Z 0 1 rfl
      have z2 := s7.cel Z 0 2 rfl
      have z3 := s7.cel Z 0 3 rfl
      have z4 := s7.cel Z 0 4 rfl
      have z5 := s7.cel Z 0 5 rfl
      simp only [Nat.zero_add] at z0 z1 z2 z3 z4 z5
      have y0 := s7.cel Y 0 0 rfl
      have y1 := s7.cel Y 0 1 rfl
      simp only [Nat.zero_add] at y0 y1
      clear s4 s6 hx6 own6
      replace hW := aside hW
      replace rd := aside rd
      go_wp2_with fail
      refine c_refWalk s7 rm (by omega) (by omega) N d a u head ind hN hd hhead ?_
      intro e2 segs2 ta2 tl2 hW2 w8 B2 n2 c2 h8 own8 s8
      obtain ⟨rfl, rfl, rfl, rfl⟩ : e = e2 ∧ segs = segs2 ∧ ta = ta2 ∧ tl = tl2 := by
        have := hW.out.symm.trans hW2
        simpa using this
      have rd8 := own8.rdG
      have s9 := s8.alloc (c := [.slice B2 n2 c2, .int .u64 ta, .int .u64 tl]) (t := 60)
      obtain ⟨V, hV⟩ : ∃ V, w8.heap.size = V := ⟨_, rfl⟩
      rw [hV] at s9
      have x0 := s9.cel X 0 0 rfl
      have x1 := s9.cel X 0 1 rfl
      have x2 := s9.cel X 0 2 rfl
      simp only [Nat.zero_add] at x0 x1 x2
      have v0 := s9.cel V 0 0 rfl
      have v1 := s9.cel V 0 1 rfl
      have v2 := s9.cel V 0 2 rfl
      simp only [Nat.zero_add] at v0 v1 v2
      clear s7 s8 own8 hW2
      replace rd8 := aside rd8
      have he : (e == e) = true := by simp
      go_wp2_with fail
      refine c_is s9 (fun w' t => ⟨h6, h8, (Sat.pull (h := h6) t).head, (Sat.pull (h := h8) t).head, rd.out, rd8.out⟩) ?_
      intro wC sC
      clear s9
      go_wp2
      go_ret
      exact ⟨rfl, hZ ▸ sC.below⟩
    · have hc0 : (chk 8192 n d a u != 0) = true := by
        unfold chk
        by_cases h1 : layP n d a u
        · rw [if_pos h1, if_neg (fun h => hc ⟨h1, h⟩)]; rfl
        · rw [if_neg h1]; rfl
      generalize chk 8192 n d a u = ch at hc0 ⊢
      clear hc
      go_wp2
      go_ret
      exact ⟨rfl, hZ ▸ s4.below⟩
end Go.Proofs.Ytippipfogbgemaa
