/-
  BlkParses returns true for any bytes; no condition.
-/
import Derived.Test.YtippipfogbgemaaBf
import Derived.Test.YtippipfogbgemaaVc
import Derived.Deep.QuietTactic
import Derived.BigQuiet
import Derived.Laws.StructEq
namespace Go.Proofs.Ytippipfogbgemaa
open Go.RowKit
set_option linter.unusedVariables false
set_option linter.unusedSimpArgs false

set_option maxRecDepth 100000 in
set_option maxHeartbeats 4000000 in
theorem law_BlkParses (W : World) {v0 : Value} {ds : List Int} (e0 : sliceE u8E 1 (look W) ds [v0]) :
    Calls Try.prog 8 #[v0] W fun e w' => e = .returned (.bool true) ∧ Below W.heap.size W w' := by
  obtain ⟨_, hv0, e0⟩ := e0
  obtain rfl := (List.cons.inj hv0).1
  clear hv0
  replace e0 : Rd u8E 1 (look W) v0 ds := e0
  obtain ⟨D, dc, rfl, rd⟩ := e0.open_
  obtain ⟨hn, hcap, hcap2, g⟩ := rd.u8
  clear hn e0
  have hby := rd.bytes
  have s0 := Sat.start W
  obtain ⟨Q, hQ⟩ : ∃ Q, W.heap.size = Q := ⟨_, rfl⟩
  obtain ⟨N, hN⟩ : ∃ N, ds.length = N := ⟨_, rfl⟩
  rw [hN] at hcap rd ⊢
  have hN2 : (N : Int) ≤ 9223372036854775807 := by omega
  replace hby := aside hby
  replace g := aside g
  replace hN := aside hN
  replace rd := aside rd
  go_enter Try.func8, Try.ntmps8
  go_wp2_with fail
  refine c_blkAwake s0 ?_; intro wA s1
  go_wp2_with fail
  refine c_parse s1 (fun w' t => t.ro) rd.out ?_ ?_
  · intro hl w2 s2
    have hl2 : (N : Int) < 16 := by have := hN.out; omega
    have s3 := s2.alloc (c := [.int .u32 0, .int .u64 0]) (t := 79)
    obtain ⟨Y, hY⟩ : ∃ Y, w2.heap.size = Y := ⟨_, rfl⟩
    rw [hY] at s3
    have y0 := s3.cel Y 0 0 rfl
    have y1 := s3.cel Y 0 1 rfl
    simp only [Nat.zero_add] at y0 y1
    clear s0 s1 s2 hl
    go_wp2
    go_ret
    exact ⟨rfl, s3.below⟩
  · intro hl w2 s2
    have hl2 : ¬ ((N : Int) < 16) := by have := hN.out; omega
    have hl3 : 16 ≤ N := by omega
    obtain ⟨b, o, hBe, hrest⟩ := g.out 0 (by omega)
    clear hrest
    subst hBe
    have d1 := rd.out.cut8 0 4 (by omega) (by omega)
    have d2 := rd.out.cut8 8 16 (by omega) (by omega)
    simp only [Nat.sub_zero, Nat.add_zero, List.drop_zero] at d1 d2
    have hq1 := aside (show (ds.take 4).length ≤ 8 by rw [List.length_take]; omega)
    have hq2 := aside (show ((ds.take 16).drop 8).length ≤ 8 by rw [List.length_drop, List.length_take]; omega)
    have b1 := ofB_bd (l := ds.take 4) (fun x hx => hby.out x (List.mem_of_mem_take hx))
    rw [show (ds.take 4).length = 4 by rw [List.length_take]; omega] at b1
    obtain ⟨D1, hD1⟩ : ∃ y, ds.take 4 = y := ⟨_, rfl⟩
    obtain ⟨D2, hD2⟩ : ∃ y, (ds.take 16).drop 8 = y := ⟨_, rfl⟩
    rw [hD1] at d1 hq1 b1 ⊢
    rw [hD2] at d2 hq2 ⊢
    obtain ⟨x1, hx1⟩ : ∃ y, ofB D1 = y := ⟨_, rfl⟩
    obtain ⟨x2, hx2⟩ : ∃ y, ofB D2 = y := ⟨_, rfl⟩
    rw [hx1] at b1 ⊢
    rw [hx2]
    have e1 : IntKind.u64.wrap x1 = x1 := by rw [wrap_u64]; omega
    have i4 : (4 : Int) ≤ dc := by omega
    have i16 : (16 : Int) ≤ dc := by omega
    have k4 : 4 ≤ dc := by omega
    have k16 : 16 ≤ dc := by omega
    have n0 : ¬ dc = 0 := by omega
    have n8 : ¬ dc = 8 := by omega
    have s3 := s2.alloc (c := [.int .u32 x1, .int .u64 x2]) (t := 79)
    obtain ⟨Y, hY⟩ : ∃ Y, w2.heap.size = Y := ⟨_, rfl⟩
    rw [hY] at s3
    have y0 := s3.cel Y 0 0 rfl
    have y1 := s3.cel Y 0 1 rfl
    simp only [Nat.zero_add] at y0 y1
    clear s0 s1 s2 hl hl3 hD1 hD2 b1 g
    replace hx1 := aside hx1
    replace hx2 := aside hx2
    replace d1 := aside d1
    replace d2 := aside d2
    go_wp2
    go_quiet (first
      | (go_at_call 36; exact Calls.quiet_of_same (v := .int .u64 x1) (c_refOf (s3.drewN _).ro d1.out hq1.out (by rw [hx1.out]; exact ⟨rfl, rfl⟩)))
      | (go_at_call 36; exact Calls.quiet_of_same (v := .int .u64 x2) (c_refOf (s3.drewN _).ro d2.out hq2.out (by rw [hx2.out]; exact ⟨rfl, rfl⟩))))
    have s4 := s3.drewN nq
    clear s3 y0 y1
    go_wp2
    go_ret
    exact ⟨rfl, s4.below⟩
end Go.Proofs.Ytippipfogbgemaa
