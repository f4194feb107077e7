/-
  RingDescs returns true for every memory, table and number; no condition.
-/
import Derived.Test.YtohccblfnjampaaVl
namespace Go.Proofs.Ytohccblfnjampaa
open Go.RowKit
set_option linter.unusedVariables false

theorem desc_bytes {m : Int → Int} (hm : ∀ a, 0 ≤ m a ∧ m a ≤ 255) (a : Int) : leb (w1 m a) 8 ++ leb (w2 m a) 4 ++ leb (w3 m a) 2 ++ leb (w4 m a) 2 = rdB m a 16 := by
  have e1 := leb_ofB (rdB m a 8) (rdB_bd hm _ _)
  have e2 := leb_ofB (rdB m (a + 8) 4) (rdB_bd hm _ _)
  have e3 := leb_ofB (rdB m (a + 12) 2) (rdB_bd hm _ _)
  have e4 := leb_ofB (rdB m (a + 14) 2) (rdB_bd hm _ _)
  rw [rdB_len] at e1 e2 e3 e4
  simp only [w1, w2, w3, w4]
  rw [e1, e2, e3, e4]
  have f1 := rdB_app m a 14 2
  have f2 := rdB_app m a 12 2
  have f3 := rdB_app m a 8 4
  rw [show (16 : Nat) = 14 + 2 from rfl, f1, show (14 : Nat) = 12 + 2 from rfl, f2, show (12 : Nat) = 8 + 4 from rfl, f3]
  rfl

set_option maxRecDepth 100000 in
set_option maxHeartbeats 4000000 in
theorem law_RingDescs (W : World) {v0 v1 v2 : Value} {ps : List PutM} {t i : Int} (e0 : sliceE putE 2 (look W) ps [v0]) (e1 : u64E (look W) t [v1]) (e2 : intE (look W) i [v2]) :
    Calls Try.prog 8 #[v0, v1, v2] W fun e w' => e = .returned (.bool true) ∧ Below W.heap.size W w' := by
  obtain ⟨_, hv0, e0⟩ := e0
  obtain rfl := (List.cons.inj hv0).1
  clear hv0
  obtain ⟨h1, a1, b1⟩ := e1
  obtain rfl : v1 = _ := List.cons.inj h1 |>.1
  clear h1
  obtain ⟨h2, a2, b2⟩ := e2
  obtain rfl : v2 = _ := List.cons.inj h2 |>.1
  clear h2
  obtain ⟨a, ha⟩ : ∃ a, IntKind.u64.wrap (t + IntKind.u64.wrap (16 * IntKind.u64.wrap i)) = a := ⟨_, rfl⟩
  have hab : 0 ≤ a ∧ a ≤ 18446744073709551615 := by rw [← ha, wrap_u64]; omega
  go_enter Try.func8, Try.ntmps8
  go_wp2_with fail
  refine c_ringAwake (Sat.start W) ?_; intro w1' s1
  go_wp2_with fail
  refine c_Memory s1 e0 ?_ ?_
  · intro w2' H2 v2 m2 le r2 s2
    obtain ⟨B, n, c, rfl⟩ := r2.shapeM
    have s3 := s2.alloc (c := [.int .u64 8192, .slice B n c]) (t := 62)
    go_wp2
    go_ret
    exact ⟨rfl, s3.below⟩
  · intro w2' H2 v2 b r le hz rm s2
    obtain ⟨B, n, c, rfl⟩ := rm.shapeM
    have s3 := s2.alloc (c := [.int .u64 8192, .slice B n c]) (t := 62)
    obtain ⟨X, hX⟩ : ∃ X, w2'.heap.size = X := ⟨_, rfl⟩
    rw [hX] at s3
    have hmb := r.hmem
    clear s1 s2
    go_wp2_with fail
    try simp only [hX]
    generalize hW3 : World.alloc w2' _ = w3' at s3 ⊢
    refine c_ringDesc s3 t i a ⟨a1, b1⟩ ⟨a2, b2⟩ ha.symm ?_ ?_
    · intro hno w4' s4
      rw [hz] at hno
      have s5 := s4.alloc (c := [.int .u64 0, .int .u32 0, .int .u16 0, .int .u16 0]) (t := 87)
      obtain ⟨Y, hY⟩ : ∃ Y, w4'.heap.size = Y := ⟨_, rfl⟩
      rw [hY] at s5
      have y0 := s5.cel X 0 0 rfl
      have y1 := s5.cel X 0 1 rfl
      simp only [Nat.zero_add] at y0 y1
      clear s3 hW3
      go_wp2_with fail
      try simp only [hY]
      generalize hW5 : World.alloc w4' _ = w5' at s5 y0 y1 ⊢
      refine c_refDesc s5 rm (by omega) (by omega) t i a ⟨a1, b1⟩ ⟨a2, b2⟩ ha.symm ?_ (fun h => absurd h hno)
      intro _ w6' s6
      have z0 := s6.cel Y 0 0 rfl
      have z1 := s6.cel Y 0 1 rfl
      have z2 := s6.cel Y 0 2 rfl
      have z3 := s6.cel Y 0 3 rfl
      simp only [Nat.zero_add] at z0 z1 z2 z3
      have s7 := s6.alloc (c := [.int .u64 0, .int .u32 0, .int .u16 0, .int .u16 0]) (t := 87)
      have z0 := s7.cel Y 0 0 rfl
      have z1 := s7.cel Y 0 1 rfl
      have z2 := s7.cel Y 0 2 rfl
      have z3 := s7.cel Y 0 3 rfl
      simp only [Nat.zero_add] at z0 z1 z2 z3
      clear s5 hW5 s4 y0 y1
      go_wp2
      go_ret
      exact ⟨rfl, s7.below⟩
    · intro hyes w4' s4
      rw [hz] at hyes
      have x1b := ofB_bdn hmb a 8
      have x2b := ofB_bdn hmb (a + 8) 4
      have x3b := ofB_bdn hmb (a + 12) 2
      have x4b := ofB_bdn hmb (a + 14) 2
      have hby := desc_bytes hmb a
      obtain ⟨x1, hx1⟩ : ∃ x, w1 r.mem a = x := ⟨_, rfl⟩
      obtain ⟨x2, hx2⟩ : ∃ x, w2 r.mem a = x := ⟨_, rfl⟩
      obtain ⟨x3, hx3⟩ : ∃ x, w3 r.mem a = x := ⟨_, rfl⟩
      obtain ⟨x4, hx4⟩ : ∃ x, w4 r.mem a = x := ⟨_, rfl⟩
      rw [show ofB (rdB r.mem a 8) = x1 from hx1] at x1b
      rw [show ofB (rdB r.mem (a + 8) 4) = x2 from hx2] at x2b
      rw [show ofB (rdB r.mem (a + 12) 2) = x3 from hx3] at x3b
      rw [show ofB (rdB r.mem (a + 14) 2) = x4 from hx4] at x4b
      rw [hx1, hx2, hx3, hx4] at hby ⊢
      obtain ⟨d, hd⟩ : ∃ d : DescM, d = ⟨x1, x2, x3, x4, by omega, by omega, by omega, by omega⟩ := ⟨_, rfl⟩
      have hdb : d.bytes = rdB r.mem a 16 := by rw [hd]; exact hby
      have d1 : d.addr = x1 := by rw [hd]
      have d2 : d.len = x2 := by rw [hd]
      have d3 : d.flags = x3 := by rw [hd]
      have d4 : d.next = x4 := by rw [hd]
      replace hx1 := aside hx1
      replace hx2 := aside hx2
      replace hx3 := aside hx3
      replace hx4 := aside hx4
      replace hdb := aside hdb
      replace d1 := aside d1
      replace d2 := aside d2
      replace d3 := aside d3
      replace d4 := aside d4
      replace hyes := aside hyes
      have s5 := s4.alloc (c := [.int .u64 x1, .int .u32 x2, .int .u16 x3, .int .u16 x4]) (t := 87)
      obtain ⟨Y, hY⟩ : ∃ Y, w4'.heap.size = Y := ⟨_, rfl⟩
      rw [hY] at s5
      have y0 := s5.cel X 0 0 rfl
      have y1 := s5.cel X 0 1 rfl
      simp only [Nat.zero_add] at y0 y1
      clear s3 hW3 x1b x2b x3b x4b hby hd
      go_wp2_with fail
      try simp only [hY]
      generalize hW5 : World.alloc w4' _ = w5' at s5 y0 y1 ⊢
      refine c_refDesc s5 rm (by omega) (by omega) t i a ⟨a1, b1⟩ ⟨a2, b2⟩ ha.symm (fun h => absurd hyes.out h) ?_
      intro _ w6' s6
      rw [hx1.out, hx2.out, hx3.out, hx4.out]
      have y0 := s6.cel X 0 0 rfl
      have y1 := s6.cel X 0 1 rfl
      have z0 := s6.cel Y 0 0 rfl
      have z1 := s6.cel Y 0 1 rfl
      have z2 := s6.cel Y 0 2 rfl
      have z3 := s6.cel Y 0 3 rfl
      simp only [Nat.zero_add] at y0 y1 z0 z1 z2 z3
      have s7 := s6.alloc (c := [.int .u64 x1, .int .u32 x2, .int .u16 x3, .int .u16 x4]) (t := 87)
      obtain ⟨Q, hQ⟩ : ∃ Q, w6'.heap.size = Q := ⟨_, rfl⟩
      rw [hQ] at s7
      have y0 := s7.cel X 0 0 rfl
      have y1 := s7.cel X 0 1 rfl
      have z0 := s7.cel Y 0 0 rfl
      have z1 := s7.cel Y 0 1 rfl
      have z2 := s7.cel Y 0 2 rfl
      have z3 := s7.cel Y 0 3 rfl
      simp only [Nat.zero_add] at y0 y1 z0 z1 z2 z3
      clear s5 hW5 s4
      go_wp2_with fail
      try simp only [hQ]
      generalize hW7 : World.alloc w6' _ = w7' at s7 ⊢
      refine c_refRead s7 rm (by omega) (by omega) a 16 hab (by omega) (fun h => absurd hyes.out.2.2 h) ?_
      intro _ w8' v8 h8 own8 s8
      have rd8 := own8.rd (rdB_bd rm.bd _ _)
      have z0 := s8.cel Y 0 0 rfl
      have z1 := s8.cel Y 0 1 rfl
      have z2 := s8.cel Y 0 2 rfl
      have z3 := s8.cel Y 0 3 rfl
      simp only [Nat.zero_add] at z0 z1 z2 z3
      clear s7 hW7 s6 y0 y1
      go_wp2_with fail
      have CB := fun RR k => c_ringBytes (R := RR) s8 d k
      rw [d1.out, d2.out, d3.out, d4.out] at CB
      refine CB _ ?_
      intro w9' v9 h9 own9 s9
      have rd9 := own9.rd d.bytes_bd
      rw [hdb.out] at rd9
      go_wp2_with fail
      refine c_Bytes (Sat.pull (h := h9) s9).head (Sat.pull (h := h8) s9).head rd9 rd8 ?_
      intro n10
      rw [decide_eq_true (show rdB r.mem a 16 = rdB r.mem a (16 : Int).toNat from rfl)]
      go_wp2
      go_ret
      exact ⟨rfl, (s9.drewN n10).below⟩
end Go.Proofs.Ytohccblfnjampaa
