/-
  QUEUE: Reset; three numbers as an argument.
-/
import Derived.Test.YtiibiamobkhlbaaG7
import Derived.Test.YtiibiamobkhlbaaUVar
set_option linter.unusedVariables false
set_option linter.unusedSimpArgs false
namespace Go.Proofs.Ytiibiamobkhlbaa
open Go.RowKit Go.WideShapes Go.ChangeShapes Go.ChangeAt
set_option linter.unusedVariables false
set_option linter.unusedSimpArgs false

def triE : El (Int × Int × Int) := fun _ p vs => vs = [.int .u32 p.1, .int .u32 p.2.1, .int .u32 p.2.2] ∧ (0 ≤ p.1 ∧ p.1 ≤ 4294967295) ∧ (0 ≤ p.2.1 ∧ p.2.1 ≤ 4294967295) ∧ 0 ≤ p.2.2 ∧ p.2.2 ≤ 4294967295
set_option maxRecDepth 100000 in
theorem opn_tri : Opn Try.prog 90 triE :=
  opn_array Try.underlying90 fun H enc w fuel cs hlen hf => by
    have e : Try.prog.cellsOf 90 = 3 := by kernel_rfl
    have e0 : Try.prog.cellsOf 51 = 1 := by kernel_rfl
    obtain ⟨y0, h0⟩ := hf 0 (by omega)
    obtain ⟨y1, h1⟩ := hf 1 (by omega)
    obtain ⟨y2, h2⟩ := hf 2 (by omega)
    obtain ⟨x0, g0, b0⟩ := opn_u32 Try.underlying51 H enc w fuel _ y0.1 y0.2 h0
    obtain ⟨x1, g1, b1⟩ := opn_u32 Try.underlying51 H enc w fuel _ y1.1 y1.2 h1
    obtain ⟨x2, g2, b2⟩ := opn_u32 Try.underlying51 H enc w fuel _ y2.1 y2.2 h2
    rw [e] at hlen
    rw [e0] at g0 g1 g2
    obtain ⟨c0, c1, c2, rfl⟩ := len3 hlen
    obtain rfl : c0 = .int .u32 x0 := (List.cons.inj g0).1
    obtain rfl : c1 = .int .u32 x1 := (List.cons.inj g1).1
    obtain rfl : c2 = .int .u32 x2 := (List.cons.inj g2).1
    exact ⟨(x0, x1, x2), rfl, b0, b1, b2⟩

def zeroQ : List Value := [.int .i64 0, .int .u64 0, .int .u64 0, .int .u64 0, .bool false, .int .u16 0, .int .u16 0, .bool false, .bool false]
section
variable {R : Ending → World → Prop} {W0 w : World} {H : Hp} {A F : List Hp} {b qb qo : Nat}
set_option maxRecDepth 100000 in
set_option maxHeartbeats 4000000 in
theorem c_qReset (q : QuM) (s : Sat W0 w H (cellsH ⟨qb, qo, none⟩ q.vals :: F))
    (k : ∀ w', Sat W0 w' H (cellsH ⟨qb, qo, none⟩ zeroQ :: F) → R (.returned (.tuple #[])) w') :
    Calls Try.prog 41 #[.pointer (some ⟨qb, qo, none⟩)] w R := by
  have y0 := s.c0
  have y1 := s.c 1 rfl
  have y2 := s.c 2 rfl
  have y3 := s.c 3 rfl
  have y4 := s.c 4 rfl
  have y5 := s.c 5 rfl
  have y6 := s.c 6 rfl
  have y7 := s.c 7 rfl
  have y8 := s.c 8 rfl
  have s1 : Sat W0 _ H (cellsH ⟨qb, qo, none⟩ [.int .i64 q.n, .int .u64 q.d, .int .u64 q.a, .int .u64 q.u, .bool q.rdy, .int .u16 q.fet, .int .u16 q.us, .bool q.ev, .bool q.ind] :: F) := s
  have s2q0 := s1.c 0 rfl
  have s2t0 := s1.s0 (.int .i64 0)
  have s2q1 := s2t0.c 1 rfl
  have s2t1 := s2t0.s 1 (by simp) (.int .u64 0)
  have s2q2 := s2t1.c 2 rfl
  have s2t2 := s2t1.s 2 (by simp) (.int .u64 0)
  have s2q3 := s2t2.c 3 rfl
  have s2t3 := s2t2.s 3 (by simp) (.int .u64 0)
  have s2q4 := s2t3.c 4 rfl
  have s2t4 := s2t3.s 4 (by simp) (.bool false)
  have s2q5 := s2t4.c 5 rfl
  have s2t5 := s2t4.s 5 (by simp) (.int .u16 0)
  have s2q6 := s2t5.c 6 rfl
  have s2t6 := s2t5.s 6 (by simp) (.int .u16 0)
  have s2q7 := s2t6.c 7 rfl
  have s2t7 := s2t6.s 7 (by simp) (.bool false)
  have s2q8 := s2t7.c 8 rfl
  have s2 := s2t7.s 8 (by simp) (.bool false)
  simp only [List.set_cons_succ, List.set_cons_zero, Nat.zero_add] at s2 s2q0 s2q1 s2q2 s2q3 s2q4 s2q5 s2q6 s2q7 s2q8
  replace k := aside k
  clear s1
  go_enter Try.func41, Try.ntmps41
  go_wp2
  go_end0
  exact k.out _ s2
end
end Go.Proofs.Ytiibiamobkhlbaa
