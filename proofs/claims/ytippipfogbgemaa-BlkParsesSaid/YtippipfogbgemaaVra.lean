/-
  RING: areas, powers, descriptors: contracts over 'Sat'.
-/
import Derived.Test.YtippipfogbgemaaVe
namespace Go.Proofs.Ytippipfogbgemaa
open Go.RowKit
set_option linter.unusedVariables false

section
variable {R : Ending → World → Prop} {W0 w : World} {H : Hp} {A : List Hp}

theorem c_Areas (s : Sat W0 w H A) (n d a u : Int) (h : 0 ≤ n ∧ n ≤ 1048576)
    (k : ∀ w', Sat W0 w' H A → R (.returned (.agg #[.int .u64 d, .int .u64 (16*n), .int .u64 a, .int .u64 (2*n+6), .int .u64 u, .int .u64 (8*n+6)])) w') :
    Calls Try.prog 130 #[.agg #[.int .i64 n, .int .u64 d, .int .u64 a, .int .u64 u]] w R := by
  go_enter Try.func130, Try.ntmps130
  go_wp2
  refine bodyPost_ret (v := .agg #[.int .u64 d, .int .u64 (16*n), .int .u64 a, .int .u64 (2*n+6), .int .u64 u, .int .u64 (8*n+6)]) (by simp [results, Try.results130, go_sem]; omega) rfl (k _ ?_)
  exact ((s.grow ((Below.refl _ _).alloc (Nat.le_refl _) _)).grow ((Below.refl _ _).alloc (Nat.le_refl _) _))

theorem c_Power4 (k : R (.returned (.bool true)) w) : Calls Try.prog 129 #[.int .i64 4] w R := by
  go_enter Try.func129, Try.ntmps129
  go_wp2
  exact k
end

structure DescM where
  addr : Int
  len : Int
  flags : Int
  next : Int
  ha : 0 ≤ addr ∧ addr ≤ 18446744073709551615
  hl : 0 ≤ len ∧ len ≤ 4294967295
  hf : 0 ≤ flags ∧ flags ≤ 65535
  hn : 0 ≤ next ∧ next ≤ 65535
def DescM.vals (d : DescM) : List Value := [.int .u64 d.addr, .int .u32 d.len, .int .u16 d.flags, .int .u16 d.next]
def DescM.bytes (d : DescM) : List Int := leb d.addr 8 ++ leb d.len 4 ++ leb d.flags 2 ++ leb d.next 2
theorem DescM.bytes_bd (d : DescM) : ∀ y ∈ d.bytes, 0 ≤ y ∧ y ≤ 255 := by
  intro y hy
  simp only [DescM.bytes, List.mem_append] at hy
  rcases hy with ((h | h) | h) | h <;> exact leb_bd _ _ y h
def descE : El DescM := fun _ d vs => vs = d.vals

section
variable {R : Ending → World → Prop} {W0 w : World} {H : Hp} {A : List Hp}

theorem rowR_owned {w : World} {W0 : World} {H : Hp} {A F : List Hp} {X : Option Addr} {n cap : Nat} {xs : List Int} {h : Hp} (own : OwnS 1 (.slice X n cap) n (xs.map (Value.int .u8)) h) (s : Sat W0 w H A) [fr : FrH h A F] : RowR w X (xs.map (Value.int .u8)) := by
  have := own.row0 (s.pull.each h (List.mem_cons_self ..)).1 n
  obtain ⟨_, _, _, e, _, _, hl, _⟩ := own
  injection e with _ e1
  rw [List.take_of_length_le (by simpa using Nat.le_of_eq hl)] at this
  exact this
end
end Go.Proofs.Ytippipfogbgemaa
