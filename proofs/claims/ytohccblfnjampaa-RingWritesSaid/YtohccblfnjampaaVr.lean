/-
  RING: areas, powers, descriptors' bytes: contracts over 'Sat'.
-/
import Derived.Test.YtohccblfnjampaaVe
namespace Go.Proofs.Ytohccblfnjampaa
open Go.RowKit
set_option linter.unusedVariables false

section
variable {R : Ending → World → Prop} {W0 w : World} {H : Hp} {A : List Hp}

theorem c_Areas (s : Sat W0 w H A) (n d a u : Int) (h : 0 ≤ n ∧ n ≤ 1048576)
    (k : ∀ w', Sat W0 w' H A → R (.returned (.agg #[.int .u64 d, .int .u64 (16*n), .int .u64 a, .int .u64 (2*n+6), .int .u64 u, .int .u64 (8*n+6)])) w') :
    Calls Try.prog 80 #[.agg #[.int .i64 n, .int .u64 d, .int .u64 a, .int .u64 u]] w R := by
  go_enter Try.func80, Try.ntmps80
  go_wp2
  refine bodyPost_ret (v := .agg #[.int .u64 d, .int .u64 (16*n), .int .u64 a, .int .u64 (2*n+6), .int .u64 u, .int .u64 (8*n+6)]) (by simp [results, Try.results80, go_sem]; omega) rfl (k _ ?_)
  exact ((s.grow ((Below.refl _ _).alloc (Nat.le_refl _) _)).grow ((Below.refl _ _).alloc (Nat.le_refl _) _))

theorem c_Power4 (k : R (.returned (.bool true)) w) : Calls Try.prog 81 #[.int .i64 4] w R := by
  go_enter Try.func81, Try.ntmps81
  go_wp2
  exact k

theorem c_ringAwake (s : Sat W0 w H A) (k : ∀ w', Sat W0 w' H A → R (.returned (.bool true)) w') :
    Calls Try.prog 27 #[] w R := by
  go_enter Try.func27, Try.ntmps27
  go_wp2_with (first
    | (go_at_call 80; refine c_Areas s _ _ _ _ (by omega) ?_; intro w1 s1)
    | (go_at_call 81; refine c_Power4 ?_))
  exact s1.grow ((Below.refl _ _).alloc (Nat.le_refl _) _)
end

structure DescM where
  addr : Int
  len : Int
  flags : Int
  next : Int
  ha : 0 ≤ addr ∧ addr ≤ 18446744073709551615
  hl : 0 ≤ len ∧ len ≤ 4294967295
  hf : 0 ≤ flags ∧ flags ≤ 65535
  hn : 0 ≤ next ∧ next ≤ 65535
def DescM.vals (d : DescM) : List Value := [.int .u64 d.addr, .int .u32 d.len, .int .u16 d.flags, .int .u16 d.next]
def DescM.bytes (d : DescM) : List Int := leb d.addr 8 ++ leb d.len 4 ++ leb d.flags 2 ++ leb d.next 2
theorem DescM.bytes_bd (d : DescM) : ∀ y ∈ d.bytes, 0 ≤ y ∧ y ≤ 255 := by
  intro y hy
  simp only [DescM.bytes, List.mem_append] at hy
  rcases hy with ((h | h) | h) | h <;> exact leb_bd _ _ y h
def descE : El DescM := fun _ d vs => vs = d.vals

section
variable {R : Ending → World → Prop} {W0 w : World} {H : Hp} {A : List Hp}

theorem rowR_owned {w : World} {W0 : World} {H : Hp} {A F : List Hp} {X : Option Addr} {n cap : Nat} {xs : List Int} {h : Hp} (own : OwnS 1 (.slice X n cap) n (xs.map (Value.int .u8)) h) (s : Sat W0 w H A) [fr : FrH h A F] : RowR w X (xs.map (Value.int .u8)) := by
  have := own.row0 (s.pull.each h (List.mem_cons_self ..)).1 n
  obtain ⟨_, _, _, e, _, _, hl, _⟩ := own
  injection e with _ e1
  rw [List.take_of_length_le (by simpa using Nat.le_of_eq hl)] at this
  exact this

set_option maxRecDepth 100000 in
set_option maxHeartbeats 4000000 in
theorem c_ringBytes (s : Sat W0 w H A) (d : DescM) (k : ∀ w' v h', OwnS 1 v 16 (d.bytes.map (Value.int .u8)) h' → Sat W0 w' H (h' :: A) → R (.returned v) w') :
    Calls Try.prog 51 #[.agg #[.int .u64 d.addr, .int .u32 d.len, .int .u16 d.flags, .int .u16 d.next]] w R := by
  obtain ⟨a, l, f, n, ha, hl, hf, hn⟩ := d
  simp only [DescM.bytes] at k
  have s1 := s.alloc (c := [.int .u64 a, .int .u32 l, .int .u16 f, .int .u16 n]) (t := 87)
  have c0 := s1.cel w.heap.size 0 0 rfl
  go_enter Try.func51, Try.ntmps51
  go_wp2_with fail
  refine c_wordBytes s1 a ha 8 8 rfl (by omega) ?_
  intro w1 v1 h1 o1 s2
  have c1 := s2.cel w.heap.size 0 1 rfl
  clear c0
  go_wp2_with fail
  refine c_wordBytes s2 l (by omega) 4 4 rfl (by omega) ?_
  intro w2 v2 h2 o2 s3
  clear c1
  obtain ⟨X, cp, _, rfl, _⟩ := id o2
  go_wp2_with (at_builtin; refine append8 rfl (.tmp 7) (.tmp 11) rfl rfl o1 s3 rfl (leb l 4) (leb_len _ _) (rowR_owned o2 s3) (by omega) ?_; intro A2 cap2 w3 h3 o3 s4; have c2 := s4.cel w.heap.size 0 2 rfl)
  refine c_wordBytes s4 f (by omega) 2 2 rfl (by omega) ?_
  intro w4 v4 h4 o4 s5
  clear c2
  obtain ⟨X4, cp4, _, rfl, _⟩ := id o4
  go_wp2_with (at_builtin; refine append8 rfl (.tmp 13) (.tmp 17) rfl rfl o3 s5 rfl (leb f 2) (leb_len _ _) (rowR_owned o4 s5) (by omega) ?_; intro A5 cap5 w5 h5 o5 s6; have c3 := s6.cel w.heap.size 0 3 rfl)
  refine c_wordBytes s6 n (by omega) 2 2 rfl (by omega) ?_
  intro w6 v6 h6 o6 s7
  clear c3
  obtain ⟨X6, cp6, _, rfl, _⟩ := id o6
  go_wp2_with (at_builtin; refine append8 rfl (.tmp 19) (.tmp 23) rfl rfl o5 s7 rfl (leb n 2) (leb_len _ _) (rowR_owned o6 s7) (by omega) ?_; intro A8 cap8 w8 h8 o8 s8)
  exact k _ _ h8 (by simpa using o8) s8.wk
end
end Go.Proofs.Ytohccblfnjampaa
