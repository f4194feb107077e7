/-
  DISK's laws: a call (vireolaw13.Op) as it lies; over, small; is it as the document's (Same)?
-/
import Derived.Test.YtohccblfnjampaaVef
import Derived.Test.YtohccblfnjampaaVc
import Derived.Deep.RegionHeld3
namespace Go.Proofs.Ytohccblfnjampaa
open Go.RowKit
set_option linter.unusedVariables false

structure OpD where
  kind : Int
  at' : Int
  n : Int
  data : List Int
  hk : -9223372036854775808 ≤ kind ∧ kind ≤ 9223372036854775807
  ha : 0 ≤ at' ∧ at' ≤ 18446744073709551615
  hn : -9223372036854775808 ≤ n ∧ n ≤ 9223372036854775807
def OpD.vals (o : OpD) (dv : Value) : List Value := [.int .i64 o.kind, .int .u64 o.at', .int .i64 o.n, dv]
def opdE : El OpD := fun h o vs => ∃ dv, vs = o.vals dv ∧ Rd u8E 1 h dv o.data
theorem opdE_mono : ElMono opdE := fun _ _ _ _ le ⟨dv, h1, h2⟩ => ⟨dv, h1, h2.mono u8E_mono le⟩

theorem opn_opd : Opn Try.prog 71 opdE :=
  opn_struct Try.underlying71 fun H enc w fuel cs hlen hf => by
    obtain ⟨y0, h0⟩ := hf 0 _ rfl
    obtain ⟨y1, h1⟩ := hf 1 _ rfl
    obtain ⟨y2, h2⟩ := hf 2 _ rfl
    obtain ⟨y3, h3⟩ := hf 3 _ rfl
    obtain ⟨a, ha, ha1⟩ := opn_i64 Try.underlying3 H enc w fuel _ y0.1 y0.2 h0
    obtain ⟨l, hl, hl1⟩ := opn_u64 Try.underlying28 H enc w fuel _ y1.1 y1.2 h1
    obtain ⟨f, hff, hf1⟩ := opn_i64 Try.underlying3 H enc w fuel _ y2.1 y2.2 h2
    obtain ⟨d, hd⟩ := opn_slice (size := 1) Try.underlying34 (by kernel_rfl) (by decide) (opn_u8 Try.underlying5) H enc w fuel _ y3.1 y3.2 h3
    have e : Try.prog.cellsOf 71 = 4 := by kernel_rfl
    have e1 : Try.prog.cellsOf 28 = 1 := by kernel_rfl
    have e2 : Try.prog.cellsOf 3 = 1 := by kernel_rfl
    have e3 : Try.prog.cellsOf 34 = 1 := by kernel_rfl
    rw [e] at hlen
    obtain ⟨c0, c1, c2, c3, rfl⟩ := len4 hlen
    rw [e2] at ha hff
    rw [e1] at hl
    rw [e3] at hd
    obtain rfl : c0 = .int .i64 a := (List.cons.inj ha).1
    obtain rfl : c1 = .int .u64 l := (List.cons.inj hl).1
    obtain rfl : c2 = .int .i64 f := (List.cons.inj hff).1
    obtain ⟨dv, hdv, hrd⟩ := hd
    obtain rfl : c3 = dv := (List.cons.inj hdv).1
    exact ⟨⟨a, l, f, d, ha1, hl1, hf1⟩, _, rfl, hrd⟩

def overL (ds : List Int) : Nat → List Int
  | 0 => []
  | n + 1 => overL ds n ++ ds
theorem overL_len (ds : List Int) (n : Nat) : (overL ds n).length = n * ds.length := by induction n with | zero => simp [overL] | succ n ih => rw [overL, List.length_append, ih, Nat.succ_mul]
theorem overL_bd {ds : List Int} (h : ∀ x ∈ ds, 0 ≤ x ∧ x ≤ 255) (n : Nat) : ∀ x ∈ overL ds n, 0 ≤ x ∧ x ≤ 255 := by
  induction n with
  | zero => intro x hx; simp [overL] at hx
  | succ n ih => intro x hx; rcases List.mem_append.1 hx with h1 | h1; exact ih x h1; exact h x h1

def OpD.small (o : OpD) : Prop := 0 ≤ o.n ∧ o.n ≤ 2048 ∧ o.data.length ≤ 512 ∧ o.n * (o.data.length : Int) ≤ 4096
instance (o : OpD) : Decidable o.small := by unfold OpD.small; infer_instance

section
variable {R : Ending → World → Prop} {W0 w : World} {H : Hp} {A F : List Hp} {b : Nat} {d : DiskG} {v : Value} {C : Nat}

set_option maxRecDepth 100000 in
set_option maxHeartbeats 4000000 in
theorem c_over (s : Sat W0 w H A) (k1 a n : Int) (hn : 0 ≤ n ∧ n ≤ 2048) {dv : Value} {ds : List Int} (rd : Rd u8E 1 H dv ds) (hm : n.toNat * ds.length ≤ 4096)
    (k : ∀ w' v' h', OwnS 1 v' (overL ds n.toNat).length ((overL ds n.toNat).map (Value.int .u8)) h' → Sat W0 w' H (h' :: A) → R (.returned v') w') :
    Calls Try.prog 41 #[.agg #[.int .i64 k1, .int .u64 a, .int .i64 n, dv]] w R := by
  obtain ⟨E, ec, rfl, rd⟩ := rd.open_
  have s1 := s.alloc (c := [.int .i64 k1, .int .u64 a, .int .i64 n, .slice E ds.length ec]) (t := 71)
  obtain ⟨Z, hZ⟩ : ∃ Z, w.heap.size = Z := ⟨_, rfl⟩
  rw [hZ] at s1
  obtain ⟨N, rfl⟩ := Int.eq_ofNat_of_zero_le hn.1
  rw [Int.toNat_natCast] at k hm
  have hN : N ≤ 2048 := by omega
  have hmA := aside hm
  clear s hn hm
  go_enter Try.func41, Try.ntmps41
  go_wp2
  go_loopg [3, 4] N (fun q v3 v4 w' => ∃ (i : Nat) (h' : Hp), q + i = N ∧ v4 = .int .i64 i ∧ OwnS 1 v3 (i * ds.length) ((overL ds i).map (Value.int .u8)) h' ∧ Sat W0 w' H (h' :: (cellsH ⟨Z, 0, none⟩ [.int .i64 k1, .int .u64 a, .int .i64 N, .slice E ds.length ec] :: A)))
  case atStart => exact ⟨0, empH, by simp, rfl, by simpa [overL] using OwnS.nil 1, s1.emp⟩
  clear s1
  case round =>
    obtain ⟨i, h', hq, rfl, own, s'⟩ := hrel
    obtain ⟨OA, oc, osp, rfl, _⟩ := id own
    have z2 := s'.cel Z 0 2 rfl
    have z3 := s'.cel Z 0 3 rfl
    simp only [Nat.zero_add] at z2 z3
    by_cases hi : i < N
    · have hb : i * ds.length + ds.length ≤ 4096 := by
        have h1 := hmA.out
        have h2 : (i + 1) * ds.length ≤ N * ds.length := Nat.mul_le_mul_right _ hi
        rw [Nat.succ_mul] at h2
        omega
      have hrow := rd.row s'.ro ds.length
      rw [List.take_length] at hrow
      go_wp2_with (at_builtin; refine append8 rfl (.tmp 11) (.tmp 13) rfl rfl own s' rfl ds rfl hrow (by omega) ?_; intro A5 cap5 w5 h5 o5 s5)
      go_roundg (gk - 1)
      case measure => omega
      case rel => exact ⟨i + 1, h5, by omega, by go_num, by rw [Nat.succ_mul, overL, List.map_append]; exact o5, s5⟩
    · obtain rfl : N = i := by omega
      have K := k wr _ h' (by rw [overL_len]; exact own) s'.swap.tail1
      clear own s' k
      go_wp2
      exact K

set_option maxRecDepth 100000 in
set_option maxHeartbeats 4000000 in
theorem c_smallD (s : Sat W0 w H A) (o : OpD) {dv : Value} {hp : Hp} (rd : Rd u8E 1 hp dv o.data) (k : ∀ w', Sat W0 w' H A → R (.returned (.bool (decide o.small))) w') :
    Calls Try.prog 38 #[.agg (o.vals dv).toArray] w R := by
  obtain ⟨D, dc, rfl, rd⟩ := rd.open_
  obtain ⟨_, hc, hc2, g⟩ := rd.u8
  have s1 := s.alloc (c := o.vals (.slice D o.data.length dc)) (t := 71)
  have K := k _ s1.tail1
  have c2 := s1.c 2 rfl
  have c3 := s1.c 3 rfl
  simp only [Nat.zero_add] at c2 c3
  obtain ⟨kind, at', n, data, hk, ha, hn⟩ := o
  simp only [OpD.vals] at *
  simp only [OpD.small] at K
  have hlen : (data.length : Int) ≤ 9223372036854775807 := by omega
  clear s1 s k g rd
  by_cases h1 : 0 ≤ n
  · by_cases h2 : n ≤ 2048
    · by_cases h3 : (data.length : Int) ≤ 512
      · have hmul : 0 ≤ n * (data.length : Int) ∧ n * (data.length : Int) ≤ 1048576 := by
          obtain ⟨N, rfl⟩ := Int.eq_ofNat_of_zero_le h1
          have : N * data.length ≤ 2048 * 512 := Nat.mul_le_mul (by omega) (by omega)
          rw [← Int.natCast_mul]; omega
        have ew : IntKind.i64.wrap (n * (data.length : Int)) = n * (data.length : Int) := by simp [IntKind.wrap, IntKind.bits, IntKind.signed]; omega
        by_cases h4 : n * (data.length : Int) ≤ 4096
        · have K2 := ret_b K (decide_eq_true (show _ ∧ _ from ⟨h1, h2, by omega, h4⟩))
          obtain ⟨y, hy⟩ : ∃ y, n * (data.length : Int) = y := ⟨_, rfl⟩
          rw [hy] at ew h4
          clear K hmul
          go_enter Try.func38, Try.ntmps38
          go_wp2
          exact ret_v K2 (by simp; try omega)
        · have K2 := ret_b K (decide_eq_false (fun h => h4 h.2.2.2))
          obtain ⟨y, hy⟩ : ∃ y, n * (data.length : Int) = y := ⟨_, rfl⟩
          rw [hy] at ew h4
          have h5 : 4096 < y := by omega
          clear K hmul h4
          go_enter Try.func38, Try.ntmps38
          go_wp2
          exact ret_v K2 (by simp; try omega)
      · have K2 := ret_b K (decide_eq_false (fun h => h3 (by have := h.2.2.1; omega)))
        clear K
        go_enter Try.func38, Try.ntmps38
        go_wp2
        exact K2
    · have K2 := ret_b K (decide_eq_false (fun h => h2 h.2.1))
      clear K
      go_enter Try.func38, Try.ntmps38
      go_wp2
      exact K2
  · have K2 := ret_b K (decide_eq_false (fun h => h1 h.1))
    clear K
    go_enter Try.func38, Try.ntmps38
    go_wp2
    exact K2

theorem c_diskFlushes (s : Sat W0 w H A) [fr : FrK (κ := Addr) (ρ := fun _ => DiskG) diskL ⟨b, 0, none⟩ A d F] (k : R (.returned (.int .u64 d.flushes)) w) :
    Calls Try.prog 79 #[.pointer (some ⟨b, 0, none⟩)] w R := by
  have c0 := (s.front (mk := diskL) (k := ⟨b, 0, none⟩)).c 5 rfl
  clear s fr
  go_enter Try.func79, Try.ntmps79
  go_wp2
  exact k
end
end Go.Proofs.Ytohccblfnjampaa
