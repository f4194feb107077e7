/-
  RAM's laws: a call (vireolaw02.Op) as it lies; small.
-/
import Derived.Test.YtippipfogbgemaaVs
import Derived.Test.YtippipfogbgemaaVc
namespace Go.Proofs.Ytippipfogbgemaa
open Go.RowKit
set_option linter.unusedVariables false

structure OpM where
  kind : Int
  at' : Int
  n : Int
  w : Int
  data : List Int
  hk : -9223372036854775808 ≤ kind ∧ kind ≤ 9223372036854775807
  ha : 0 ≤ at' ∧ at' ≤ 18446744073709551615
  hn : -9223372036854775808 ≤ n ∧ n ≤ 9223372036854775807
  hw : 0 ≤ w ∧ w ≤ 18446744073709551615

def OpM.vals (o : OpM) (dv : Value) : List Value := [.int .i64 o.kind, .int .u64 o.at', .int .i64 o.n, .int .u64 o.w, dv]
def opE : El OpM := fun h o vs => ∃ dv, vs = o.vals dv ∧ Rd u8E 1 h dv o.data
theorem opE_mono : ElMono opE := fun _ _ _ _ le ⟨dv, h1, h2⟩ => ⟨dv, h1, h2.mono u8E_mono le⟩

theorem opn_op : Opn Try.prog 38 opE :=
  opn_struct Try.underlying38 fun H enc w fuel cs hlen hf => by
    obtain ⟨y0, h0⟩ := hf 0 _ rfl
    obtain ⟨y1, h1⟩ := hf 1 _ rfl
    obtain ⟨y2, h2⟩ := hf 2 _ rfl
    obtain ⟨y3, h3⟩ := hf 3 _ rfl
    obtain ⟨y4, h4⟩ := hf 4 _ rfl
    obtain ⟨a, ha, ha1⟩ := opn_i64 Try.underlying3 H enc w fuel _ y0.1 y0.2 h0
    obtain ⟨l, hl, hl1⟩ := opn_u64 Try.underlying25 H enc w fuel _ y1.1 y1.2 h1
    obtain ⟨f, hff, hf1⟩ := opn_i64 Try.underlying3 H enc w fuel _ y2.1 y2.2 h2
    obtain ⟨n, hn, hn1⟩ := opn_u64 Try.underlying25 H enc w fuel _ y3.1 y3.2 h3
    obtain ⟨d, hd⟩ := opn_slice (size := 1) Try.underlying36 (by kernel_rfl) (by decide) (opn_u8 Try.underlying5) H enc w fuel _ y4.1 y4.2 h4
    have e : Try.prog.cellsOf 38 = 5 := by kernel_rfl
    have e1 : Try.prog.cellsOf 25 = 1 := by kernel_rfl
    have e2 : Try.prog.cellsOf 3 = 1 := by kernel_rfl
    have e3 : Try.prog.cellsOf 36 = 1 := by kernel_rfl
    rw [e] at hlen
    obtain ⟨c0, c1, c2, c3, c4, rfl⟩ := len5 hlen
    rw [e2] at ha hff
    rw [e1] at hl hn
    rw [e3] at hd
    obtain rfl : c0 = .int .i64 a := (List.cons.inj ha).1
    obtain rfl : c1 = .int .u64 l := (List.cons.inj hl).1
    obtain rfl : c2 = .int .i64 f := (List.cons.inj hff).1
    obtain rfl : c3 = .int .u64 n := (List.cons.inj hn).1
    obtain ⟨dv, hdv, hrd⟩ := hd
    obtain rfl : c4 = dv := (List.cons.inj hdv).1
    exact ⟨⟨a, l, f, n, d, ha1, hl1, hf1, hn1⟩, _, rfl, hrd⟩

def OpM.small (o : OpM) : Prop := o.data.length ≤ 64 ∧ (o.kind ≠ 3 ∨ (0 ≤ o.n ∧ o.n ≤ 64))
instance (o : OpM) : Decidable o.small := by unfold OpM.small; infer_instance

section
variable {R : Ending → World → Prop} {W0 w : World} {H : Hp} {A F : List Hp} {b : Nat} {r : RamG} {v : Value} {L : Nat}

set_option maxRecDepth 100000 in
set_option maxHeartbeats 4000000 in
theorem c_small (s : Sat W0 w H A) (o : OpM) {dv : Value} {hp : Hp} (rd : Rd u8E 1 hp dv o.data) (k : ∀ w', Sat W0 w' H A → R (.returned (.bool (decide o.small))) w') :
    Calls Try.prog 20 #[.agg (o.vals dv).toArray] w R := by
  obtain ⟨D, dc, rfl, rd⟩ := rd.open_
  obtain ⟨_, hc, hc2, g⟩ := rd.u8
  have s1 := s.alloc (c := o.vals (.slice D o.data.length dc)) (t := 38)
  have K := k _ s1.tail1
  have c0 := s1.c0
  have c2 := s1.c 2 rfl
  have c4 := s1.c 4 rfl
  simp only [Nat.zero_add] at c2 c4
  obtain ⟨kind, at', n, w', data, hk, ha, hn, hw⟩ := o
  simp only [OpM.vals] at *
  simp only [OpM.small] at K
  have hlen : (data.length : Int) ≤ 9223372036854775807 := by omega
  clear s1 s k g rd
  by_cases h1 : (data.length : Int) ≤ 64
  · by_cases h2 : kind = 3
    · subst h2
      by_cases h3 : 0 ≤ n
      · go_enter Try.func20, Try.ntmps20
        go_wp2
        exact ret_b K (by rw [Bool.eq_iff_iff]; simp; omega)
      · go_enter Try.func20, Try.ntmps20
        go_wp2
        exact ret_b K (by rw [Bool.eq_iff_iff]; simp; omega)
    · have e : (kind != 3) = true := by simp [h2]
      have K2 := ret_b K (decide_eq_true (show _ ∧ _ from ⟨by omega, Or.inl h2⟩))
      clear K
      go_enter Try.func20, Try.ntmps20
      go_wp2
      exact K2
  · have K2 := ret_b K (decide_eq_false (fun h => h1 (by have := h.1; omega)))
    clear K
    go_enter Try.func20, Try.ntmps20
    go_wp2
    exact K2
end

end Go.Proofs.Ytippipfogbgemaa
