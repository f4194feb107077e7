/-
  THE DOCUMENT'S MEMORY (vireoref02): as a value; Has, Get, Read, Load.
-/
import Derived.Test.YtippipfogbgemaaVoy
namespace Go.Proofs.Ytippipfogbgemaa
open Go.RowKit
set_option linter.unusedVariables false

section
variable {R : Ending → World → Prop} {w : World}

set_option maxRecDepth 100000 in
set_option maxHeartbeats 4000000 in
theorem c_refSum (a b : Int) (h0 : 0 ≤ a ∧ a ≤ 18446744073709551615) (h1 : 0 ≤ b ∧ b ≤ 18446744073709551615)
    (k : R (.returned (.tuple #[.bool (decide (18446744073709551616 ≤ a + b)), .int .u64 ((a + b) % 18446744073709551616)])) w) : Calls Try.prog 140 #[.int .u64 a, .int .u64 b] w R := by
  have e : IntKind.u64.wrap (a + b) = (a + b) % 18446744073709551616 := wrap_u64 _
  have e2 : decide ((a + b) % 18446744073709551616 < a) = decide (18446744073709551616 ≤ a + b) := by rw [decide_eq_decide]; omega
  go_enter Try.func140, Try.ntmps140
  go_wp2
  refine ret_v k ?_
  simp only [Array.getD_eq_getD_getElem?, List.getElem?_toArray, List.getElem?_cons_succ, List.getElem?_cons_zero, Option.getD_some, e, e2, Value.tuple.injEq]

set_option maxRecDepth 100000 in
set_option maxHeartbeats 4000000 in
theorem c_refLess (a b c d : Int) (h0 : 0 ≤ a ∧ a ≤ 18446744073709551615) (h1 : 0 ≤ b ∧ b ≤ 18446744073709551615) (h2 : 0 ≤ c ∧ c ≤ 18446744073709551615) (h3 : 0 ≤ d ∧ d ≤ 18446744073709551615)
    (k : R (.returned (.bool (decide (a + b ≤ c + d)))) w) : Calls Try.prog 117 #[.int .u64 a, .int .u64 b, .int .u64 c, .int .u64 d, .bool true] w R := by
  by_cases x : 18446744073709551616 ≤ a + b <;> by_cases y : 18446744073709551616 ≤ c + d
  all_goals
    obtain ⟨s, hs⟩ : ∃ s, (a + b) % 18446744073709551616 = s := ⟨_, rfl⟩
    obtain ⟨t, ht⟩ : ∃ t, (c + d) % 18446744073709551616 = t := ⟨_, rfl⟩
    go_enter Try.func117, Try.ntmps117
    go_wp2_with fail
    refine c_refSum a b h0 h1 ?_
    first | rw [decide_eq_true (by omega)] | rw [decide_eq_false (by omega)]
    rw [hs]
    go_wp2_with fail
    refine c_refSum c d h2 h3 ?_
    first | rw [decide_eq_true (by omega)] | rw [decide_eq_false (by omega)]
    rw [ht]
    go_wp2_with fail
    all_goals
      refine ret_b k ?_
      rw [Bool.eq_iff_iff]
      simp
      try omega

set_option maxRecDepth 100000 in
set_option maxHeartbeats 4000000 in
theorem c_refWithin (a n b s : Int) (h0 : 0 ≤ a ∧ a ≤ 18446744073709551615) (h1 : 0 ≤ n ∧ n ≤ 18446744073709551615) (h2 : 0 ≤ b ∧ b ≤ 18446744073709551615) (h3 : 0 ≤ s ∧ s ≤ 18446744073709551615)
    (k : R (.returned (.bool (decide (b ≤ a ∧ a + n ≤ b + s)))) w) : Calls Try.prog 78 #[.int .u64 a, .int .u64 n, .int .u64 b, .int .u64 s] w R := by
  by_cases h : b ≤ a
  · go_enter Try.func78, Try.ntmps78
    go_wp2_with (go_at_call 117; refine c_refLess _ _ _ _ h0 h1 h2 h3 ?_)
    exact ret_b k (by simp [h])
  · go_enter Try.func78, Try.ntmps78
    go_wp2
    exact ret_b k (by simp; omega)
end

/-! ### the document's memory, as a value -/
def byteE : El (Int × Int) := fun _ x vs => vs = [.int .u64 x.1, .int .u8 x.2] ∧ (0 ≤ x.1 ∧ x.1 ≤ 18446744073709551615) ∧ 0 ≤ x.2 ∧ x.2 ≤ 255
theorem byteE_mono : ElMono byteE := fun _ _ _ _ _ e => e

def lastM (bs : List (Int × Int)) : Int → Int := bs.foldl (fun m x => updM m x.1 x.2) (fun _ => 0)
theorem lastM_snoc (bs : List (Int × Int)) (x : Int × Int) : lastM (bs ++ [x]) = updM (lastM bs) x.1 x.2 := by simp [lastM]

/-- v is a memory of the document's that has these bytes; no more than L were written -/
def RefM (H : Hp) (v : Value) (size : Int) (m : Int → Int) (L : Nat) : Prop :=
  ∃ (sl : Value) (bs : List (Int × Int)), v = .agg #[.int .u64 size, sl] ∧ Rd byteE 2 H sl bs ∧ m = lastM bs ∧ bs.length ≤ L
theorem RefM.mono {H H' : Hp} {v : Value} {size : Int} {m : Int → Int} {L : Nat} (r : RefM H v size m L) (le : ∀ l c, H l = some c → H' l = some c) : RefM H' v size m L := by
  obtain ⟨sl, bs, h1, h2, h3, h4⟩ := r
  exact ⟨sl, bs, h1, h2.mono byteE_mono le, h3, h4⟩

theorem Rd.byte2 {H : Hp} {A : Option Addr} {n c : Nat} {xs : List (Int × Int)} (r : Rd byteE 2 H (.slice A n c) xs) : n = xs.length ∧ n ≤ c ∧ c ≤ 9223372036854775807 ∧
    ∀ i (hi : i < xs.length), ∃ b o, A = some ⟨b, o, none⟩ ∧ (∃ fr, H (.cell b (o + i * 2)) = some (.val (.int .u64 xs[i].1) fr)) ∧ (∃ fr, H (.cell b (o + i * 2 + 1)) = some (.val (.int .u8 xs[i].2) fr)) ∧ (0 ≤ xs[i].1 ∧ xs[i].1 ≤ 18446744073709551615) ∧ 0 ≤ xs[i].2 ∧ xs[i].2 ≤ 255 := by
  obtain ⟨A', c', hv, hc, hc2, hat⟩ := r
  injection hv with e1 e2 e3
  subst e1 e2 e3
  refine ⟨rfl, hc, hc2, fun i hi => ?_⟩
  obtain ⟨b, o, vs, hA, ⟨rfl, h0, h1⟩, _, hcell⟩ := hat i xs[i] (by simp [hi])
  exact ⟨b, o, hA, by simpa using hcell 0 _ rfl, by simpa using hcell 1 _ rfl, h0, h1⟩

def hasP (size a n : Int) : Prop := 2147483648 ≤ a ∧ a + n ≤ 2147483648 + size
instance (s a n : Int) : Decidable (hasP s a n) := by unfold hasP; infer_instance
theorem has_iff (r : RamG) (a n : Int) (h : 0 ≤ n) : r.has a n ↔ hasP r.size a n := by unfold RamG.has hasP; omega

section
variable {R : Ending → World → Prop} {W0 w : World} {H : Hp} {A : List Hp} {v : Value} {size : Int} {m : Int → Int} {L : Nat}

set_option maxRecDepth 100000 in
set_option maxHeartbeats 4000000 in
theorem c_refHas (s : Sat W0 w H A) {sl : Value} (hz : 0 ≤ size ∧ size ≤ 18446744073709551615) (a n : Int) (h0 : 0 ≤ a ∧ a ≤ 18446744073709551615) (h1 : 0 ≤ n ∧ n ≤ 18446744073709551615)
    (k : ∀ w', Sat W0 w' H A → R (.returned (.bool (decide (hasP size a n)))) w') : Calls Try.prog 32 #[.agg #[.int .u64 size, sl], .int .u64 a, .int .u64 n] w R := by
  have s1 : Sat W0 _ H (cellsH ⟨w.heap.size, 0, none⟩ [.int .u64 size, sl] :: A) := s.alloc (t := 28)
  have c0 := s1.c0
  have K := k _ s1.tail1
  clear s s1 k
  go_enter Try.func32, Try.ntmps32
  go_wp2_with (go_at_call 78; refine c_refWithin _ _ _ _ h0 h1 (by omega) hz ?_)
  exact ret_b K (by rw [Bool.eq_iff_iff]; simp [hasP]; exact decide_eq_true_iff)

set_option maxRecDepth 100000 in
set_option maxHeartbeats 4000000 in
theorem c_refGet (s : Sat W0 w H A) (r : RefM H v size m L) (hL : L ≤ 1000000) (a : Int)
    (k : ∀ w', Sat W0 w' H A → R (.returned (.int .u8 (m a))) w') : Calls Try.prog 72 #[v, .int .u64 a] w R := by
  obtain ⟨sl, bs, rfl, rd, rfl, hl⟩ := r
  obtain ⟨B, c, rfl, rd⟩ := rd.open_
  obtain ⟨_, hc, hc2, g⟩ := rd.byte2
  have s1 : Sat W0 _ H (cellsH ⟨w.heap.size, 0, none⟩ [.int .u64 size, .slice B bs.length c] :: A) := s.alloc (t := 28)
  have c1 := s1.c 1 rfl
  rw [Nat.zero_add] at c1
  have K := k _ s1.tail1
  have HH : Holds _ H := s1.ro
  have hlen : (bs.length : Int) ≤ 1000000 := by omega
  clear s s1 k rd
  go_enter Try.func72, Try.ntmps72
  go_wp2
  generalize w.alloc _ = W at *
  go_loopg [5] bs.length (fun q v5 w' => w' = W ∧ q ≤ bs.length ∧ v5 = .int .i64 ((q : Int) - 1) ∧ Aside (lastM bs a = lastM (bs.take q) a))
  case atStart => exact ⟨rfl, Nat.le_refl _, by go_num, by rw [List.take_length]; exact rfl⟩
  case round =>
    obtain ⟨rfl, hq, rfl, ht⟩ := hrel
    by_cases hq0 : gk = 0
    · subst hq0
      rw [List.take_zero] at ht
      have e := ht.out
      rw [e] at K
      clear e ht g rd
      go_wp2
      exact K
    · obtain ⟨j, rfl⟩ : ∃ j, gk = j + 1 := ⟨gk - 1, by omega⟩
      obtain ⟨bb, ob, rfl, hc0, hc1, hb0, hb1, hb2⟩ := g j (by omega)
      have d0 := HH.cell hc0
      have d1 := HH.cell hc1
      have htk : bs.take (j + 1) = bs.take j ++ [bs[j]] := List.take_succ_eq_append_getElem (by omega)
      rw [htk, lastM_snoc] at ht
      have ej : (((j + 1 : Nat) : Int) - 1) = j := by omega
      rw [ej]
      obtain ⟨x, hx⟩ : ∃ x, bs[j].1 = x := ⟨_, rfl⟩
      obtain ⟨y, hy⟩ : ∃ y, bs[j].2 = y := ⟨_, rfl⟩
      rw [hx] at d0 ht
      rw [hy] at d1 ht
      clear hc0 hc1 g rd htk hb0 hb1 hb2
      have e := ht.out
      unfold updM at e
      by_cases hxa : x = a
      · rw [if_pos hxa.symm] at e
        rw [e] at K
        subst hxa
        clear e ht hx hy
        go_wp2
        exact K
      · rw [if_neg (fun h => hxa h.symm)] at e
        replace e := aside e
        have hxb : (x == a) = false := by simp [hxa]
        clear ht hx hy
        go_wp2
        go_roundg j
        case measure => omega
        case rel => exact ⟨rfl, by omega, by go_num, e⟩
end

end Go.Proofs.Ytippipfogbgemaa
