/-
  RAM, the rest: Store, Read, Write, Watch.
-/
import Derived.Test.YtippipfogbgemaaVow
namespace Go.Proofs.Ytippipfogbgemaa
open Go.RowKit
set_option linter.unusedVariables false

section
variable {R : Ending → World → Prop} {W0 w : World} {H : Hp} {A F : List Hp} {b o : Nat} {r : RamG} {l : Option LogG}

theorem leb_get (x : Int) (n i : Nat) (h : i < n) : (leb x n)[i]? = some (shb x i % 256) := by
  induction n with
  | zero => omega
  | succ n ih =>
    rw [leb_snoc]
    by_cases hi : i < n
    · rw [List.getElem?_append_left (by rw [leb_len]; exact hi)]; exact ih hi
    · obtain rfl : i = n := by omega
      rw [List.getElem?_append_right (by rw [leb_len]; omega), leb_len]; simp

theorem shb_pow (x : Int) (i : Nat) : shb x i = x / 2 ^ (8 * i) := by
  induction i with
  | zero => simp [shb]
  | succ i ih => rw [shb, ih, Nat.mul_succ, Int.pow_add, Int.ediv_ediv_of_nonneg (Int.pow_nonneg (by omega))]; rfl

set_option maxRecDepth 100000 in
set_option maxHeartbeats 4000000 in
theorem c_ramStore (s : Sat W0 w H A) [fr : FrK (κ := Addr) (ρ := fun _ => RamG × Option LogG) ramL ⟨b, o, none⟩ A (r, l) F] (a n x : Int) (h0 : 0 ≤ a ∧ a ≤ 18446744073709551615) (hn : -9223372036854775808 ≤ n ∧ n ≤ 9223372036854775807) (hx : 0 ≤ x ∧ x ≤ 18446744073709551615)
    (kb : ¬ (sizedP n ∧ r.has a n) → R (.returned (.bool false)) w)
    (k : (sizedP n ∧ r.has a n) → ∀ w' r' l', r'.mem = putB r.mem a (leb x n.toNat) → r'.size = r.size → lgs l' = addW a n (lgs l) → Sat W0 w' H (ramL ⟨b, o, none⟩ (r', l') ++ F) → R (.returned (.bool true)) w') : Calls Try.prog 40 #[.pointer (some ⟨b, o, none⟩), .int .u64 a, .int .i64 n, .int .u64 x] w R := by
  by_cases hs : sizedP n
  · have hu : IntKind.u64.wrap n = n := by rw [wrap_u64]; unfold sizedP at hs; omega
    by_cases hh : r.has a n
    · have K := k ⟨hs, hh⟩
      have hz := r.hsize
      obtain ⟨m, rfl⟩ : ∃ m : Nat, n = m := ⟨n.toNat, by unfold sizedP at hs; omega⟩
      rw [Int.toNat_natCast] at K
      have h8 : m ≤ 8 := by unfold sizedP at hs; omega
      have s0 := s.front (mk := ramL) (k := ⟨b, o, none⟩)
      unfold RamG.has at hh
      go_enter Try.func40, Try.ntmps40
      go_wp2_with (first | (go_at_call 92; refine c_ramSized _ ?_; rw [decide_eq_true hs]) | (go_at_call 64; refine c_ramHas s _ _ h0 (by omega) ?_; rw [decide_eq_true (show r.has a m from hh)]))
      clear k kb s fr
      go_loopg [9, 22] m (fun q v9 v22 w' => ∃ (i : Nat) (r' : RamG), q + i = m ∧ v22 = .int .i64 i ∧ r'.mem = putB r.mem a (leb x i) ∧ r'.size = r.size ∧ Sat W0 w' H (ramL ⟨b, o, none⟩ (r', l) ++ F))
      case atStart => exact ⟨0, r, by simp, rfl, by rw [leb, putB_nil], rfl, s0⟩
      case round =>
        obtain ⟨i, r', hq, rfl, hm, hsz, s'⟩ := hrel
        by_cases hi : i < m
        · have e1 : IntKind.u64.wrap (i : Int) = i := by rw [wrap_u64]; omega
          have e2 : IntKind.u64.wrap (a + i) = a + i := by rw [wrap_u64]; omega
          have hg0 : 2147483648 ≤ a + i := by omega
          have hg1 : a + i - 2147483648 < r'.size := by omega
          have hxv := shb_pow x i
          replace hm := aside hm
          replace hxv := aside hxv
          clear hz hn hs hu hh h0
          go_wp2_with (go_at_call 93; refine c_ramSet s' _ _ hg0 hg1 (by omega) ?_; intro w2 r2 hm2 hs2 s2)
          go_roundg (gk - 1)
          case measure => omega
          case rel => exact ⟨i + 1, r2, by omega, by go_num, by rw [hm2, hm.out, leb_snoc, putB_snoc, leb_len, hxv.out], by rw [hs2, hsz], s2⟩
        · obtain rfl : i = m := by omega
          go_wp2_with (go_at_call 94; refine c_ramWrote s' _ _ h0 (by omega) ?_; intro w2 l2 hl2 s2)
          exact K _ r' l2 hm hsz hl2 s2
    · go_enter Try.func40, Try.ntmps40
      go_wp2_with (first | (go_at_call 92; refine c_ramSized _ ?_; rw [decide_eq_true hs]) | (go_at_call 64; refine c_ramHas s _ _ h0 (by unfold sizedP at hs; omega) ?_; rw [decide_eq_false hh]))
      exact kb (fun h => hh h.2)
  · go_enter Try.func40, Try.ntmps40
    go_wp2_with (go_at_call 92; refine c_ramSized _ ?_; rw [decide_eq_false hs])
    exact kb (fun h => hs h.1)

set_option maxRecDepth 100000 in
set_option maxHeartbeats 4000000 in
theorem c_ramWrite (s : Sat W0 w H A) [fr : FrK (κ := Addr) (ρ := fun _ => RamG × Option LogG) ramL ⟨b, o, none⟩ A (r, l) F] (a : Int) (h0 : 0 ≤ a ∧ a ≤ 18446744073709551615) {v : Value} {hp : Hp} {ds : List Int} (rd : Rd u8E 1 hp v ds) (hk : ∀ w', Sat W0 w' H F → Holds w' hp)
    (kb : ¬ r.has a ds.length → R (.returned (.bool false)) w)
    (k : r.has a ds.length → ∀ w' r' l', r'.mem = putB r.mem a ds → r'.size = r.size → lgs l' = addW a ds.length (lgs l) → Sat W0 w' H (ramL ⟨b, o, none⟩ (r', l') ++ F) → R (.returned (.bool true)) w') : Calls Try.prog 41 #[.pointer (some ⟨b, o, none⟩), .int .u64 a, v] w R := by
  obtain ⟨B, c, rfl, rd⟩ := rd.open_
  obtain ⟨_, hc, hc2, g⟩ := rd.u8
  clear rd
  have hlen : (ds.length : Int) ≤ 9223372036854775807 := by omega
  by_cases hh : r.has a ds.length
  · have K := k hh
    have hz := r.hsize
    have s0 := s.front (mk := ramL) (k := ⟨b, o, none⟩)
    unfold RamG.has at hh
    go_enter Try.func41, Try.ntmps41
    go_wp2_with (go_at_call 64; refine c_ramHas s _ _ h0 (by omega) ?_; rw [decide_eq_true (show r.has a ds.length from hh)])
    clear k kb s fr
    go_loopg [7, 8, 18] ds.length (fun q v7 v8 v18 w' => ∃ (i : Nat) (r' : RamG), q + i = ds.length ∧ v18 = .int .i64 i ∧ r'.mem = putB r.mem a (ds.take i) ∧ r'.size = r.size ∧ Sat W0 w' H (ramL ⟨b, o, none⟩ (r', l) ++ F))
    case atStart => exact ⟨0, r, by simp, rfl, by rw [List.take_zero, putB_nil], rfl, s0⟩
    case round =>
      obtain ⟨i, r', hq, rfl, hm, hsz, s'⟩ := hrel
      by_cases hi : i < ds.length
      · have e1 : IntKind.u64.wrap (i : Int) = i := by rw [wrap_u64]; omega
        have e2 : IntKind.u64.wrap (a + i) = a + i := by rw [wrap_u64]; omega
        have hg0 : 2147483648 ≤ a + i := by omega
        have hg1 : a + i - 2147483648 < r'.size := by omega
        obtain ⟨bb, ob, rfl, hcell, hd0, hd1⟩ := g i hi
        have cc := (hk _ s'.tail).cell hcell
        have htk : ds.take (i + 1) = ds.take i ++ [ds[i]] := List.take_succ_eq_append_getElem hi
        have hln : (ds.take i).length = i := by rw [List.length_take]; omega
        generalize ds[i] = y at *
        replace hm := aside hm
        replace htk := aside htk
        replace hln := aside hln
        clear hz hh h0 g hcell
        go_wp2_with (go_at_call 93; refine c_ramSet s' _ _ hg0 hg1 ⟨hd0, hd1⟩ ?_; intro w2 r2 hm2 hs2 s2)
        go_roundg (gk - 1)
        case measure => omega
        case rel => exact ⟨i + 1, r2, by omega, by go_num, by rw [hm2, hm.out, htk.out, putB_snoc, hln.out], by rw [hs2, hsz], s2⟩
      · have hi2 : i = ds.length := by omega
        subst hi2
        rw [List.take_length] at hm
        clear g
        go_wp2_with (go_at_call 94; refine c_ramWrote s' _ _ h0 (by omega) ?_; intro w2 l2 hl2 s2)
        exact K _ r' l2 hm hsz hl2 s2
  · go_enter Try.func41, Try.ntmps41
    go_wp2_with (go_at_call 64; refine c_ramHas s _ _ h0 (by omega) ?_; rw [decide_eq_false hh])
    exact kb hh
end

end Go.Proofs.Ytippipfogbgemaa
