/-
  THE DOCUMENT'S MEMORY (vireoref02): Read, Of, Load.
-/
import Derived.Test.YtippipfogbgemaaVp
namespace Go.Proofs.Ytippipfogbgemaa
open Go.RowKit
set_option linter.unusedVariables false

section
variable {R : Ending → World → Prop} {W0 w : World} {H : Hp} {A : List Hp} {v : Value} {size : Int} {m : Int → Int} {L : Nat}

theorem lastM_bd {bs : List (Int × Int)} (h : ∀ x ∈ bs, 0 ≤ x.2 ∧ x.2 ≤ 255) (a : Int) : 0 ≤ lastM bs a ∧ lastM bs a ≤ 255 := by
  rw [← List.reverse_reverse bs]
  have h' : ∀ x ∈ bs.reverse, 0 ≤ x.2 ∧ x.2 ≤ 255 := fun x hx => h x (List.mem_reverse.1 hx)
  clear h
  generalize bs.reverse = cs at *
  induction cs with
  | nil => simp [lastM]
  | cons x xs ih =>
    rw [List.reverse_cons, lastM_snoc]
    unfold updM
    split
    · exact h' x (List.mem_cons_self ..)
    · exact ih (fun y hy => h' y (List.mem_cons_of_mem _ hy))

theorem RefM.bd (r : RefM H v size m L) (a : Int) : 0 ≤ m a ∧ m a ≤ 255 := by
  obtain ⟨sl, bs, rfl, rd, rfl, hl⟩ := r
  obtain ⟨B, c, rfl, rd⟩ := rd.open_
  obtain ⟨_, hc, hc2, g⟩ := rd.byte2
  refine lastM_bd (fun x hx => ?_) a
  obtain ⟨i, hi, rfl⟩ := List.mem_iff_getElem.1 hx
  obtain ⟨_, _, _, _, _, _, h⟩ := g i hi
  exact h

set_option maxRecDepth 100000 in
set_option maxHeartbeats 4000000 in
theorem c_refRead (s : Sat W0 w H A) (r : RefM H v size m L) (hL : L ≤ 1000000) (hz : 0 ≤ size ∧ size ≤ 268435456) (a n : Int) (h0 : 0 ≤ a ∧ a ≤ 18446744073709551615) (hn : 0 ≤ n ∧ n ≤ 18446744073709551615)
    (kb : ¬ hasP size a n → ∀ w', Sat W0 w' H A → R (.returned (.tuple #[.slice none 0 0, .bool false])) w')
    (k : hasP size a n → ∀ w' v h', OwnS 1 v n.toNat ((rdB m a n.toNat).map (Value.int .u8)) h' → Sat W0 w' H (h' :: A) → R (.returned (.tuple #[v, .bool true])) w') : Calls Try.prog 70 #[v, .int .u64 a, .int .u64 n] w R := by
  obtain ⟨sl, bs, rfl, rd, rfl, hl⟩ := id r
  have s1 : Sat W0 _ H (cellsH ⟨w.heap.size, 0, none⟩ [.int .u64 size, sl] :: A) := s.alloc (t := 28)
  have c0 := s1.c0
  have c1 := s1.c 1 rfl
  rw [Nat.zero_add] at c1
  by_cases hh : hasP size a n
  · have K := k hh
    obtain ⟨n, rfl⟩ : ∃ m : Nat, n = m := ⟨n.toNat, by omega⟩
    rw [Int.toNat_natCast] at K
    unfold hasP at hh
    have hmk : ∀ W, (Instr.makeSlice 36 (.int .u64 n) (.int .u64 n)).run Try.prog W = .ok (.slice (some ⟨W.heap.size, 0, none⟩) n n) (W.alloc (.cells (List.replicate n (Value.int .u8 0)).toArray 5)) := fun W => by
      have := run_make8 .u64 .u64 n n (by omega) (by omega) (by omega) W
      simpa using this
    have hmb : (n : Int) ≤ 268435456 := by omega
    go_enter Try.func70, Try.ntmps70
    go_wp2_with (go_at_call 32; refine c_refHas s1 (by omega) _ _ h0 (by omega) ?_; rw [decide_eq_true (show hasP size a n from hh)]; intro w2 s2)
    clear k kb hmk c0 c1 s s1
    have s3 : Sat W0 _ H (cellsH ⟨w2.heap.size, 0, none⟩ (List.replicate n (.int .u8 0)) :: (cellsH ⟨w.heap.size, 0, none⟩ [.int .u64 size, sl] :: A)) := s2.alloc (t := 5)
    obtain ⟨B, hB⟩ : ∃ B, w2.heap.size = B := ⟨_, rfl⟩
    obtain ⟨X, hX⟩ : ∃ X, w.heap.size = X := ⟨_, rfl⟩
    rw [hB, hX] at s3
    rw [hB, hX]
    clear s2
    go_loopg [9] n (fun q v9 w' => ∃ (i : Nat), q + i = n ∧ v9 = .int .i64 i ∧ Sat W0 w' H (cellsH ⟨B, 0, none⟩ (fillR (rdB (lastM bs) a i) n) :: (cellsH ⟨X, 0, none⟩ [.int .u64 size, sl] :: A)))
    case atStart => exact ⟨0, by simp, rfl, by simpa [fillR, rdB] using s3⟩
    case round =>
      obtain ⟨i, hq, rfl, s'⟩ := hrel
      by_cases hi : i < n
      · have e1 : IntKind.u64.wrap (i : Int) = i := by rw [wrap_u64]; omega
        have e2 : IntKind.u64.wrap (a + i) = a + i := by rw [wrap_u64]; omega
        have d0 := s'.cel X 0 0 rfl
        have d1 := s'.cel X 0 1 rfl
        rw [Nat.zero_add] at d0 d1
        have hln := rdB_len (lastM bs) a i
        have hat := fillR_at (xs := rdB (lastM bs) a i) (n := n) (by omega)
        have hlen : i < (fillR (rdB (lastM bs) a i) n).length := by rw [fillR_len (by omega)]; omega
        have hst := fillR_set (xs := rdB (lastM bs) a i) (n := n) (by omega) (lastM bs (a + i))
        rw [hln] at hst hat
        replace hat := aside hat
        replace hst := aside hst
        replace hlen := aside hlen
        obtain ⟨Y, hY⟩ : ∃ Y, lastM bs (a + i) = Y := ⟨_, rfl⟩
        replace hY := aside hY
        clear hz hh h0 hln
        go_wp2_with (go_at_call 72; refine c_refGet s' r hL (a + i) ?_; rw [hY.out]; intro w4 s4; have cc := s4.c i hat.out; rw [Nat.zero_add] at cc)
        go_roundg (gk - 1)
        case measure => omega
        case rel =>
          refine ⟨i + 1, by omega, by go_num, ?_⟩
          rw [rdB, ← hst.out, hY.out]
          have s5 := s4.s i hlen.out (.int .u8 Y)
          rw [Nat.zero_add] at s5
          exact s5
      · obtain rfl : i = n := by omega
        have hff : fillR (rdB (lastM bs) a i) i = (rdB (lastM bs) a i).map (.int .u8) ++ [] := by have := fillR_full (xs := rdB (lastM bs) a i); rw [rdB_len] at this; simpa using this
        rw [hff] at s'
        have own : OwnS 1 (.slice (some ⟨B, 0, none⟩) i i) i ((rdB (lastM bs) a i).map (.int .u8)) (cellsH ⟨B, 0, none⟩ ((rdB (lastM bs) a i).map (.int .u8) ++ [])) := OwnS.made [] (Nat.le_refl _) (by omega) (by rw [List.length_map, rdB_len]; omega) (by simp)
        have K := K wr _ _ own s'.wk
        clear own hff s' s3
        go_wp2
        exact K
  · go_enter Try.func70, Try.ntmps70
    go_wp2_with (go_at_call 32; refine c_refHas s1 (by omega) _ _ h0 (by omega) ?_; rw [decide_eq_false hh]; intro w2 s2)
    exact kb hh _ s2.tail1

set_option maxRecDepth 100000 in
set_option maxHeartbeats 4000000 in
theorem c_refOf {hp : Hp} {xs : List Int} (hh : Holds w hp) (rd : Rd u8E 1 hp v xs) (hx : xs.length ≤ 8) (k : R (.returned (.int .u64 (ofB xs))) w) : Calls Try.prog 36 #[v] w R := by
  obtain ⟨B, c, rfl, rd⟩ := rd.open_
  obtain ⟨_, hc, hc2, g⟩ := rd.u8
  have hb := rd.bytes
  have hmin : min (xs.length : Int) 8 = xs.length := by omega
  clear rd
  go_enter Try.func36, Try.ntmps36
  go_wp2
  go_loopg [3, 4] xs.length (fun q v3 v4 w' => w' = w ∧ q ≤ xs.length ∧ v3 = .int .u64 (ofB (xs.drop q)) ∧ v4 = .int .i64 ((q : Int) - 1))
  case atStart => exact ⟨rfl, Nat.le_refl _, by rw [List.drop_length]; rfl, by go_num⟩
  case round =>
    obtain ⟨rfl, hq, rfl, rfl⟩ := hrel
    by_cases hq0 : gk = 0
    · subst hq0
      rw [List.drop_zero]
      clear g
      go_wp2
      exact k
    · obtain ⟨j, rfl⟩ : ∃ j, gk = j + 1 := ⟨gk - 1, by omega⟩
      obtain ⟨bb, ob, rfl, hcell, hd0, hd1⟩ := g j (by omega)
      have cc := hh.cell hcell
      have ej : (((j + 1 : Nat) : Int) - 1) = j := by omega
      rw [ej]
      have hdr : ofB (xs.drop j) = xs[j] + 256 * ofB (xs.drop (j + 1)) := by rw [List.drop_eq_getElem_cons (by omega)]; rfl
      have hbd := ofB_bd (l := xs.drop (j + 1)) (fun x hx => hb x (List.mem_of_mem_drop hx))
      have hpw : (256 : Nat) ^ (xs.drop (j + 1)).length ≤ 256 ^ 7 := Nat.pow_le_pow_right (by omega) (by rw [List.length_drop]; omega)
      have h7 : (256 : Nat) ^ 7 = 72057594037927936 := by decide
      rw [show (256 : Int) ^ (xs.drop (j + 1)).length = ((256 ^ (xs.drop (j + 1)).length : Nat) : Int) by simp] at hbd
      have hX2 : ofB (xs.drop (j + 1)) < 72057594037927936 := by omega
      have hX1 := hbd.1
      obtain ⟨X, hX⟩ : ∃ X, ofB (xs.drop (j + 1)) = X := ⟨_, rfl⟩
      rw [hX] at hdr hX1 hX2
      rw [hX]
      obtain ⟨y, hy⟩ : ∃ y, xs[j] = y := ⟨_, rfl⟩
      rw [hy] at hdr cc hd0 hd1
      have ew : IntKind.u64.wrap (X * 256) = X * 256 := by rw [wrap_u64]; omega
      have ew2 : IntKind.u64.wrap (X * 256 + y) = X * 256 + y := by rw [wrap_u64]; omega
      replace hdr := aside hdr
      clear hbd hpw h7 hy hX g hcell hb
      go_wp2
      go_roundg j
      case measure => omega
      case rel => exact ⟨rfl, by omega, by rw [hdr.out]; go_num, by go_num⟩
end

end Go.Proofs.Ytippipfogbgemaa
