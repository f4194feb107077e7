/-
  RAM, the rest: Read.
-/
import Derived.Test.YtippipfogbgemaaVox
namespace Go.Proofs.Ytippipfogbgemaa
open Go.RowKit
set_option linter.unusedVariables false

section
variable {R : Ending → World → Prop} {W0 w : World} {H : Hp} {A F : List Hp} {b o : Nat} {r : RamG} {l : Option LogG}

/-- a row that is filled from the front -/
def fillR (xs : List Int) (n : Nat) : List Value := xs.map (Value.int .u8) ++ List.replicate (n - xs.length) (.int .u8 0)
theorem fillR_set {xs : List Int} {n : Nat} (h : xs.length < n) (v : Int) : (fillR xs n).set xs.length (.int .u8 v) = fillR (xs ++ [v]) n := by
  unfold fillR
  rw [List.set_append_right _ _ (by simp)]
  simp only [List.length_map, Nat.sub_self, List.map_append, List.length_append, List.length_cons, List.length_nil, List.append_assoc]
  congr 1
  have : n - xs.length = (n - (xs.length + (0 + 1))) + 1 := by omega
  rw [this, List.replicate_succ]
  rfl
theorem fillR_at {xs : List Int} {n : Nat} (h : xs.length < n) : (fillR xs n)[xs.length]? = some (.int .u8 0) := by
  unfold fillR
  rw [List.getElem?_append_right (by simp)]
  have : 0 < n - xs.length := by omega
  simp [this]
theorem fillR_len {xs : List Int} {n : Nat} (h : xs.length ≤ n) : (fillR xs n).length = n := by simp [fillR]; omega
theorem fillR_full {xs : List Int} : fillR xs xs.length = xs.map (.int .u8) := by simp [fillR]

set_option maxRecDepth 100000 in
set_option maxHeartbeats 4000000 in
theorem c_ramRead (s : Sat W0 w H A) [fr : FrK (κ := Addr) (ρ := fun _ => RamG × Option LogG) ramL ⟨b, o, none⟩ A (r, l) F] (a n : Int) (h0 : 0 ≤ a ∧ a ≤ 18446744073709551615) (hn : 0 ≤ n ∧ n ≤ 18446744073709551615)
    (kb : ¬ r.has a n → R (.returned (.tuple #[.slice none 0 0, .bool false])) w)
    (k : r.has a n → ∀ w' v h' l', OwnS 1 v n.toNat ((rdB r.mem a n.toNat).map (Value.int .u8)) h' → lgs l' = addR a n (lgs l) → Sat W0 w' H (h' :: (ramL ⟨b, o, none⟩ (r, l') ++ F)) → R (.returned (.tuple #[v, .bool true])) w') : Calls Try.prog 44 #[.pointer (some ⟨b, o, none⟩), .int .u64 a, .int .u64 n] w R := by
  by_cases hh : r.has a n
  · have K := k hh
    have hz := r.hsize
    have s0 := s.front (mk := ramL) (k := ⟨b, o, none⟩)
    obtain ⟨m, rfl⟩ : ∃ m : Nat, n = m := ⟨n.toNat, by omega⟩
    rw [Int.toNat_natCast] at K
    unfold RamG.has at hh
    have hmk : ∀ W, (Instr.makeSlice 36 (.int .u64 m) (.int .u64 m)).run Try.prog W = .ok (.slice (some ⟨W.heap.size, 0, none⟩) m m) (W.alloc (.cells (List.replicate m (Value.int .u8 0)).toArray 5)) := fun W => by
      have := run_make8 .u64 .u64 m m (by omega) (by omega) (by omega) W
      simpa using this
    have hmb : (m : Int) ≤ 268435456 := by omega
    go_enter Try.func44, Try.ntmps44
    go_wp2_with (go_at_call 64; refine c_ramHas s _ _ h0 (by omega) ?_; rw [decide_eq_true (show r.has a m from hh)])
    clear k kb s fr hmk
    obtain ⟨B, hB⟩ : ∃ B, w.heap.size = B := ⟨_, rfl⟩
    have s1 : Sat W0 _ H (cellsH ⟨w.heap.size, 0, none⟩ (List.replicate m (.int .u8 0)) :: (ramL ⟨b, o, none⟩ (r, l) ++ F)) := s0.alloc (t := 5)
    rw [hB] at s1 ⊢
    clear s0
    go_loopg [9, 19] m (fun q v9 v19 w' => ∃ (i : Nat), q + i = m ∧ v19 = .int .i64 i ∧ Sat W0 w' H (cellsH ⟨B, 0, none⟩ (fillR (rdB r.mem a i) m) :: (ramL ⟨b, o, none⟩ (r, l) ++ F)))
    case atStart => exact ⟨0, by simp, rfl, by simpa [fillR, rdB] using s1⟩
    case round =>
      obtain ⟨i, hq, rfl, s'⟩ := hrel
      by_cases hi : i < m
      · have e1 : IntKind.u64.wrap (i : Int) = i := by rw [wrap_u64]; omega
        have e2 : IntKind.u64.wrap (a + i) = a + i := by rw [wrap_u64]; omega
        have hg0 : 2147483648 ≤ a + i := by omega
        have hg1 : a + i - 2147483648 < r.size := by omega
        have hln := rdB_len r.mem a i
        have cc := s'.c i (v := .int .u8 0) (by have := fillR_at (xs := rdB r.mem a i) (n := m) (by omega); rwa [hln] at this)
        have s2 := s'.s i (by rw [fillR_len (by omega)]; omega) (.int .u8 (r.mem (a + i)))
        have hst := fillR_set (xs := rdB r.mem a i) (n := m) (by omega) (r.mem (a + i))
        rw [hln] at hst
        rw [hst, Nat.zero_add] at s2
        rw [Nat.zero_add] at cc
        obtain ⟨Y, hY⟩ : ∃ Y, r.mem (a + i) = Y := ⟨_, rfl⟩
        rw [hY] at s2
        replace hY := aside hY
        clear hz hh h0 hst hln
        go_wp2_with (go_at_call 66; refine c_ramGet s' _ hg0 hg1 ?_; rw [hY.out])
        go_roundg (gk - 1)
        case measure => omega
        case rel => exact ⟨i + 1, by omega, by go_num, by rw [rdB, hY.out]; exact s2⟩
      · have hi2 : i = m := by omega
        subst hi2
        have hff : fillR (rdB r.mem a i) i = (rdB r.mem a i).map (.int .u8) ++ [] := by have := fillR_full (xs := rdB r.mem a i); rw [rdB_len] at this; simpa using this
        rw [hff] at s'
        have own : OwnS 1 (.slice (some ⟨B, 0, none⟩) i i) i ((rdB r.mem a i).map (.int .u8)) (cellsH ⟨B, 0, none⟩ ((rdB r.mem a i).map (.int .u8) ++ [])) := OwnS.made [] (Nat.le_refl _) (by omega) (by rw [List.length_map, rdB_len]; omega) (by simp)
        generalize cellsH ⟨B, 0, none⟩ ((rdB r.mem a i).map (.int .u8) ++ []) = hb at s' own
        have K2 := fun w' l' => K w' _ hb l' own
        clear K s1 own hz hff
        generalize rdB r.mem a i = xs at *
        cases l with
        | none =>
          simp only [ramL, Option.map_none, List.cons_append] at s'
          have c2 := s'.cel b o 2 rfl
          have K := K2 wr none rfl s'
          clear K2 s'
          go_wp2
          exact K
        | some lg =>
          obtain ⟨pb, po, wsl, wbk, ws, rsl, rbk, rs, hw, hr⟩ := lg
          obtain ⟨A1, cap1, sp1, rfl, hcap, hcap2, hl1, hl2, hl3, hl4⟩ := id hr
          have s0 := s'
          simp only [ramL, logL, Option.map_some, List.cons_append, List.nil_append] at s'
          have c2 := s'.cel b o 2 rfl
          have d0 := s'.cel pb po 1 rfl
          by_cases hn0 : i = 0
          · subst hn0
            have K := K2 wr _ (by simp [lgs, addR]) s0
            clear K2 s0 s'
            go_wp2
            exact K
          · have hp : (0 : Int) < i := by omega
            by_cases hf : rs.length < 4096
            · obtain ⟨i0, hi, hz, hs1, hb1⟩ := info_span
              have hf' : (rs.length : Int) < 4096 := by omega
              have x2 := (s'.alloc (c := [.int .u64 a, .int .u64 i]) (t := 54)).cel b o 2 rfl
              have x0 := (s'.alloc (c := [.int .u64 a, .int .u64 i]) (t := 54)).cel pb po 1 rfl
              clear s0
              go_wp2
              go_region_law ((refine step_append rfl (.tmp 62) (.tmp 66) 33 33 54 rfl i0 (.agg #[.int .u64 0, .int .u64 0]) 2 16 Try.underlying33 Try.underlying33 hi hz hs1 hb1 rfl (by decide) rfl hr (Sat.pull (h := rbk) (s'.drew.alloc)) rfl (us := [.int .u64 a, .int .u64 i]) rfl row_span (by simp [Value.oneCell']) (by omega) (by omega) ?_; intro A2 cap2 w2 h2 ho hs; have e2 := hs.cel b o 2 rfl; have e0 := hs.cel pb po 1 rfl))
              all_goals
                have K := K2 _ (some ⟨pb, po, wsl, wbk, ws, .slice A2 (rs.length + 1) cap2, h2, rs ++ [(a, (i : Int))], hw, by simpa [List.flatMap_append] using ho⟩) (by simp only [lgs, addR, Option.map_some, if_pos (And.intro hp hf)]) (by
                  simp only [ramL, logL, Option.map_some, List.cons_append, List.nil_append]
                  have s9 := (Sat.pull (h := cellsH ⟨pb, po, none⟩ [wsl, .slice A1 rs.length cap1]) hs).s 1 (by simp) (.slice A2 (rs.length + 1) cap2)
                  simp only [List.set_cons_succ, List.set_cons_zero] at s9
                  exact s9.wk)
                clear K2 s' hs e2 e0
                go_wp2
                exact K
            · have hf' : ¬ ((rs.length : Int) < 4096) := by omega
              have K := K2 wr _ (by simp [lgs, addR, hf]) s0
              clear K2 s0 s'
              go_wp2
              exact K
  · go_enter Try.func44, Try.ntmps44
    go_wp2_with (go_at_call 64; refine c_ramHas s _ _ h0 (by omega) ?_; rw [decide_eq_false hh])
    exact kb hh
end

end Go.Proofs.Ytippipfogbgemaa
