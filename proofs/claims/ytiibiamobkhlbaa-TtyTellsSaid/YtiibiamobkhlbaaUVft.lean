/-
  FIFO: what Take comes to.
-/
import Derived.Test.YtiibiamobkhlbaaUVf
set_option linter.unusedVariables false
set_option linter.unusedSimpArgs false
namespace Go.Proofs.Ytiibiamobkhlbaa
open Go.RowKit
set_option linter.unusedVariables false

section
variable {R : Ending → World → Prop} {W0 w : World} {H : Hp} {A F : List Hp} {b o : Nat} {f : FifoG}

set_option maxRecDepth 100000 in
set_option maxHeartbeats 2000000 in
theorem c_fifoTake (s : Sat W0 w H A) [fr : FrK (κ := Addr) (ρ := fun _ => FifoG) fifoL ⟨b, o, none⟩ A f F] (n : Int)
    (k : ∀ w' v h' (m : Nat) (f' : FifoG), (m : Int) = min (max n 0) f.xs.length → OwnS 1 v m ((f.xs.take m).map (Value.int .u8)) h' → f'.xs = f.xs.drop m → f'.room = f.room → f'.lost = f.lost → f'.taken = (f.taken + m) % 18446744073709551616 →
      Sat W0 w' H (h' :: (fifoL ⟨b, o, none⟩ f' ++ F)) → R (.returned v) w') :
    Calls Try.prog 190 #[.pointer (some ⟨b, o, none⟩), .int .i64 n] w R := by
  have s1 := s.front (mk := fifoL) (k := ⟨b, o, none⟩)
  obtain ⟨i0, hi, hz, hs1, hb1⟩ := info_u8
  obtain ⟨sl, bk, xs, room, lost, taken, own, hx, fits, hroom, hlost, htaken⟩ := f
  obtain ⟨A', cap, spare, rfl, hn1, hn2, hn3, hn4, hn5, hn6⟩ := id own
  simp only [fifoL, List.cons_append, List.nil_append] at s1 k
  have c0 := s1.c0
  have c3 := s1.c 3 rfl
  have hb := (s1.each bk (by simp)).1
  clear s fr hn6 hn5
  have hlt := s1.blt
  have hr := fun m => own.row0 hb m
  simp only [← List.map_take] at hr
  by_cases h0 : n < 0
  · have hm : xs.take 0 = [] := rfl
    go_enter Try.func190, Try.ntmps190
    go_wp2
    go_region_law ((refine step_append rfl (.tmp 18) (.tmp 24) 57 57 5 rfl i0 (.int .u8 0) 1 1 Try.underlying57 Try.underlying57 hi hz hs1 hb1 rfl (by decide) rfl (OwnS.zero 1 _) (s1.drew.emp) rfl (us := (xs.take 0).map (Value.int .u8)) (by simp; try omega) (by exact hr _) (oneCell_u8 _) (by omega) (by omega) ?_; intro A2 cap2 w2 h2 ho hs; have d0 := hs.swap.c0; have hb2 := (hs.each bk (by simp)).1; have hr2 := own.rowCut hb2 0))
    all_goals simp only [Act.put, List.getElem_toArray, List.getElem_cons_succ, List.getElem_cons_zero, List.setIfInBounds_toArray, List.set_cons_succ, List.set_cons_zero]
    all_goals go_wp2
    all_goals go_region_law ((refine step_append rfl (.tmp 31) (.tmp 37) 57 57 5 rfl i0 (.int .u8 0) 1 1 Try.underlying57 Try.underlying57 hi hz hs1 hb1 rfl (by decide) rfl (OwnS.zero 1 _) (hs.drew.emp) rfl (us := ((xs.map (Value.int .u8)).drop (0)).take (xs.length - (0))) (by simp; try omega) (by first | exact hr2 | (refine rowR_nil ?_; rw [List.length_take]; omega) | (change RowR w2 _ _; simpa [Addr.add] using hr2)) (oneCell_cut _ _ _) (by omega) (by omega) ?_; intro A3 cap3 w3 h3 ho3 hs3; have hs4 := hs3.sel (L := [_, _, _, _]) [2, 0, 1] (by decide); have e0 := hs4.c0; have e3 := hs4.c 3 rfl))
    all_goals go_wp2
    all_goals
      have el : (xs.drop (0)).length = xs.length - (0) := by simp
      have et : ((xs.map (Value.int .u8)).drop (0)).take (xs.length - (0)) = (xs.drop (0)).map (Value.int .u8) := by rw [← List.map_drop]; exact List.take_of_length_le (by simp)
      refine k _ _ h2 (0) ⟨_, h3, xs.drop (0), room, lost, taken, ?own, fun x hx' => hx x (List.mem_of_mem_drop hx'), by rw [el]; omega, hroom, hlost, ?tk⟩ (by omega) (by simpa using ho) rfl rfl rfl (by first | (show IntKind.u64.wrap _ = _; rw [wrap_u64]) | (show taken = _; omega)) (((hs4.s0 _).s 3 (by simp) _).sel (L := [_, _, _]) [2, 0, 1] (by decide))
      case own => rw [el, ← et]; simpa using ho3
      case tk => first | exact htaken | (rw [wrap_u64]; omega)
  · by_cases h1 : (xs.length : Int) < n
    · have h2' : 0 ≤ n := by omega
      have h3 : 0 < n := by omega
      go_enter Try.func190, Try.ntmps190
      go_wp2
      go_region_law ((refine step_append rfl (.tmp 18) (.tmp 24) 57 57 5 rfl i0 (.int .u8 0) 1 1 Try.underlying57 Try.underlying57 hi hz hs1 hb1 rfl (by decide) rfl (OwnS.zero 1 _) (s1.drew.emp) rfl (us := (xs.take xs.length).map (Value.int .u8)) (by simp; try omega) (by exact hr _) (oneCell_u8 _) (by omega) (by omega) ?_; intro A2 cap2 w2 h2 ho hs; have d0 := hs.swap.c0; have hb2 := (hs.each bk (by simp)).1; have hr2 := own.rowCut hb2 xs.length))
      all_goals simp only [Act.put, List.getElem_toArray, List.getElem_cons_succ, List.getElem_cons_zero, List.setIfInBounds_toArray, List.set_cons_succ, List.set_cons_zero]
      all_goals go_wp2
      all_goals go_region_law ((refine step_append rfl (.tmp 31) (.tmp 37) 57 57 5 rfl i0 (.int .u8 0) 1 1 Try.underlying57 Try.underlying57 hi hz hs1 hb1 rfl (by decide) rfl (OwnS.zero 1 _) (hs.drew.emp) rfl (us := ((xs.map (Value.int .u8)).drop (xs.length)).take (xs.length - (xs.length))) (by simp; try omega) (by first | exact hr2 | (refine rowR_nil ?_; rw [List.length_take]; omega) | (change RowR w2 _ _; simpa [Addr.add] using hr2)) (oneCell_cut _ _ _) (by omega) (by omega) ?_; intro A3 cap3 w3 h3 ho3 hs3; have hs4 := hs3.sel (L := [_, _, _, _]) [2, 0, 1] (by decide); have e0 := hs4.c0; have e3 := hs4.c 3 rfl))
      all_goals go_wp2
      all_goals
        have el : (xs.drop (xs.length)).length = xs.length - (xs.length) := by simp
        have et : ((xs.map (Value.int .u8)).drop (xs.length)).take (xs.length - (xs.length)) = (xs.drop (xs.length)).map (Value.int .u8) := by rw [← List.map_drop]; exact List.take_of_length_le (by simp)
        refine k _ _ h2 (xs.length) ⟨_, h3, xs.drop (xs.length), room, lost, IntKind.u64.wrap (taken + (xs.length : Int)), ?own, fun x hx' => hx x (List.mem_of_mem_drop hx'), by rw [el]; omega, hroom, hlost, ?tk⟩ (by omega) (by simpa using ho) rfl rfl rfl (by first | (show IntKind.u64.wrap _ = _; rw [wrap_u64]) | (show taken = _; omega)) (((hs4.s0 _).s 3 (by simp) _).sel (L := [_, _, _]) [2, 0, 1] (by decide))
        case own => rw [el, ← et]; simpa using ho3
        case tk => first | exact htaken | (rw [wrap_u64]; omega)
    · obtain ⟨m, rfl⟩ := Int.eq_ofNat_of_zero_le (show 0 ≤ n by omega)
      have h2' : m ≤ xs.length := by omega
      have h4 : m ≤ cap := by omega
      clear h0 h1
      go_enter Try.func190, Try.ntmps190
      go_wp2
      go_region_law ((refine step_append rfl (.tmp 18) (.tmp 24) 57 57 5 rfl i0 (.int .u8 0) 1 1 Try.underlying57 Try.underlying57 hi hz hs1 hb1 rfl (by decide) rfl (OwnS.zero 1 _) (s1.drew.emp) rfl (us := (xs.take m).map (Value.int .u8)) (by simp; try omega) (by exact hr _) (oneCell_u8 _) (by omega) (by omega) ?_; intro A2 cap2 w2 h2 ho hs; have d0 := hs.swap.c0; have hb2 := (hs.each bk (by simp)).1; have hr2 := own.rowCut hb2 m))
      all_goals simp only [Act.put, List.getElem_toArray, List.getElem_cons_succ, List.getElem_cons_zero, List.setIfInBounds_toArray, List.set_cons_succ, List.set_cons_zero]
      all_goals go_wp2
      all_goals go_region_law ((refine step_append rfl (.tmp 31) (.tmp 37) 57 57 5 rfl i0 (.int .u8 0) 1 1 Try.underlying57 Try.underlying57 hi hz hs1 hb1 rfl (by decide) rfl (OwnS.zero 1 _) (hs.drew.emp) rfl (us := ((xs.map (Value.int .u8)).drop (m)).take (xs.length - (m))) (by simp; try omega) (by first | exact hr2 | (refine rowR_nil ?_; rw [List.length_take]; omega) | (change RowR w2 _ _; simpa [Addr.add] using hr2)) (oneCell_cut _ _ _) (by omega) (by omega) ?_; intro A3 cap3 w3 h3 ho3 hs3; have hs4 := hs3.sel (L := [_, _, _, _]) [2, 0, 1] (by decide); have e0 := hs4.c0; have e3 := hs4.c 3 rfl))
      all_goals go_wp2
      all_goals
        have el : (xs.drop (m)).length = xs.length - (m) := by simp
        have et : ((xs.map (Value.int .u8)).drop (m)).take (xs.length - (m)) = (xs.drop (m)).map (Value.int .u8) := by rw [← List.map_drop]; exact List.take_of_length_le (by simp)
        refine k _ _ h2 (m) ⟨_, h3, xs.drop (m), room, lost, IntKind.u64.wrap (taken + (m : Int)), ?own, fun x hx' => hx x (List.mem_of_mem_drop hx'), by rw [el]; omega, hroom, hlost, ?tk⟩ (by omega) (by simpa using ho) rfl rfl rfl (by first | (show IntKind.u64.wrap _ = _; rw [wrap_u64]) | (show taken = _; omega)) (((hs4.s0 _).s 3 (by simp) _).sel (L := [_, _, _]) [2, 0, 1] (by decide))
        case own => rw [el, ← et]; simpa using ho3
        case tk => first | exact htaken | (rw [wrap_u64]; omega)
end

end Go.Proofs.Ytiibiamobkhlbaa
