/-
  FIFO: Copy, Same.
-/
import Derived.Test.YtmdhhidcbcgbjaaVf
import Derived.BigQuiet
namespace Go.Proofs.Ytmdhhidcbcgbjaa
open Go.RowKit
set_option linter.unusedVariables false

section
variable {R : Ending → World → Prop} {W0 w : World} {H : Hp} {A F F2 : List Hp} {b c : Nat} {f g : FifoG}

set_option maxRecDepth 100000 in
theorem c_fifoCopy (s : Sat W0 w H A) [fr : FrK (κ := Addr) (ρ := fun _ => FifoG) fifoL ⟨b, 0, none⟩ A f F]
    (k : ∀ w' (f' : FifoG) c, f'.xs = f.xs → f'.room = f.room → f'.lost = f.lost → f'.taken = f.taken → Sat W0 w' H (fifoL ⟨c, 0, none⟩ f' ++ (fifoL ⟨b, 0, none⟩ f ++ F)) → R (.returned (.pointer (some ⟨c, 0, none⟩))) w') :
    Calls Try.prog 29 #[.pointer (some ⟨b, 0, none⟩)] w R := by
  have s1 := s.front (mk := fifoL) (k := ⟨b, 0, none⟩)
  obtain ⟨i0, hi, hz, hs1, hb1⟩ := info_u8
  obtain ⟨sl, bk, xs, room, lost, taken, own, hx, fits, hroom, hlost, htaken⟩ := f
  obtain ⟨A', cap, spare, rfl, hn1, hn2, hn3, hn4, hn5, hn6⟩ := id own
  simp only [fifoL, List.cons_append, List.nil_append] at s1 k
  have c0 := s1.c0
  have c1 := s1.c 1 rfl
  have c2 := s1.c 2 rfl
  have c3 := s1.c 3 rfl
  simp only [Nat.zero_add] at c1 c2 c3
  have s2 := s1.alloc (c := [.slice A' xs.length cap, .int .i64 room, .int .u64 lost, .int .u64 taken]) (t := 102)
  obtain ⟨Z, hZ⟩ : ∃ Z, w.heap.size = Z := ⟨_, rfl⟩
  rw [hZ] at s2
  have hr := fun m => own.row0 (Sat.pull (h := bk) s2).head m
  simp only [← List.map_take] at hr
  have s3 := s2.alloc (c := []) (t := 5)
  have y0 := s3.cel b 0 0 rfl
  simp only [Nat.zero_add] at y0
  clear s fr hn6 hn5
  go_enter Try.func29, Try.ntmps29
  go_wp2_with (at_builtin; refine wpList_append rfl (.tmp 7) (.tmp 11) 37 37 5 rfl i0 (.int .u8 0) 1 1 Try.underlying37 Try.underlying37 hi hz hs1 hb1 rfl (by decide) rfl (OwnS.zero 1 _) (s3.tail1.emp) rfl (us := (xs.take xs.length).map (Value.int .u8)) (by simp) (rowR_old hr _ _) (oneCell_u8 _) (by omega) (by omega) ?_; intro A2 cap2 w2 h2 ho hs; have d0 := hs.cel Z 0 0 rfl; simp only [Nat.zero_add] at d0)
  have s9 := (Sat.pull (h := cellsH ⟨Z, 0, none⟩ [.slice A' xs.length cap, .int .i64 room, .int .u64 lost, .int .u64 taken]) hs).s0 (.slice A2 xs.length cap2)
  refine k _ ⟨_, h2, xs, room, lost, taken, by simpa using ho, hx, fits, hroom, hlost, htaken⟩ Z rfl rfl rfl rfl ?_

  simp only at s9 ⊢
  exact s9.wk

set_option maxRecDepth 100000 in
set_option maxHeartbeats 4000000 in
theorem c_fifoSame (s : Sat W0 w H A) [fr : FrK (κ := Addr) (ρ := fun _ => FifoG) fifoL ⟨b, 0, none⟩ A f F] [fr2 : FrK (κ := Addr) (ρ := fun _ => FifoG) fifoL ⟨c, 0, none⟩ A g F2]
    (k : ∀ n, R (.returned (.bool (decide (f.xs = g.xs)))) (w.drewN n)) :
    Calls Try.prog 31 #[.pointer (some ⟨b, 0, none⟩), .pointer (some ⟨c, 0, none⟩)] w R := by
  have s1 := s.front (mk := fifoL) (k := ⟨b, 0, none⟩)
  have s2 := s.front (mk := fifoL) (k := ⟨c, 0, none⟩)
  have r1 := f.own.rd f.hx
  have r2 := g.own.rd g.hx
  simp only [fifoL, List.cons_append, List.nil_append] at s1 s2
  have H1 := s1.tail1.head
  have H2 := s2.tail1.head
  have a0 := s1.c0
  have b0 := s2.c0
  obtain ⟨xs, hxs⟩ : ∃ xs, f.xs = xs := ⟨_, rfl⟩
  obtain ⟨ys, hys⟩ : ∃ ys, g.xs = ys := ⟨_, rfl⟩
  rw [hxs] at r1 k
  rw [hys] at r2 k
  obtain ⟨A, ca, e1, r1⟩ := r1.open_
  obtain ⟨B, cb, e2, r2⟩ := r2.open_
  rw [e1] at a0
  rw [e2] at b0
  obtain ⟨_, hc, hc2, g1⟩ := r1.u8
  obtain ⟨_, hd, hd2, g2⟩ := r2.u8
  clear r1 r2 s s1 s2 fr fr2 e1 e2 hxs hys
  by_cases hl : xs.length = ys.length
  · have e1 : ((xs.length : Int) != (ys.length : Int)) = false := by simp [hl]
    have HL := aside hl
    clear hl
    go_enter Try.func31, Try.ntmps31
    go_wp2
    go_quiet (fail)
    go_wp2
    go_loopg [5, 6, 23] xs.length (fun m v5 v6 v w' => ∃ (i n : Nat), m + i = xs.length ∧ v = .int .i64 i ∧ w' = w.drewN n ∧ Aside (xs.take i = ys.take i))
    case atStart => exact ⟨0, _, by simp, rfl, rfl, by simp [Aside]⟩
    case round =>
      obtain ⟨i, n, hm, rfl, rfl, ht⟩ := hrel
      by_cases hi : i < xs.length
      · have hi2 : i < ys.length := by have := HL.out; omega
        obtain ⟨ba, oa, rfl, hca, _, _⟩ := g1 i hi
        obtain ⟨bb, ob, rfl, hcb, _, _⟩ := g2 i hi2
        have ca := H1.cell hca
        have cb := H2.cell hcb
        clear hca hcb g1 g2
        by_cases he : xs[i] = ys[i]
        · have e2 : (xs[i] != ys[i]) = false := by simp [he]
          have ht' : Aside (xs.take (i + 1) = ys.take (i + 1)) := by
            have := ht.out
            show _ = _
            rw [List.take_succ_eq_append_getElem hi, List.take_succ_eq_append_getElem hi2, he, this]
          clear he
          go_wp2
          go_roundg (gk - 1)
          case measure => omega
          case rel => exact ⟨i + 1, n, by omega, by go_num, rfl, ht'⟩
        · have e2 : (xs[i] != ys[i]) = true := by simp [he]
          have ne : decide (xs = ys) = false := by simp; rintro rfl; exact he rfl
          clear he
          go_wp2
          exact ret_b (k _) ne
      · have eq : decide (xs = ys) = true := by
          have := ht.out
          have hl := HL.out
          rw [List.take_of_length_le (by omega), List.take_of_length_le (by omega)] at this
          simp [this]
        go_wp2
        exact ret_b (k _) eq
  · have e1 : ((xs.length : Int) != (ys.length : Int)) = true := by simp; omega
    have ne : decide (xs = ys) = false := by simp; rintro rfl; exact hl rfl
    go_enter Try.func31, Try.ntmps31
    go_wp2
    go_quiet (fail)
    go_wp2
    exact ret_b (k _) ne
end
end Go.Proofs.Ytmdhhidcbcgbjaa
