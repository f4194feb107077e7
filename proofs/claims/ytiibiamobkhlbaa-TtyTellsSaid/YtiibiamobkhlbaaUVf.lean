/-
  FIFO: bytes that wait: the object, and its functions' contracts.
-/
import Derived.Test.YtiibiamobkhlbaaG1
set_option linter.unusedVariables false
set_option linter.unusedSimpArgs false
namespace Go.Proofs.Ytiibiamobkhlbaa
open Go.RowKit
set_option linter.unusedVariables false

structure FifoG where
  sl : Value
  bk : Hp
  xs : List Int
  room : Nat
  lost : Int
  taken : Int
  own : OwnS 1 sl xs.length (xs.map (Value.int .u8)) bk
  hx : ∀ x ∈ xs, 0 ≤ x ∧ x ≤ 255
  fits : xs.length ≤ room
  hroom : room ≤ 4096
  hlost : 0 ≤ lost ∧ lost ≤ 18446744073709551615
  htaken : 0 ≤ taken ∧ taken ≤ 18446744073709551615

def fifoL (p : Addr) (f : FifoG) : List Hp := [cellsH p [f.sl, .int .i64 f.room, .int .u64 f.lost, .int .u64 f.taken], f.bk]

set_option maxRecDepth 100000 in
theorem c_fifoPut {R : Ending → World → Prop} {W0 w : World} {H : Hp} {A F : List Hp} {b o : Nat} {f : FifoG} {X : Option Addr} {c : Nat} {ds : List Int}
    (s : Sat W0 w H A) [fr : FrK (κ := Addr) (ρ := fun _ => FifoG) fifoL ⟨b, o, none⟩ A f F] {hp : Hp} (hh : Holds w hp) (rd : Rd u8E 1 hp (.slice X ds.length c) ds)
    (k : ∀ w' (f' : FifoG) n, n = min ds.length (f.room - f.xs.length) → f'.xs = f.xs ++ ds.take n → f'.room = f.room → f'.lost = (f.lost + (ds.length - n : Nat)) % 18446744073709551616 → f'.taken = f.taken →
      Sat W0 w' H (fifoL ⟨b, o, none⟩ f' ++ F) → R (.returned (.int .i64 (n : Nat))) w') : Calls Try.prog 144 #[.pointer (some ⟨b, o, none⟩), .slice X ds.length c] w R := by
  have s1 := s.front (mk := fifoL) (k := ⟨b, o, none⟩)
  obtain ⟨i0, hi, hz, hs1, hb1⟩ := info_u8
  have hr := rd.row hh
  have hd : ∀ x ∈ ds, 0 ≤ x ∧ x ≤ 255 := rd.bytes
  obtain ⟨_, hc, hc2, _⟩ := rd.u8
  obtain ⟨sl, bk, xs, room, lost, taken, own, hx, fits, hroom, hlost, htaken⟩ := f
  obtain ⟨A', cap, spare, rfl, hn1, hn2, hn3, hn4, hn5, hn6⟩ := id own
  simp only [fifoL, List.cons_append, List.nil_append] at s1
  simp only at k fits hroom hlost htaken
  have c0 := s1.c0
  have c1 := s1.c 1 rfl
  have c2 := s1.c 2 rfl
  clear s fr rd hn6 hn5
  by_cases h : ds.length ≤ room - xs.length
  · go_enter Try.func144, Try.ntmps144
    go_wp2
    go_quiet (fail)
    all_goals try (exfalso; omega)
    go_wp2
    go_region_law ((refine step_append rfl (.tmp 23) (.tmp 26) 57 57 5 rfl i0 (.int .u8 0) 1 1 Try.underlying57 Try.underlying57 hi hz hs1 hb1 rfl (by decide) rfl own ((s1.swap.drewN _).drew) rfl (us := (ds.take ds.length).map (Value.int .u8)) (by simp) (by exact hr _) (oneCell_u8 _) (by omega) (by omega) ?_; intro A2 cap2 w2 h2 ho hs; have d0 := hs.swap.c0; have d2 := hs.swap.c 2 rfl))
    go_wp2
    rw [← List.map_append] at ho
    have e : ds.take ds.length = ds := List.take_length
    refine k _ ⟨_, h2, xs ++ ds.take ds.length, room, lost, taken, by simpa using ho, ?_, by simp; omega, hroom, hlost, htaken⟩ ds.length (by omega) rfl rfl (by simp; omega) rfl ?_
    · intro x hx'
      rcases List.mem_append.1 hx' with h' | h'
      · exact hx x h'
      · exact hd x (List.mem_of_mem_take h')
    · exact ((hs.swap.s0 _).s 2 (by simp) _)
  · have hle : (room : Int) - (xs.length : Int) ≤ (c : Int) := by omega
    go_enter Try.func144, Try.ntmps144
    go_wp2
    go_quiet (fail)
    all_goals try (exfalso; omega)
    go_wp2
    go_region_law ((refine step_append rfl (.tmp 23) (.tmp 26) 57 57 5 rfl i0 (.int .u8 0) 1 1 Try.underlying57 Try.underlying57 hi hz hs1 hb1 rfl (by decide) rfl own ((s1.swap.drewN _).drew) rfl (us := (ds.take (room - xs.length)).map (Value.int .u8)) (by simp; omega) (by exact hr _) (oneCell_u8 _) (by omega) (by omega) ?_; intro A2 cap2 w2 h2 ho hs; have d0 := hs.swap.c0; have d2 := hs.swap.c 2 rfl))
    go_wp2
    rw [← List.map_append] at ho
    have el : (xs ++ ds.take (room - xs.length)).length = xs.length + (room - xs.length) := by simp; omega
    have K := k _ ⟨_, h2, xs ++ ds.take (room - xs.length), room, (lost + (ds.length - (room - xs.length) : Nat)) % 18446744073709551616, taken, by rw [el]; exact ho, ?_, by rw [el]; omega, hroom, by omega, htaken⟩ (room - xs.length) (by omega) rfl rfl rfl rfl ((hs.swap.s0 _).s 2 (by simp) _)
    · have e1 : xs.length + (room - xs.length) = room := by omega
      have e2 : (lost + ↑(ds.length - (room - xs.length))) % 18446744073709551616 = IntKind.u64.wrap (lost + ((ds.length : Int) - ((room : Int) - (xs.length : Int)))) := by rw [wrap_u64]; omega
      have e3 : ((room - xs.length : Nat) : Int) = (room : Int) - (xs.length : Int) := by omega
      simp only [e1, e2, e3] at K
      exact K
    · intro x hx'
      rcases List.mem_append.1 hx' with h' | h'
      · exact hx x h'
      · exact hd x (List.mem_of_mem_take h')
section
variable {R : Ending → World → Prop} {W0 w : World} {H : Hp} {A F : List Hp} {b o : Nat} {f : FifoG}

theorem c_fifoLen (s : Sat W0 w H A) [fr : FrK (κ := Addr) (ρ := fun _ => FifoG) fifoL ⟨b, o, none⟩ A f F] (k : R (.returned (.int .i64 (f.xs.length : Nat))) w) :
    Calls Try.prog 150 #[.pointer (some ⟨b, o, none⟩)] w R := by
  have s1 := s.front (mk := fifoL) (k := ⟨b, o, none⟩)
  obtain ⟨A', cap, spare, hsl, hn1, hn2, hn3, hn4, hn5, hn6⟩ := f.own
  simp only [fifoL, List.cons_append, List.nil_append, hsl] at s1
  have c0 := s1.c0
  clear s fr hn6 hn5 hsl
  go_enter Try.func150, Try.ntmps150
  go_wp2
  exact k

theorem c_fifoRoom (s : Sat W0 w H A) [fr : FrK (κ := Addr) (ρ := fun _ => FifoG) fifoL ⟨b, o, none⟩ A f F] (k : R (.returned (.int .i64 (f.room : Nat))) w) :
    Calls Try.prog 151 #[.pointer (some ⟨b, o, none⟩)] w R := by
  have c0 := (s.front (mk := fifoL) (k := ⟨b, o, none⟩)).c 1 rfl
  clear s fr
  go_enter Try.func151, Try.ntmps151
  go_wp2
  exact k

theorem c_fifoLost (s : Sat W0 w H A) [fr : FrK (κ := Addr) (ρ := fun _ => FifoG) fifoL ⟨b, o, none⟩ A f F] (k : R (.returned (.int .u64 f.lost)) w) :
    Calls Try.prog 152 #[.pointer (some ⟨b, o, none⟩)] w R := by
  have c0 := (s.front (mk := fifoL) (k := ⟨b, o, none⟩)).c 2 rfl
  clear s fr
  go_enter Try.func152, Try.ntmps152
  go_wp2
  exact k

theorem c_fifoTaken (s : Sat W0 w H A) [fr : FrK (κ := Addr) (ρ := fun _ => FifoG) fifoL ⟨b, o, none⟩ A f F] (k : R (.returned (.int .u64 f.taken)) w) :
    Calls Try.prog 153 #[.pointer (some ⟨b, o, none⟩)] w R := by
  have c0 := (s.front (mk := fifoL) (k := ⟨b, o, none⟩)).c 3 rfl
  clear s fr
  go_enter Try.func153, Try.ntmps153
  go_wp2
  exact k

theorem c_fifoNew_bad (n : Int) (h : n < 1 ∨ 4096 < n) (k : R (.returned (.tuple #[.pointer none, .int .i64 1])) w) : Calls Try.prog 110 #[.int .i64 n] w R := by
  by_cases h1 : n < 1
  · go_enter Try.func110, Try.ntmps110
    go_wp2
    exact k
  · have h2 : 4096 < n := by omega
    have h3 : 1 ≤ n := by omega
    clear h h1
    go_enter Try.func110, Try.ntmps110
    go_wp2
    exact k

theorem c_fifoNew_ok (s : Sat W0 w H A) (n : Int) (h0 : 1 ≤ n) (h1 : n ≤ 4096)
    (k : ∀ w' (f : FifoG) g, f.xs = [] → (f.room : Int) = n → f.lost = 0 → f.taken = 0 → Sat W0 w' H (fifoL ⟨g, 0, none⟩ f ++ A) → R (.returned (.tuple #[.pointer (some ⟨g, 0, none⟩), .int .i64 0])) w') :
    Calls Try.prog 110 #[.int .i64 n] w R := by
  obtain ⟨m, rfl⟩ := Int.eq_ofNat_of_zero_le (show 0 ≤ n by omega)
  go_enter Try.func110, Try.ntmps110
  go_wp2
  refine k _ ⟨.slice none 0 0, empH, [], m, 0, 0, OwnS.nil 1, by simp, by simp, by omega, by omega, by omega⟩ _ rfl rfl rfl rfl ?_
  exact (s.emp).alloc

set_option maxRecDepth 100000 in
theorem c_fifoPeek (s : Sat W0 w H A) [fr : FrK (κ := Addr) (ρ := fun _ => FifoG) fifoL ⟨b, o, none⟩ A f F] (n : Int)
    (k : ∀ w' v h' (m : Nat), (m : Int) = min (max n 0) f.xs.length → OwnS 1 v m ((f.xs.take m).map (Value.int .u8)) h' → Sat W0 w' H (h' :: (fifoL ⟨b, o, none⟩ f ++ F)) → R (.returned v) w') :
    Calls Try.prog 154 #[.pointer (some ⟨b, o, none⟩), .int .i64 n] w R := by
  have s1 := s.front (mk := fifoL) (k := ⟨b, o, none⟩)
  obtain ⟨i0, hi, hz, hs1, hb1⟩ := info_u8
  obtain ⟨sl, bk, xs, room, lost, taken, own, hx, fits, hroom, hlost, htaken⟩ := f
  obtain ⟨A', cap, spare, rfl, hn1, hn2, hn3, hn4, hn5, hn6⟩ := id own
  simp only [fifoL, List.cons_append, List.nil_append] at s1 k
  have c0 := s1.c0
  have hb := (s1.each bk (by simp)).1
  clear s fr hn6 hn5
  have hlt := s1.blt
  have hr := fun m => own.row0 hb m
  simp only [← List.map_take] at hr
  by_cases h0 : n < 0
  · have hm : xs.take 0 = [] := rfl
    go_enter Try.func154, Try.ntmps154
    go_wp2_with (at_builtin; refine wpList_append rfl (.tmp 13) (.tmp 19) 57 57 5 rfl i0 (.int .u8 0) 1 1 Try.underlying57 Try.underlying57 hi hz hs1 hb1 rfl (by decide) rfl (OwnS.zero 1 _) (s1.alloc.tail1.emp) rfl (us := (xs.take 0).map (Value.int .u8)) (by simp; try omega) (rowR_old hr _ _) (oneCell_u8 _) (by omega) (by omega) ?_; intro A2 cap2 w2 h2 ho hs)
    exact k _ _ h2 0 (by omega) (by simpa using ho) hs
  · by_cases h1 : (xs.length : Int) < n
    · have h2' : 0 ≤ n := by omega
      have h3 : 0 < n := by omega
      go_enter Try.func154, Try.ntmps154
      go_wp2_with (at_builtin; refine wpList_append rfl (.tmp 13) (.tmp 19) 57 57 5 rfl i0 (.int .u8 0) 1 1 Try.underlying57 Try.underlying57 hi hz hs1 hb1 rfl (by decide) rfl (OwnS.zero 1 _) (s1.alloc.tail1.emp) rfl (us := (xs.take xs.length).map (Value.int .u8)) (by simp; try omega) (rowR_old hr _ _) (oneCell_u8 _) (by omega) (by omega) ?_; intro A2 cap2 w2 h2 ho hs)
      exact k _ _ h2 xs.length (by omega) (by simpa using ho) hs
    · obtain ⟨m, rfl⟩ := Int.eq_ofNat_of_zero_le (show 0 ≤ n by omega)
      have h2' : m ≤ xs.length := by omega
      clear h0 h1
      go_enter Try.func154, Try.ntmps154
      go_wp2_with (at_builtin; refine wpList_append rfl (.tmp 13) (.tmp 19) 57 57 5 rfl i0 (.int .u8 0) 1 1 Try.underlying57 Try.underlying57 hi hz hs1 hb1 rfl (by decide) rfl (OwnS.zero 1 _) (s1.alloc.tail1.emp) rfl (us := (xs.take m).map (Value.int .u8)) (by simp; try omega) (rowR_old hr _ _) (oneCell_u8 _) (by omega) (by omega) ?_; intro A2 cap2 w2 h2 ho hs)
      exact k _ _ h2 m (by omega) (by simpa using ho) hs
end

end Go.Proofs.Ytiibiamobkhlbaa
