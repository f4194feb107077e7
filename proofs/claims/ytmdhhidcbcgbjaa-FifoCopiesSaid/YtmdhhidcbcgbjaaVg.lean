/-
  The document's row of bytes (vireoref14): as a value; Put, Peek, Take.
-/
import Derived.Test.YtmdhhidcbcgbjaaVft
import Derived.Test.YtmdhhidcbcgbjaaVec
namespace Go.Proofs.Ytmdhhidcbcgbjaa
open Go.RowKit
set_option linter.unusedVariables false

theorem Sat.frozenG {W0 w : World} {H h : Hp} {A : List Hp} (s : Sat W0 w H (h :: A)) : ∀ l c, h l = some c → un H h l = some c := by
  intro l c e
  rcases (s.each h (List.mem_cons_self ..)).2 l with h1 | h1
  · rw [e] at h1; cases h1
  · simp [un, h1, e]
theorem un_leftG {H h : Hp} : ∀ l c, H l = some c → un H h l = some c := by intro l c e; simp [un, e]

def RefF (H : Hp) (v : Value) (xs : List Int) (room : Nat) (lost taken : Int) : Prop :=
  ∃ sl, v = .agg #[sl, .int .i64 room, .int .u64 lost, .int .u64 taken] ∧ Rd u8E 1 H sl xs
theorem RefF.mono {H H' : Hp} {v : Value} {xs : List Int} {room : Nat} {lost taken : Int} (r : RefF H v xs room lost taken) (le : ∀ l c, H l = some c → H' l = some c) : RefF H' v xs room lost taken := by
  obtain ⟨sl, h1, h2⟩ := r
  exact ⟨sl, h1, h2.mono u8E_mono le⟩
theorem RefF.open_ {H : Hp} {v : Value} {xs : List Int} {room : Nat} {lost taken : Int} (r : RefF H v xs room lost taken) : ∃ B c, v = .agg #[.slice B xs.length c, .int .i64 room, .int .u64 lost, .int .u64 taken] ∧ Rd u8E 1 H (.slice B xs.length c) xs := by
  obtain ⟨sl, rfl, h2⟩ := r
  obtain ⟨B, c, rfl, h3⟩ := h2.open_
  exact ⟨B, c, rfl, h3⟩

theorem Rd.drop8 {H : Hp} {A : Option Addr} {n c : Nat} {xs : List Int} (r : Rd u8E 1 H (.slice A n c) xs) (m : Nat) (hm : m ≤ n) : Rd u8E 1 H (.slice (if c = m then A else A.map (·.add m)) (n - m) (c - m)) (xs.drop m) := by
  obtain ⟨rfl, hc, hc2, g⟩ := r.u8
  refine ⟨_, _, by rw [List.length_drop], by rw [List.length_drop]; omega, by omega, fun i x hx => ?_⟩
  rw [List.getElem?_drop] at hx
  have hlt : m + i < xs.length := by
    rcases Nat.lt_or_ge (m + i) xs.length with h0 | h0
    · exact h0
    · rw [List.getElem?_eq_none h0] at hx; cases hx
  obtain ⟨b, o, rfl, hcell, h0, h1⟩ := g (m + i) hlt
  rw [List.getElem?_eq_getElem hlt] at hx
  obtain rfl := Option.some.inj hx
  refine ⟨b, o + m, [.int .u8 xs[m + i]], ?_, ⟨rfl, h0, h1⟩, rfl, fun j u hu => ?_⟩
  · rw [if_neg (by omega)]
    show some _ = some _
    unfold Addr.add
    by_cases hz : m = 0
    · simp [hz]
    · simp [hz]
  · cases j with
    | succ j => simp at hu
    | zero =>
      simp at hu
      subst hu
      have e : o + m + i * 1 + 0 = o + (m + i) := by omega
      rw [e]; exact hcell

theorem OwnS.rdU {v : Value} {n : Nat} {xs : List Int} {H h : Hp} (own : OwnS 1 v n (xs.map (Value.int .u8)) h) (hx : ∀ x ∈ xs, 0 ≤ x ∧ x ≤ 255) (le : ∀ l c, h l = some c → H l = some c) : Rd u8E 1 H v xs := (own.rd hx).mono u8E_mono le

section
variable {R : Ending → World → Prop} {W0 w : World} {H : Hp} {A F : List Hp} {v : Value} {xs : List Int} {room : Nat} {lost taken : Int}

set_option maxRecDepth 100000 in
set_option maxHeartbeats 4000000 in
theorem c_refFPeek (s : Sat W0 w H A) (rf : RefF H v xs room lost taken) (hl : xs.length ≤ 5000) (n : Int)
    (k : ∀ w' v' h' (m : Nat), (m : Int) = min (max n 0) xs.length → OwnS 1 v' m ((xs.take m).map (Value.int .u8)) h' → Sat W0 w' H (h' :: A) → R (.returned v') w') :
    Calls Try.prog 62 #[v, .int .i64 n] w R := by
  obtain ⟨B, c, rfl, rd⟩ := rf.open_
  obtain ⟨_, hc, hc2, g⟩ := rd.u8
  have s1 := s.alloc (c := [.slice B xs.length c, .int .i64 room, .int .u64 lost, .int .u64 taken]) (t := 48)
  obtain ⟨Z, hZ⟩ : ∃ Z, w.heap.size = Z := ⟨_, rfl⟩
  rw [hZ] at s1
  clear s rf rd
  go_enter Try.func62, Try.ntmps62
  have hb : ∀ x ∈ xs, 0 ≤ x ∧ x ≤ 255 := fun x hx => by obtain ⟨i, hi, rfl⟩ := List.mem_iff_getElem.1 hx; exact (g i hi).choose_spec.choose_spec.2.2
  have hlen : (xs.length : Int) ≤ 5000 := by omega
  go_wp2
  go_loopg [5, 6] xs.length (fun q v5 v6 w' => ∃ (i : Nat) (h' : Hp), q + i = xs.length ∧ v6 = .int .i64 i ∧ (i = 0 ∨ (i : Int) ≤ n) ∧ OwnS 1 v5 i ((xs.take i).map (Value.int .u8)) h' ∧ Sat W0 w' H (h' :: cellsH ⟨Z, 0, none⟩ [.slice B xs.length c, .int .i64 room, .int .u64 lost, .int .u64 taken] :: A))
  case atStart => exact ⟨0, empH, by simp, rfl, .inl rfl, by simpa using OwnS.nil 1, s1.emp⟩
  case round =>
    obtain ⟨i, h', hq, rfl, hin, own, s'⟩ := hrel
    have y0 := s'.cel Z 0 0 rfl
    simp only [Nat.zero_add] at y0
    obtain ⟨A1, c1, sp1, rfl, _⟩ := id own
    by_cases hi : i < xs.length ∧ (i : Int) < n
    · obtain ⟨hi1, hi2⟩ := hi
      obtain ⟨bb, ob, rfl, hcell, hx0, hx1⟩ := g i hi1
      have cc := s'.ro.cell hcell
      have htk : xs.take (i + 1) = xs.take i ++ [xs[i]] := List.take_succ_eq_append_getElem hi1
      obtain ⟨y, hy⟩ : ∃ y, xs[i] = y := ⟨_, rfl⟩
      rw [hy] at htk cc hx0 hx1
      replace htk := aside htk
      clear hcell g hy hb
      go_wp2_with (at_builtin; refine append8 rfl (.tmp 19) (.tmp 25) rfl rfl own s'.alloc rfl [y] rfl row_lit (by omega) ?_; intro A2 cap2 w2 h2 ho hs)
      go_roundg (gk - 1)
      case measure => omega
      case rel => exact ⟨i + 1, h2, by omega, by go_num, .inr (by omega), by rw [htk.out, List.map_append]; exact ho, hs.wk⟩
    · have K := k wr _ h' i (by omega) own s'.wk
      clear k hb g own s1
      by_cases hx : (i : Int) < n
      all_goals
        go_wp2
        exact K

set_option maxRecDepth 100000 in
set_option maxHeartbeats 4000000 in
theorem c_refFTake (s : Sat W0 w H A) (rf : RefF H v xs room lost taken) (hl : xs.length ≤ 5000) (n : Int)
    (k : ∀ w' H' v' v2 h' (m : Nat), (∀ l c, H l = some c → H' l = some c) → (m : Int) = min (max n 0) xs.length → RefF H' v' (xs.drop m) room lost ((taken + m) % 18446744073709551616) → OwnS 1 v2 m ((xs.take m).map (Value.int .u8)) h' → Sat W0 w' H' (h' :: A) → R (.returned (.tuple #[v', v2])) w') :
    Calls Try.prog 61 #[v, .int .i64 n] w R := by
  obtain ⟨B, c, rfl, rd⟩ := rf.open_
  obtain ⟨_, hc, hc2, g⟩ := rd.u8
  have s1 := (s.alloc (c := [.slice B xs.length c, .int .i64 room, .int .u64 lost, .int .u64 taken]) (t := 48)).alloc (c := [.slice none 0 0, .int .i64 0, .int .u64 0, .int .u64 0]) (t := 48)
  rw [World.size_alloc] at s1
  obtain ⟨Z, hZ⟩ : ∃ Z, w.heap.size = Z := ⟨_, rfl⟩
  rw [hZ] at s1
  clear s
  have y0 := s1.cel Z 0 0 rfl
  have y1 := s1.cel Z 0 1 rfl
  have y2 := s1.cel Z 0 2 rfl
  have y3 := s1.cel Z 0 3 rfl
  simp only [Nat.zero_add] at y0 y1 y2 y3
  go_enter Try.func61, Try.ntmps61
  go_wp2_with fail
  refine c_refFPeek s1 rf hl n ?_
  intro w2 v2 h2 m hm own s2
  obtain ⟨C, cc, sp, rfl, _⟩ := id own
  have y0 := s2.cel Z 0 0 rfl
  have y1 := s2.cel Z 0 1 rfl
  have y2 := s2.cel Z 0 2 rfl
  have y3 := s2.cel Z 0 3 rfl
  have z0 := s2.cel (Z + 1) 0 0 rfl
  have z1 := s2.cel (Z + 1) 0 1 rfl
  have z2 := s2.cel (Z + 1) 0 2 rfl
  have z3 := s2.cel (Z + 1) 0 3 rfl
  simp only [Nat.zero_add] at y0 y1 y2 y3 z0 z1 z2 z3
  have hmx : (m : Int) ≤ xs.length := by omega
  have rd' := rd.drop8 m (by omega)
  have own' := own
  have em : IntKind.u64.wrap (taken + m) = (taken + m) % 18446744073709551616 := wrap_u64 _
  replace hm := aside hm
  replace em := aside em
  clear g rd rf s1
  by_cases hcm : c = m
  · subst hcm
    have e0 : xs.length - c = 0 := by omega
    rw [if_pos rfl, e0, Nat.sub_self] at rd'
    have t2 := ((Sat.pull (h := cellsH ⟨Z, 0, none⟩ [.slice B xs.length c, .int .i64 room, .int .u64 lost, .int .u64 taken]) s2).s0 (.slice B 0 0)).s 3 (by simp) (.int .u64 (IntKind.u64.wrap (taken + (c : Nat))))
    have t6 := ((((Sat.pull (h := cellsH ⟨Z + 1, 0, none⟩ [.slice none 0 0, .int .i64 0, .int .u64 0, .int .u64 0]) t2).s0 (.slice B 0 0)).s 1 (by simp) (.int .i64 room)).s 2 (by simp) (.int .u64 lost)).s 3 (by simp) (.int .u64 (IntKind.u64.wrap (taken + (c : Nat))))
    simp only [List.set_cons_succ, List.set_cons_zero, Nat.zero_add] at t6
    have f0 := t6.c0
    have f1 := t6.c 1 rfl
    have f2 := t6.c 2 rfl
    have f3 := t6.c 3 rfl
    simp only [Nat.zero_add] at f0 f1 f2 f3
    have K := k _ H _ _ h2 c (fun _ _ h => h) hm.out ⟨_, rfl, rd'⟩ own' t6.wk
    rw [← em.out] at K
    clear k t2 t6 s2 rd' own'
    go_wp2
    refine bodyPost_ret (by simp [results, Try.results61, go_sem, f0.1, f1.1, f2.1, f3.1]; try rfl) rfl ?_
    exact K
  · rw [if_neg hcm] at rd'
    have t2 := ((Sat.pull (h := cellsH ⟨Z, 0, none⟩ [.slice B xs.length c, .int .i64 room, .int .u64 lost, .int .u64 taken]) s2).s0 (.slice (B.map fun x => x.add m) (xs.length - m) (c - m))).s 3 (by simp) (.int .u64 (IntKind.u64.wrap (taken + (m : Nat))))
    have t6 := ((((Sat.pull (h := cellsH ⟨Z + 1, 0, none⟩ [.slice none 0 0, .int .i64 0, .int .u64 0, .int .u64 0]) t2).s0 (.slice (B.map fun x => x.add m) (xs.length - m) (c - m))).s 1 (by simp) (.int .i64 room)).s 2 (by simp) (.int .u64 lost)).s 3 (by simp) (.int .u64 (IntKind.u64.wrap (taken + (m : Nat))))
    simp only [List.set_cons_succ, List.set_cons_zero, Nat.zero_add] at t6
    have f0 := t6.c0
    have f1 := t6.c 1 rfl
    have f2 := t6.c 2 rfl
    have f3 := t6.c 3 rfl
    simp only [Nat.zero_add] at f0 f1 f2 f3
    have K := k _ H _ _ h2 m (fun _ _ h => h) hm.out ⟨_, rfl, rd'⟩ own' t6.wk
    rw [← em.out] at K
    clear k t2 t6 s2 rd' own'
    go_wp2
    refine bodyPost_ret (by simp [results, Try.results61, go_sem, f0.1, f1.1, f2.1, f3.1]; try rfl) rfl ?_
    exact K
end
end Go.Proofs.Ytmdhhidcbcgbjaa
