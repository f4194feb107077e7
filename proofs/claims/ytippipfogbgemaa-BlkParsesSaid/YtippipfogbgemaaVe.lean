/-
  THE SEAT's GROUND: bytes appended; word.Bytes and the document's; Bytes alike.
-/
import Derived.Test.YtippipfogbgemaaVd
import Derived.Test.YtippipfogbgemaaChecked
import Derived.Laws.MakeOwn
namespace Go.Proofs.Ytippipfogbgemaa
open Go.RowKit
set_option linter.unusedVariables false

theorem info_u8 : ∃ i, Try.prog.info? 5 = some i ∧ i.zero = some (.int .u8 0) ∧ i.size = 1 ∧ i.bytes = 1 := by
  have h : (Try.prog.info? 5).map (fun i => (i.zero, i.size, i.bytes)) = some (some (.int .u8 0), 1, 1) := by kernel_rfl
  cases hi : Try.prog.info? 5 with
  | none => simp [hi] at h
  | some i => simp [hi] at h; exact ⟨i, rfl, h⟩

theorem Rd.bytes {hp : Hp} {v : Value} {xs : List Int} (r : Rd u8E 1 hp v xs) : ∀ x ∈ xs, 0 ≤ x ∧ x ≤ 255 := by
  obtain ⟨A, c, rfl, r⟩ := r.open_
  obtain ⟨_, _, _, g⟩ := r.u8
  intro x hx
  obtain ⟨i, hi, rfl⟩ := List.mem_iff_getElem.1 hx
  exact (g i hi).choose_spec.choose_spec.2.2

/-- bytes that are read, as a row of cells -/
theorem Rd.row {w : World} {hp : Hp} {A : Option Addr} {n c : Nat} {xs : List Int} (hh : Holds w hp) (r : Rd u8E 1 hp (.slice A n c) xs) (m : Nat) : RowR w A ((xs.take m).map (Value.int .u8)) := by
  intro hne
  obtain ⟨rfl, hc, hc2, g⟩ := r.u8
  have hpos : 0 < xs.length := by
    rcases Nat.eq_zero_or_pos xs.length with h0 | h0
    · have : xs = [] := List.eq_nil_of_length_eq_zero h0
      subst this; simp at hne
    · exact h0
  obtain ⟨b, o, rfl, _⟩ := g 0 hpos
  refine ⟨b, o, rfl, fun j u hu => ?_⟩
  simp only [List.getElem?_map, List.getElem?_take] at hu
  by_cases hj : j < m
  · rw [if_pos hj] at hu
    rcases Nat.lt_or_ge j xs.length with h1 | h1
    · rw [List.getElem?_eq_getElem h1] at hu
      simp at hu
      subst hu
      obtain ⟨b', o', e, hcell, _⟩ := g j h1
      injection e with e
      injection e with e1 e2
      subst e1 e2
      exact hh.cell hcell
    · rw [List.getElem?_eq_none h1] at hu; simp at hu
  · rw [if_neg hj] at hu; simp at hu

theorem oneCell_cut (l : List Int) (i j : Nat) : ∀ x ∈ ((l.map (Value.int .u8)).drop i).take j, x.oneCell' = true := by
  intro x hx
  obtain ⟨y, _, rfl⟩ := List.mem_map.1 (List.mem_of_mem_drop (List.mem_of_mem_take hx))
  rfl
theorem oneCell_u8 (l : List Int) : ∀ x ∈ l.map (Value.int .u8), x.oneCell' = true := by
  intro x hx
  obtain ⟨y, _, rfl⟩ := List.mem_map.1 hx
  rfl



/-- append of bytes -/
theorem append8 {ops : Array Oper} {rest : List Oper} {o : Oper} {a : Act} {Q : Exit → Act → World → Prop} {W0 w : World} {H : Hp} {A F : List Hp}
    (hg : o.guard = none) (sx xx : Operand) (hop : o.op = .call { callee := .builtin .append, args := #[sx, xx], argTypes := #[36, 36] })
    {v : Value} {n : Nat} {vs : List Value} {h : Hp} (hv : a.eval sx = v) (own : OwnS 1 v n vs h) (s : Sat W0 w H A) [fr : FrH h A F] {X : Option Addr} {m c : Nat} (hx : a.eval xx = .slice X m c) (ds : List Int) (hl : ds.length = m) (hus : RowR w X (ds.map (Value.int .u8)))
    (hb : n + m ≤ 140737488355328)
    (k : ∀ A' cap' w' h', OwnS 1 (.slice A' (n + m) cap') (n + m) (vs ++ ds.map (Value.int .u8)) h' → Sat W0 w' H (h' :: F) → wpList Try.prog ops Q rest (a.put o.dst (.slice A' (n + m) cap')) w') : wpList Try.prog ops Q (o :: rest) a w := by
  obtain ⟨i0, hi, hz, hs1, hb1⟩ := info_u8
  exact wpList_append hg sx xx _ _ _ hop i0 (.int .u8 0) 1 1 Try.underlying36 Try.underlying36 hi hz hs1 hb1 rfl (by decide) hv own s.pull hx (by simp [hl]) hus (oneCell_u8 _) (by omega) (by omega) k

theorem step8 {ops : Array Oper} {o : Oper} {a : Act} {K : Act → World → Prop} {Q : Exit → Act → World → Prop} {E : Prop} {W0 w : World} {H : Hp} {A F : List Hp}
    (hg : o.guard = none) (sx xx : Operand) (hop : o.op = .call { callee := .builtin .append, args := #[sx, xx], argTypes := #[36, 36] })
    {v : Value} {n : Nat} {vs : List Value} {h : Hp} (hv : a.eval sx = v) (own : OwnS 1 v n vs h) (s : Sat W0 w H A) [fr : FrH h A F] {X : Option Addr} {m c : Nat} (hx : a.eval xx = .slice X m c) (ds : List Int) (hl : ds.length = m) (hus : RowR w X (ds.map (Value.int .u8)))
    (hb : n + m ≤ 140737488355328)
    (k : ∀ A' cap' w' h', OwnS 1 (.slice A' (n + m) cap') (n + m) (vs ++ ds.map (Value.int .u8)) h' → Sat W0 w' H (h' :: F) → K (a.put o.dst (.slice A' (n + m) cap')) w') : if Region.wanted o (yielded ops a.tmps) = true then Oper.wp Try.prog o a w K Q else E := by
  obtain ⟨i0, hi, hz, hs1, hb1⟩ := info_u8
  exact step_append hg sx xx _ _ _ hop i0 (.int .u8 0) 1 1 Try.underlying36 Try.underlying36 hi hz hs1 hb1 rfl (by decide) hv own s.pull hx (by simp [hl]) hus (oneCell_u8 _) (by omega) (by omega) k

/-- a literal of bytes that the call has just laid -/
theorem row_lit {w : World} {ds : List Int} {t : TypeId} : RowR (w.alloc (.cells (ds.map (Value.int .u8)).toArray t)) (some ⟨w.heap.size, 0, none⟩) (ds.map (Value.int .u8)) := by
  intro _
  exact ⟨_, _, rfl, fun j u hu => by rw [Nat.zero_add]; simp [hu]⟩

/-- make of bytes -/
theorem made8 (n : Nat) : madeCells #[Value.int .u8 0] n = (List.replicate n (Value.int .u8 0)).toArray := by
  apply Array.ext
  · simp [madeCells]
  · intro i h1 h2
    simp [madeCells, Nat.mod_one]

theorem run_make8 (kl kc : IntKind) (l c : Int) (h0 : 0 ≤ l) (hlc : l ≤ c) (hc : c ≤ 140737488355328) (w : World) :
    (Instr.makeSlice 36 (.int kl l) (.int kc c)).run Try.prog w = .ok (.slice (some ⟨w.heap.size, 0, none⟩) l.toNat c.toNat) (w.alloc (.cells (List.replicate c.toNat (Value.int .u8 0)).toArray 5)) := by
  obtain ⟨i0, hi, hz, hs1, hb1⟩ := info_u8
  rw [run_make (P := Try.prog) w 36 5 i0 (.int .u8 0) Try.underlying36 hi hz kl kc l c h0 hlc (by rw [hb1]; omega) (by omega), hs1, Nat.mul_one]
  have e : (Value.int IntKind.u8 0).cells = #[Value.int .u8 0] := rfl
  rw [e, made8]

/-- the low n bytes -/
def leb (x : Int) : Nat → List Int
  | 0 => []
  | n + 1 => x % 256 :: leb (x / 256) n
def shb (x : Int) : Nat → Int
  | 0 => x
  | n + 1 => shb x n / 256
theorem leb_len (x : Int) (n : Nat) : (leb x n).length = n := by induction n generalizing x with | zero => rfl | succ n ih => simp [leb, ih]
theorem shb_left (x : Int) (n : Nat) : shb (x / 256) n = shb x n / 256 := by induction n with | zero => rfl | succ n ih => simp [shb, ih]
theorem leb_snoc (x : Int) (n : Nat) : leb x (n + 1) = leb x n ++ [shb x n % 256] := by
  induction n generalizing x with
  | zero => rfl
  | succ n ih => rw [leb, ih, leb]; simp [shb, shb_left]
theorem shb_bd {x : Int} (h : 0 ≤ x ∧ x ≤ 18446744073709551615) (n : Nat) : 0 ≤ shb x n ∧ shb x n ≤ 18446744073709551615 := by
  induction n with
  | zero => exact h
  | succ n ih => simp only [shb]; omega
theorem leb_bd (x : Int) (n : Nat) : ∀ y ∈ leb x n, 0 ≤ y ∧ y ≤ 255 := by
  induction n generalizing x with
  | zero => intro y hy; simp [leb] at hy
  | succ n ih =>
    intro y hy
    simp only [leb, List.mem_cons] at hy
    rcases hy with rfl | hy
    · omega
    · exact ih _ y hy

section
variable {R : Ending → World → Prop} {W0 w : World} {H : Hp} {A : List Hp}

set_option maxRecDepth 100000 in
set_option maxHeartbeats 2000000 in
theorem c_refBytesOf (s : Sat W0 w H A) (x : Int) (hx : 0 ≤ x ∧ x ≤ 18446744073709551615) (z : Int) (n : Nat) (hz : z = n) (hn : n ≤ 4096)
    (k : ∀ w' v h', OwnS 1 v n ((leb x n).map (Value.int .u8)) h' → Sat W0 w' H (h' :: A) → R (.returned v) w') : Calls Try.prog 113 #[.int .u64 x, .int .i64 z] w R := by
  subst hz
  go_enter Try.func113, Try.ntmps113
  go_wp2
  go_loopg [0, 5, 6] n (fun m v0 v5 v6 w' => ∃ (i : Nat) (h' : Hp), m + i = n ∧ v6 = .int .i64 i ∧ v0 = .int .u64 (shb x i) ∧ OwnS 1 v5 i ((leb x i).map (Value.int .u8)) h' ∧ Sat W0 w' H (h' :: A))
  case atStart => exact ⟨0, empH, by simp, rfl, rfl, OwnS.nil 1, s.emp⟩
  case round =>
    obtain ⟨i, h', hm, rfl, rfl, own, s'⟩ := hrel
    have hb := shb_bd hx i
    obtain ⟨A1, c1, sp1, rfl, _⟩ := id own
    by_cases hi : i < n
    · have hi2 : i < 4096 := by omega
      go_wp2_with (at_builtin; refine append8 rfl (.tmp 16) (.tmp 20) rfl rfl own s'.alloc rfl [shb x i % 256] rfl row_lit (by omega) ?_; intro A2 cap2 w2 h2 ho hs)
      go_roundg (gk - 1)
      case measure => omega
      case rel => exact ⟨i + 1, h2, by omega, by go_num, rfl, by rw [leb_snoc, List.map_append]; exact ho, hs.wk⟩
    · obtain rfl : i = n := by omega
      go_wp2
      exact k _ _ h' own s'

set_option maxRecDepth 100000 in
set_option maxHeartbeats 4000000 in
theorem c_wordBytes (s : Sat W0 w H A) (x : Int) (hx : 0 ≤ x ∧ x ≤ 18446744073709551615) (z : Int) (n : Nat) (hz : z = n) (hn : n ≤ 4096)
    (k : ∀ w' v h', OwnS 1 v n ((leb x n).map (Value.int .u8)) h' → Sat W0 w' H (h' :: A) → R (.returned v) w') : Calls Try.prog 90 #[.int .u64 x, .int .i64 z] w R := by
  subst hz
  have hmk : ∀ W, (Instr.makeSlice 36 (.int .i64 0) (.int .i64 8)).run Try.prog W = .ok (.slice (some ⟨W.heap.size, 0, none⟩) 0 8) (W.alloc (.cells (List.replicate 8 (Value.int .u8 0)).toArray 5)) := fun W => run_make8 .i64 .i64 0 8 (by omega) (by omega) (by omega) W
  have hn0 : 0 ≤ n := Nat.zero_le _
  go_enter Try.func90, Try.ntmps90
  go_wp2
  go_loopg [0, 5, 10] n (fun m v0 v5 v6 w' => ∃ (i : Nat) (h' : Hp), m + i = n ∧ v6 = .int .i64 i ∧ v0 = .int .u64 (shb x i) ∧ OwnS 1 v5 i ((leb x i).map (Value.int .u8)) h' ∧ Sat W0 w' H (h' :: A))
  case atStart => exact ⟨0, _, by simp, rfl, rfl, OwnS.made (n := 0) (c := 8) (vs := []) (List.replicate 8 (.int .u8 0)) (by omega) (by omega) rfl rfl, s.alloc⟩
  case round =>
    obtain ⟨i, h', hm, rfl, rfl, own, s'⟩ := hrel
    have hb := shb_bd hx i
    obtain ⟨A1, c1, sp1, rfl, _⟩ := id own
    by_cases hi : i < n
    · have hi2 : i < 4096 := by omega
      go_wp2_with (at_builtin; refine append8 rfl (.tmp 12) (.tmp 15) rfl rfl own s'.alloc rfl [shb x i % 256] rfl row_lit (by omega) ?_; intro A2 cap2 w2 h2 ho hs)
      go_roundg (gk - 1)
      case measure => omega
      case rel => exact ⟨i + 1, h2, by omega, by go_num, rfl, by rw [leb_snoc, List.map_append]; exact ho, hs.wk⟩
    · obtain rfl : i = n := by omega
      go_wp2
      exact k _ _ h' own s'

/-! are two slices of bytes alike? (the document's own) -/
set_option maxRecDepth 100000 in
set_option maxHeartbeats 4000000 in
theorem c_Bytes {h1 h2 : Hp} {a b : Value} {xs ys : List Int} (H1 : Holds w h1) (H2 : Holds w h2) (r1 : Rd u8E 1 h1 a xs) (r2 : Rd u8E 1 h2 b ys)
    (k : ∀ n, R (.returned (.bool (decide (xs = ys)))) (w.drewN n)) :
    Calls Try.prog 45 #[a, b] w R := by
  obtain ⟨A, c, rfl, r1⟩ := r1.open_
  obtain ⟨B, d, rfl, r2⟩ := r2.open_
  obtain ⟨_, hc, hc2, g1⟩ := r1.u8
  obtain ⟨_, hd, hd2, g2⟩ := r2.u8
  clear r1 r2
  by_cases hl : xs.length = ys.length
  · have e1 : ((xs.length : Int) != (ys.length : Int)) = false := by simp [hl]
    have HL := aside hl
    clear hl
    go_enter Try.func45, Try.ntmps45
    go_wp2
    go_loopg [5] xs.length (fun m v w' => ∃ (i n : Nat), m + i = xs.length ∧ v = .int .i64 i ∧ w' = w.drewN n ∧ Aside (xs.take i = ys.take i))
    case atStart => exact ⟨0, 0, by simp, rfl, rfl, by simp [Aside]⟩
    case round =>
      obtain ⟨i, n, hm, rfl, rfl, ht⟩ := hrel
      by_cases hi : i < xs.length
      · have hi2 : i < ys.length := by have := HL.out; omega
        obtain ⟨ba, oa, rfl, hca, _, _⟩ := g1 i hi
        obtain ⟨bb, ob, rfl, hcb, _, _⟩ := g2 i hi2
        have ca := H1.cell hca
        have cb := H2.cell hcb
        clear hca hcb g1 g2
        by_cases he : xs[i] = ys[i]
        · have e2 : (xs[i] != ys[i]) = false := by simp [he]
          have ht' : Aside (xs.take (i + 1) = ys.take (i + 1)) := by
            have := ht.out
            show _ = _
            rw [List.take_succ_eq_append_getElem hi, List.take_succ_eq_append_getElem hi2, he, this]
          clear he
          go_wp2
          go_quiet (fail)
          go_wp2
          go_roundg (gk - 1)
          case measure => omega
          case rel => exact ⟨i + 1, n + nq, by omega, by go_num, rfl, ht'⟩
        · have e2 : (xs[i] != ys[i]) = true := by simp [he]
          have ne : decide (xs = ys) = false := by simp; rintro rfl; exact he rfl
          clear he
          go_wp2
          go_quiet (fail)
          go_wp2
          (simp only [World.drewN_drewN]; exact ret_b (k _) ne)
      · have eq : decide (xs = ys) = true := by
          have := ht.out
          have hl := HL.out
          rw [List.take_of_length_le (by omega), List.take_of_length_le (by omega)] at this
          simp [this]
        go_wp2
        exact ret_b (k _) eq
  · have e1 : ((xs.length : Int) != (ys.length : Int)) = true := by simp; omega
    have ne : decide (xs = ys) = false := by simp; rintro rfl; exact hl rfl
    go_enter Try.func45, Try.ntmps45
    go_wp2
    exact ret_b (k 0) ne
end

end Go.Proofs.Ytippipfogbgemaa
