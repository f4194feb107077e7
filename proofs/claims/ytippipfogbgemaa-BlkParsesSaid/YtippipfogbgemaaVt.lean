/-
  THE DOCUMENT'S MEMORY (vireoref02): Write.
-/
import Derived.Test.YtippipfogbgemaaVs
import Derived.Handy
namespace Go.Proofs.Ytippipfogbgemaa
open Go.RowKit
set_option linter.unusedVariables false

theorem Sat.frozen {W0 w : World} {H h : Hp} {A : List Hp} (s : Sat W0 w H (h :: A)) : ∀ l c, h l = some c → un H h l = some c := by
  intro l c e
  rcases (s.each h (List.mem_cons_self ..)).2 l with h1 | h1
  · rw [e] at h1; cases h1
  · simp [un, h1, e]
theorem un_left {H h : Hp} : ∀ l c, H l = some c → un H h l = some c := by intro l c e; simp [un, e]

/-! ### rows of entries -/
def encB (x : Int × Int) : List Value := [.int .u64 x.1, .int .u8 x.2]
theorem encB_len (L : List (Int × Int)) : (L.flatMap encB).length = L.length * 2 := by
  induction L with
  | nil => rfl
  | cons x xs ih => rw [List.flatMap_cons, List.length_append, ih, List.length_cons]; simp [encB]; omega
theorem encB_at {L : List (Int × Int)} : ∀ {i : Nat} {x : Int × Int}, L[i]? = some x → (L.flatMap encB)[i * 2]? = some (.int .u64 x.1) ∧ (L.flatMap encB)[i * 2 + 1]? = some (.int .u8 x.2) := by
  induction L with
  | nil => intro i x h; simp at h
  | cons y ys ih =>
    intro i x h
    cases i with
    | zero => simp at h; subst h; exact ⟨rfl, rfl⟩
    | succ i =>
      have := ih (i := i) (x := x) (by simpa using h)
      have e : (i + 1) * 2 = i * 2 + 2 := by omega
      rw [e]
      simpa [List.flatMap_cons, encB] using this
theorem encB_set {L : List (Int × Int)} : ∀ {i : Nat} (x : Int × Int), ((L.flatMap encB).set (i * 2) (.int .u64 x.1)).set (i * 2 + 1) (.int .u8 x.2) = (L.set i x).flatMap encB := by
  induction L with
  | nil => intro i x; rfl
  | cons y ys ih =>
    intro i x
    cases i with
    | zero => rfl
    | succ i =>
      have e : (i + 1) * 2 = i * 2 + 2 := by omega
      rw [e]
      have := ih (i := i) x
      simp only [List.flatMap_cons, encB, List.cons_append, List.nil_append, List.set_cons_succ] at this ⊢
      rw [← this]

/-- a row of n entries that is filled from the front -/
def fill2 (xs : List (Int × Int)) (n : Nat) : List (Int × Int) := xs ++ List.replicate (n - xs.length) (0, 0)
theorem fill2_len {xs : List (Int × Int)} {n : Nat} (h : xs.length ≤ n) : (fill2 xs n).length = n := by simp [fill2]; omega
theorem fill2_at {xs : List (Int × Int)} {n : Nat} (h : xs.length < n) : (fill2 xs n)[xs.length]? = some (0, 0) := by
  unfold fill2
  rw [List.getElem?_append_right (Nat.le_refl _)]
  have : 0 < n - xs.length := by omega
  simp [this]
theorem fill2_set {xs : List (Int × Int)} {n : Nat} (h : xs.length < n) (v : Int × Int) : (fill2 xs n).set xs.length v = fill2 (xs ++ [v]) n := by
  unfold fill2
  rw [List.set_append_right _ _ (Nat.le_refl _)]
  simp only [Nat.sub_self, List.length_append, List.length_cons, List.length_nil, List.append_assoc]
  congr 1
  have : n - xs.length = (n - (xs.length + (0 + 1))) + 1 := by omega
  rw [this, List.replicate_succ]
  rfl
theorem fill2_full (xs : List (Int × Int)) : fill2 xs xs.length = xs := by simp [fill2]
theorem fill2_zero (n : Nat) : (fill2 [] n).flatMap encB = (madeCells #[Value.int .u64 0, Value.int .u8 0] (n * 2)).toList := by
  apply List.ext_getElem?
  intro j
  have hl : (fill2 [] n).length = n := fill2_len (Nat.zero_le _)
  rcases Nat.lt_or_ge j (n * 2) with hj | hj
  · obtain ⟨i, rfl | rfl⟩ : ∃ i, j = i * 2 ∨ j = i * 2 + 1 := ⟨j / 2, by omega⟩
    · have hi : i < n := by omega
      have := (encB_at (L := fill2 [] n) (i := i) (x := (0, 0)) (by simp [fill2, hi])).1
      rw [this]; simp [madeCells, hj]
    · have hi : i < n := by omega
      have := (encB_at (L := fill2 [] n) (i := i) (x := (0, 0)) (by simp [fill2, hi])).2
      rw [this]
      have : (i * 2 + 1) % 2 = 1 := by omega
      simp [madeCells, hj, this]
  · rw [List.getElem?_eq_none (by rw [encB_len, hl]; exact hj), List.getElem?_eq_none (by simp [madeCells]; exact hj)]

/-- the entries that a Write of bytes makes, the first n -/
def entN (a : Int) (ds : List Int) : Nat → List (Int × Int)
  | 0 => []
  | n + 1 => entN a ds n ++ [(a + n, ds.getD n 0)]
theorem entN_len (a : Int) (ds : List Int) (n : Nat) : (entN a ds n).length = n := by induction n with | zero => rfl | succ n ih => simp [entN, ih]
theorem entN_last (bs : List (Int × Int)) (a : Int) (ds : List Int) : ∀ n, n ≤ ds.length → lastM (bs ++ entN a ds n) = putB (lastM bs) a (ds.take n) := by
  intro n
  induction n with
  | zero => intro _; rw [entN, List.append_nil, List.take_zero, putB_nil]
  | succ n ih =>
    intro h
    have hd : ds.getD n 0 = ds[n]'(by omega) := by simp [List.getD_eq_getElem?_getD, List.getElem?_eq_getElem (show n < ds.length by omega)]
    rw [entN, ← List.append_assoc, lastM_snoc, ih (by omega), List.take_succ_eq_append_getElem (by omega), putB_snoc, List.length_take, hd]
    simp only
    rw [Nat.min_eq_left (by omega)]

theorem entN_bd {a : Int} (h0 : 0 ≤ a ∧ a ≤ 18446744073709551615) {ds : List Int} (h1 : a + ds.length ≤ 18446744073709551615) (hd : ∀ x ∈ ds, 0 ≤ x ∧ x ≤ 255) : ∀ {n : Nat}, n ≤ ds.length → ∀ x ∈ entN a ds n, (0 ≤ x.1 ∧ x.1 ≤ 18446744073709551615) ∧ 0 ≤ x.2 ∧ x.2 ≤ 255 := by
  intro n
  induction n with
  | zero => intro _ x hx; simp [entN] at hx
  | succ n ih =>
    intro hn x hx
    rw [entN] at hx
    rcases List.mem_append.1 hx with h | h
    · exact ih (by omega) x h
    · simp only [List.mem_singleton] at h
      subst h
      have hg : ds.getD n 0 = ds[n]'(by omega) := by simp [List.getD_eq_getElem?_getD, List.getElem?_eq_getElem (show n < ds.length by omega)]
      refine ⟨⟨?_, ?_⟩, ?_⟩
      · simp only; omega
      · simp only; omega
      · simp only; rw [hg]; exact hd _ (List.getElem_mem _)

theorem info_byte : ∃ i, Try.prog.info? 221 = some i ∧ i.zero = some (.agg #[.int .u64 0, .int .u8 0]) ∧ i.size = 2 ∧ i.bytes = 16 := by
  have h : (Try.prog.info? 221).map (fun i => (i.zero, i.size, i.bytes)) = some (some (.agg #[.int .u64 0, .int .u8 0]), 2, 16) := by kernel_rfl
  cases hi : Try.prog.info? 221 with
  | none => simp [hi] at h
  | some i => simp [hi] at h; exact ⟨i, rfl, h⟩

theorem run_make2 (n : Nat) (hn : n ≤ 10000000) (w : World) :
    (Instr.makeSlice 26 (.int .i64 n) (.int .i64 n)).run Try.prog w = .ok (.slice (some ⟨w.heap.size, 0, none⟩) n n) (w.alloc (.cells ((fill2 [] n).flatMap encB).toArray 221)) := by
  obtain ⟨i0, hi, hz, hs1, hb1⟩ := info_byte
  rw [run_make (P := Try.prog) w 26 221 i0 (.agg #[.int .u64 0, .int .u8 0]) Try.underlying26 hi hz .i64 .i64 n n (by omega) (by omega) (by rw [hb1]; omega) (by omega), hs1, fill2_zero]
  simp
  rfl

/-- a row of entries that is read -/
theorem Rd.ofEnt {H : Hp} {B : Nat} {xs : List (Int × Int)} (hc : xs.length ≤ 10000000) (hx : ∀ x ∈ xs, (0 ≤ x.1 ∧ x.1 ≤ 18446744073709551615) ∧ 0 ≤ x.2 ∧ x.2 ≤ 255) (le : ∀ l c, cellsH ⟨B, 0, none⟩ (xs.flatMap encB) l = some c → H l = some c) :
    Rd byteE 2 H (.slice (some ⟨B, 0, none⟩) xs.length xs.length) xs := by
  refine ⟨_, _, rfl, Nat.le_refl _, by omega, fun i x hi => ⟨B, 0, encB x, rfl, ⟨rfl, hx x (List.mem_of_getElem? hi)⟩, rfl, fun j u hu => ⟨false, le _ _ ?_⟩⟩⟩
  have := encB_at hi
  have h2 := cellsH_at (a := ⟨B, 0, none⟩) (vs := xs.flatMap encB) (i := i * 2 + j) (v := u) (by
    match j, hu with
    | 0, hu => simp [encB] at hu; subst hu; exact this.1
    | 1, hu => simp [encB] at hu; subst hu; exact this.2
    | j + 2, hu => simp [encB] at hu)
  simpa [Nat.add_assoc] using h2

section
variable {R : Ending → World → Prop} {W0 w : World} {H : Hp} {A : List Hp} {v : Value} {size : Int} {m : Int → Int} {L : Nat}

set_option maxRecDepth 100000 in
set_option maxHeartbeats 4000000 in
theorem c_refWrite (s : Sat W0 w H A) (r : RefM H v size m L) (hz : 0 ≤ size ∧ size ≤ 268435456) (a : Int) (h0 : 0 ≤ a ∧ a ≤ 18446744073709551615) {dv : Value} {hp : Hp} {ds : List Int} (rd : Rd u8E 1 hp dv ds) (hL : L + ds.length ≤ 1000000) (hk : ∀ w', Sat W0 w' H A → Holds w' hp)
    (kb : ¬ hasP size a ds.length → ∀ w', Sat W0 w' H A → R (.returned (.tuple #[v, .bool false])) w')
    (k : hasP size a ds.length → ∀ w' H' v', (∀ l c, H l = some c → H' l = some c) → RefM H' v' size (putB m a ds) (L + ds.length) → Sat W0 w' H' A → R (.returned (.tuple #[v', .bool true])) w') : Calls Try.prog 68 #[v, .int .u64 a, dv] w R := by
  obtain ⟨sl, bs, rfl, rb, rfl, hl⟩ := id r
  obtain ⟨D, dc, rfl, rd⟩ := rd.open_
  obtain ⟨_, hc, hc2, g⟩ := rd.u8
  obtain ⟨B0, cb, rfl, rb⟩ := rb.open_
  obtain ⟨_, hc', hc2', gb⟩ := rb.byte2
  have hbd := rd.bytes
  clear rd rb
  have s1 : Sat W0 _ H (cellsH ⟨w.heap.size, 0, none⟩ [.int .u64 size, .slice B0 bs.length cb] :: A) := s.alloc (t := 28)
  have s2 := s1.alloc (c := [.int .u64 0, .slice none 0 0]) (t := 28)
  rw [World.size_alloc] at s2
  obtain ⟨X, hX⟩ : ∃ X, w.heap.size = X := ⟨_, rfl⟩
  rw [hX] at s2
  have c0 := s2.cel X 0 0 rfl
  have c1 := s2.cel X 0 1 rfl
  rw [Nat.zero_add] at c0 c1
  by_cases hh : hasP size a ds.length
  · have K := k hh
    have hmk : ∀ W, (Instr.makeSlice 26 (.int .i64 ((bs.length : Int) + (ds.length : Int))) (.int .i64 ((bs.length : Int) + (ds.length : Int)))).run Try.prog W = .ok (.slice (some ⟨W.heap.size, 0, none⟩) (bs.length + ds.length) (bs.length + ds.length)) (W.alloc (.cells ((fill2 [] (bs.length + ds.length)).flatMap encB).toArray 221)) := fun W => by
      have := run_make2 (bs.length + ds.length) (by omega) W
      simpa using this
    have hlen : (ds.length : Int) ≤ 1000000 := by omega
    have hlen2 : (bs.length : Int) ≤ 1000000 := by omega
    unfold hasP at hh
    go_enter Try.func68, Try.ntmps68
    go_wp2_with (go_at_call 32; refine c_refHas s2 (by omega) _ _ h0 (by omega) ?_; rw [decide_eq_true (show hasP size a ds.length from hh)]; intro w2 s3; have d1 := s3.cel X 0 1 rfl; rw [Nat.zero_add] at d1)
    clear k kb hmk c0 c1 s s1 s2
    obtain ⟨n, hn⟩ : ∃ n, bs.length + ds.length = n := ⟨_, rfl⟩
    obtain ⟨B, hB⟩ : ∃ B, w2.heap.size = B := ⟨_, rfl⟩
    have s4 := s3.alloc (c := (fill2 [] n).flatMap encB) (t := 221)
    rw [hB] at s4
    simp only [hB, hn]
    clear s3 d1
    go_loopg [9] bs.length (fun q v9 w' => ∃ (i : Nat), q + i = bs.length ∧ v9 = .int .i64 i ∧ Sat W0 w' H (cellsH ⟨B, 0, none⟩ ((fill2 (bs.take i) n).flatMap encB) :: (cellsH ⟨X + 1, 0, none⟩ [.int .u64 0, .slice none 0 0] :: (cellsH ⟨X, 0, none⟩ [.int .u64 size, .slice B0 bs.length cb] :: A))))
    case atStart => exact ⟨0, by simp, rfl, s4⟩
    case round =>
      obtain ⟨i, hq, rfl, s'⟩ := hrel
      have d1 := s'.cel X 0 1 rfl
      rw [Nat.zero_add] at d1
      by_cases hi : i < bs.length
      · have hin : i < n := by omega
        have hln : (bs.take i).length = i := by rw [List.length_take]; omega
        have hat := encB_at (fill2_at (xs := bs.take i) (n := n) (by omega))
        have hst := fill2_set (xs := bs.take i) (n := n) (by omega) bs[i]
        have hl2 : ((fill2 (bs.take i) n).flatMap encB).length = n * 2 := by rw [encB_len, fill2_len (by omega)]
        rw [hln] at hst hat
        have htk : bs.take (i + 1) = bs.take i ++ [bs[i]] := List.take_succ_eq_append_getElem hi
        obtain ⟨bb, ob, rfl, hc0, hc1, hb0, hb1, hb2⟩ := gb i hi
        have x0 := s'.ro.cell hc0
        have x1 := s'.ro.cell hc1
        have y0 := s'.c (i * 2) hat.1
        have y1 := s'.c (i * 2 + 1) hat.2
        have s5 := s'.s (i * 2) (by rw [hl2]; omega) (.int .u64 bs[i].1)
        have y2 := s5.c (i * 2 + 1) (by rw [List.getElem?_set_ne (by omega)]; exact hat.2)
        have s6 := s5.s (i * 2 + 1) (by rw [List.length_set, hl2]; omega) (.int .u8 bs[i].2)
        rw [encB_set bs[i], hst, ← htk] at s6
        rw [Nat.zero_add] at y0 y1 y2 s6
        rw [Nat.zero_add] at y2 s6
        obtain ⟨x, hx⟩ : ∃ x, bs[i].1 = x := ⟨_, rfl⟩
        obtain ⟨y, hy⟩ : ∃ y, bs[i].2 = y := ⟨_, rfl⟩
        rw [hx] at x0 s6 y2
        rw [hy] at x1 s6
        clear hat hst hl2 hln htk hc0 hc1 hb0 hb1 hb2 g gb s5 s' hx hy hh h0
        go_wp2
        go_roundg (gk - 1)
        case measure => omega
        case rel => exact ⟨i + 1, by omega, by go_num, s6⟩
      · obtain rfl : i = bs.length := by omega
        rw [List.take_length] at s'
        clear s4
        go_wp2
        go_loopg [10] ds.length (fun q v10 w' => ∃ (i : Nat), q + i = ds.length ∧ v10 = .int .i64 i ∧ Sat W0 w' H (cellsH ⟨B, 0, none⟩ ((fill2 (bs ++ entN a ds i) n).flatMap encB) :: (cellsH ⟨X + 1, 0, none⟩ [.int .u64 0, .slice none 0 0] :: (cellsH ⟨X, 0, none⟩ [.int .u64 size, .slice B0 bs.length cb] :: A))))
        case atStart => exact ⟨0, by simp, rfl, by rw [entN, List.append_nil]; exact s'⟩
        case round =>
          obtain ⟨i, hq, rfl, s'⟩ := hrel
          have d1 := s'.cel X 0 1 rfl
          rw [Nat.zero_add] at d1
          by_cases hi : i < ds.length
          · have hin : bs.length + i < n := by omega
            have hln : (bs ++ entN a ds i).length = bs.length + i := by rw [List.length_append, entN_len]
            have hat := encB_at (fill2_at (xs := bs ++ entN a ds i) (n := n) (by omega))
            have hst := fill2_set (xs := bs ++ entN a ds i) (n := n) (by omega) (a + (i : Int), ds.getD i 0)
            have hl2 : ((fill2 (bs ++ entN a ds i) n).flatMap encB).length = n * 2 := by rw [encB_len, fill2_len (by omega)]
            rw [hln] at hst hat
            have htk : bs ++ entN a ds (i + 1) = (bs ++ entN a ds i) ++ [(a + (i : Int), ds.getD i 0)] := by rw [entN, List.append_assoc]
            have hgd : ds.getD i 0 = ds[i] := by simp [List.getD_eq_getElem?_getD, List.getElem?_eq_getElem hi]
            obtain ⟨bb, ob, rfl, hc0, hb0, hb1⟩ := g i hi
            have x0 := (hk _ s'.tail1.tail1.tail1).cell hc0
            have y0 := s'.c ((bs.length + i) * 2) hat.1
            have y1 := s'.c ((bs.length + i) * 2 + 1) hat.2
            have s5 := s'.s ((bs.length + i) * 2) (by rw [hl2]; omega) (.int .u64 (a + i))
            have y2 := s5.c ((bs.length + i) * 2 + 1) (by rw [List.getElem?_set_ne (by omega)]; exact hat.2)
            have s6 := s5.s ((bs.length + i) * 2 + 1) (by rw [List.length_set, hl2]; omega) (.int .u8 (ds.getD i 0))
            rw [encB_set (a + (i : Int), ds.getD i 0), hst, ← htk] at s6
            rw [Nat.zero_add] at y0 y1 y2 s6
            rw [Nat.zero_add] at y2 s6
            obtain ⟨y, hy⟩ : ∃ y, ds[i] = y := ⟨_, rfl⟩
            rw [hgd, hy] at s6
            rw [hy] at x0
            have e1 : IntKind.u64.wrap (i : Int) = i := by rw [wrap_u64]; omega
            have e2 : IntKind.u64.wrap (a + i) = a + i := by rw [wrap_u64]; omega
            obtain ⟨j, hj⟩ : ∃ j, bs.length + i = j := ⟨_, rfl⟩
            have e3 : IntKind.i64.wrap ((bs.length : Int) + (i : Int)) = (j : Int) := by rw [IntKind.wrap_i64]; omega
            have hjn : (j : Int) < (n : Int) := by omega
            rw [hj] at y0 y1 y2 s6
            replace hj := aside hj
            replace hn := aside hn
            clear hat hst hl2 hln htk hc0 hb0 hb1 g gb s5 s' hy hh h0 hgd hin
            go_wp2
            go_region_law (fail)
            all_goals
              go_wp2
              go_roundg (gk - 1)
              case measure => omega
              case rel => exact ⟨i + 1, by omega, by go_num, s6.drew⟩
          · obtain rfl : i = ds.length := by omega
            have hln : (bs ++ entN a ds ds.length).length = n := by rw [List.length_append, entN_len]; exact hn
            have hfull : fill2 (bs ++ entN a ds ds.length) n = bs ++ entN a ds ds.length := by rw [← hln]; exact fill2_full _
            rw [hfull] at s'
            have s5 := Sat.pull (h := cellsH ⟨X, 0, none⟩ [.int .u64 size, .slice B0 bs.length cb]) s'
            have s6 := s5.s 1 (by simp) (.slice (some ⟨B, 0, none⟩) n n)
            simp only [List.set_cons_succ, List.set_cons_zero] at s6
            have z0 := s6.c0
            have z1 := s6.c 1 rfl
            have s7 := Sat.pull (h := cellsH ⟨X + 1, 0, none⟩ [.int .u64 0, .slice none 0 0]) s6
            have q0 := s7.c0
            have t7 := s7.s0 (.int .u64 size)
            have q1 := t7.c 1 rfl
            have s8 := t7.s 1 (by simp) (.slice (some ⟨B, 0, none⟩) n n)
            simp only [List.set_cons_succ, List.set_cons_zero] at s8
            have f0 := s8.c0
            have f1 := s8.c 1 rfl
            have s9 := Sat.pull (h := cellsH ⟨B, 0, none⟩ ((bs ++ entN a ds ds.length).flatMap encB)) s8
            have hrd := Rd.ofEnt (H := un H (cellsH ⟨B, 0, none⟩ ((bs ++ entN a ds ds.length).flatMap encB))) (B := B) (xs := bs ++ entN a ds ds.length) (by omega) (fun x hx => by
              rcases List.mem_append.1 hx with h | h
              · obtain ⟨i, hi, rfl⟩ := List.mem_iff_getElem.1 h
                obtain ⟨_, _, _, _, _, h2⟩ := gb i hi
                exact h2
              · exact entN_bd h0 (by omega) hbd (by omega) x h) s9.frozen
            rw [hln] at hrd
            have K2 := K _ _ _ un_left ⟨_, _, rfl, hrd, (by have := entN_last bs a ds ds.length (Nat.le_refl _); rw [List.take_length] at this; exact this.symm), by rw [hln]; omega⟩ s9.freeze.tail1.tail1
            rw [Nat.zero_add] at z1 q1 f1
            simp only [Nat.zero_add] at z0 z1 q0 q1 f0 f1 K2
            clear K hrd s9 s8 t7 s7 s6 s5 s' hfull hln g gb hh h0 hk hbd
            go_wp2
            refine bodyPost_ret (by simp [results, Try.results68, go_sem, f0.1, f1.1]; try rfl) rfl ?_
            exact K2
  · go_enter Try.func68, Try.ntmps68
    go_wp2_with (go_at_call 32; refine c_refHas s2 (by omega) _ _ h0 (by omega) ?_; rw [decide_eq_false hh]; intro w2 s3; have d0 := s3.cel X 0 0 rfl; have d1 := s3.cel X 0 1 rfl; have e0 := s3.cel (X + 1) 0 0 rfl;  have e1 := s3.cel (X + 1) 0 1 rfl; rw [Nat.zero_add] at d0 d1 e0 e1)
    have s4 := (s3.s0 (.int .u64 size)).s 1 (by simp) (.slice B0 bs.length cb)
    rw [Nat.zero_add] at s4
    have f0 := s4.c0
    have f1 := s4.c 1 rfl
    rw [Nat.zero_add] at f1
    generalize World.setCell (World.setCell w2 _ _) _ _ = W at *
    refine bodyPost_ret (by simp [results, Try.results68, go_sem, f0.1, f1.1]; try rfl) rfl ?_
    exact kb hh _ s4.tail1.tail1
end

end Go.Proofs.Ytippipfogbgemaa
