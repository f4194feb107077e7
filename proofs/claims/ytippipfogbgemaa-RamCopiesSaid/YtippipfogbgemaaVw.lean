/-
  RAM's laws: one call at the memory and at the document's.
-/
import Derived.Test.YtippipfogbgemaaVu
import Derived.Test.YtippipfogbgemaaVv
namespace Go.Proofs.Ytippipfogbgemaa
open Go.RowKit
set_option linter.unusedVariables false

section
variable {R : Ending → World → Prop} {W0 w : World} {H : Hp} {A F : List Hp} {b : Nat} {r : RamG} {v : Value} {size : Int} {m : Int → Int} {L : Nat}

def condS (size n a : Int) : Prop := sizedP n ∧ hasP size a n
instance (s n a : Int) : Decidable (condS s n a) := by unfold condS; infer_instance

theorem RefM.shape (h : RefM H v size m L) : ∃ B n c, v = .agg #[.int .u64 size, .slice B n c] := by
  obtain ⟨sl, bs, rfl, rd, _⟩ := h
  obtain ⟨B, c, rfl, _⟩ := rd.open_
  exact ⟨B, _, c, rfl⟩

theorem c_refStore1 (s : Sat W0 w H A) (rm : RefM H v size m L) (hL : L ≤ 900000) (hz : 0 ≤ size ∧ size ≤ 268435456) (a n x : Int) (h0 : 0 ≤ a ∧ a ≤ 18446744073709551615) (hn : -9223372036854775808 ≤ n ∧ n ≤ 9223372036854775807) (hx : 0 ≤ x ∧ x ≤ 18446744073709551615)
    (k : ∀ w' H' v', (∀ l c, H l = some c → H' l = some c) → RefM H' v' size (if condS size n a then putB m a (leb x n.toNat) else m) (L + 64) → Sat W0 w' H' A → R (.returned (.tuple #[v', .bool (decide (condS size n a))])) w') : Calls Try.prog 67 #[v, .int .u64 a, .int .i64 n, .int .u64 x] w R := by
  refine c_refStore s rm hL hz a n x h0 hn hx (fun hc w' s' => ?_) (fun hc w' H' v' le r' s' => ?_)
  · have := k w' H v (fun _ _ h => h) (by rw [if_neg (show ¬ condS size n a from hc)]; exact rm.le (by omega)) s'
    rwa [decide_eq_false (show ¬ condS size n a from hc)] at this
  · have := k w' H' v' le (by rw [if_pos (show condS size n a from hc)]; exact r'.le (by omega)) s'
    rwa [decide_eq_true (show condS size n a from hc)] at this

theorem c_ramStore1 (s : Sat W0 w H A) [fr : FrK (κ := Addr) (ρ := fun _ => RamG × Option LogG) ramL ⟨b, 0, none⟩ A (r, none) F] (a n x : Int) (h0 : 0 ≤ a ∧ a ≤ 18446744073709551615) (hn : -9223372036854775808 ≤ n ∧ n ≤ 9223372036854775807) (hx : 0 ≤ x ∧ x ≤ 18446744073709551615)
    (k : ∀ w' r', r'.mem = (if condS r.size n a then putB r.mem a (leb x n.toNat) else r.mem) → r'.size = r.size → Sat W0 w' H (ramL ⟨b, 0, none⟩ (r', none) ++ F) → R (.returned (.bool (decide (condS r.size n a)))) w') : Calls Try.prog 40 #[.pointer (some ⟨b, 0, none⟩), .int .u64 a, .int .i64 n, .int .u64 x] w R := by
  have e : (sizedP n ∧ r.has a n) ↔ condS r.size n a := by
    unfold condS
    constructor
    · rintro ⟨h1, h2⟩; exact ⟨h1, (has_iff r a n (by unfold sizedP at h1; omega)).1 h2⟩
    · rintro ⟨h1, h2⟩; exact ⟨h1, (has_iff r a n (by unfold sizedP at h1; omega)).2 h2⟩
  refine c_ramStore s a n x h0 hn hx (fun hc => ?_) (fun hc w' r' l' hm hz hl s' => ?_)
  · have hc' : ¬ condS r.size n a := fun h => hc (e.2 h)
    have := k w r (by rw [if_neg hc']) rfl (s.front (mk := ramL) (k := ⟨b, 0, none⟩))
    rwa [decide_eq_false hc'] at this
  · have hc' := e.1 hc
    have hn : l' = none := by
      cases l' with
      | none => rfl
      | some x => simp [lgs, addW] at hl
    subst hn
    have := k w' r' (by rw [if_pos hc']; exact hm) hz s'
    rwa [decide_eq_true hc'] at this

theorem c_refWrite1 (s : Sat W0 w H A) (rm : RefM H v size m L) (hL : L ≤ 900000) (hz : 0 ≤ size ∧ size ≤ 268435456) (a : Int) (h0 : 0 ≤ a ∧ a ≤ 18446744073709551615) {dv : Value} {ds : List Int} (rd : Rd u8E 1 H dv ds) (hd : ds.length ≤ 64)
    (k : ∀ w' H' v', (∀ l c, H l = some c → H' l = some c) → RefM H' v' size (if hasP size a ds.length then putB m a ds else m) (L + 64) → Sat W0 w' H' A → R (.returned (.tuple #[v', .bool (decide (hasP size a ds.length))])) w') : Calls Try.prog 68 #[v, .int .u64 a, dv] w R := by
  refine c_refWrite s rm hz a h0 rd (by omega) (fun _ s => s.ro) (fun hc w' s' => ?_) (fun hc w' H' v' le r' s' => ?_)
  · have := k w' H v (fun _ _ h => h) (by rw [if_neg hc]; exact rm.le (by omega)) s'
    rwa [decide_eq_false hc] at this
  · have := k w' H' v' le (by rw [if_pos hc]; exact r'.le (by omega)) s'
    rwa [decide_eq_true hc] at this

theorem c_ramWrite1 (s : Sat W0 w H A) [fr : FrK (κ := Addr) (ρ := fun _ => RamG × Option LogG) ramL ⟨b, 0, none⟩ A (r, none) F] (a : Int) (h0 : 0 ≤ a ∧ a ≤ 18446744073709551615) {dv : Value} {ds : List Int} (rd : Rd u8E 1 H dv ds)
    (k : ∀ w' r', r'.mem = (if hasP r.size a ds.length then putB r.mem a ds else r.mem) → r'.size = r.size → Sat W0 w' H (ramL ⟨b, 0, none⟩ (r', none) ++ F) → R (.returned (.bool (decide (hasP r.size a ds.length)))) w') : Calls Try.prog 41 #[.pointer (some ⟨b, 0, none⟩), .int .u64 a, dv] w R := by
  have e := has_iff r a ds.length (by omega)
  refine c_ramWrite s a h0 rd (fun _ s => s.ro) (fun hc => ?_) (fun hc w' r' l' hm hz hl s' => ?_)
  · have hc' : ¬ hasP r.size a ds.length := fun h => hc (e.2 h)
    have := k w r (by rw [if_neg hc']) rfl (s.front (mk := ramL) (k := ⟨b, 0, none⟩))
    rwa [decide_eq_false hc'] at this
  · have hc' := e.1 hc
    have hn : l' = none := by
      cases l' with
      | none => rfl
      | some x => simp [lgs, addW] at hl
    subst hn
    have := k w' r' (by rw [if_pos hc']; exact hm) hz s'
    rwa [decide_eq_true hc'] at this

theorem c_refLoad1 (s : Sat W0 w H A) (rm : RefM H v size m L) (hL : L ≤ 1000000) (hz : 0 ≤ size ∧ size ≤ 268435456) (a n : Int) (h0 : 0 ≤ a ∧ a ≤ 18446744073709551615) (hn : -9223372036854775808 ≤ n ∧ n ≤ 9223372036854775807)
    (k : ∀ w', Sat W0 w' H A → R (.returned (.tuple #[.int .u64 (if condS size n a then ofB (rdB m a n.toNat) else 0), .bool (decide (condS size n a))])) w') : Calls Try.prog 69 #[v, .int .u64 a, .int .i64 n] w R := by
  refine c_refLoad s rm hL hz a n h0 hn (fun hc w' s' => ?_) (fun hc w' s' => ?_)
  · have := k w' s'
    rwa [decide_eq_false (show ¬ condS size n a from hc), if_neg (show ¬ condS size n a from hc)] at this
  · have := k w' s'
    rwa [decide_eq_true (show condS size n a from hc), if_pos (show condS size n a from hc)] at this

theorem c_ramLoad1 (s : Sat W0 w H A) [fr : FrK (κ := Addr) (ρ := fun _ => RamG × Option LogG) ramL ⟨b, 0, none⟩ A (r, none) F] (a n : Int) (h0 : 0 ≤ a ∧ a ≤ 18446744073709551615) (hn : -9223372036854775808 ≤ n ∧ n ≤ 9223372036854775807)
    (k : R (.returned (.tuple #[.int .u64 (if condS r.size n a then ofB (rdB r.mem a n.toNat) else 0), .bool (decide (condS r.size n a))])) w) : Calls Try.prog 43 #[.pointer (some ⟨b, 0, none⟩), .int .u64 a, .int .i64 n] w R := by
  have e : (sizedP n ∧ r.has a n) ↔ condS r.size n a := by
    unfold condS
    constructor
    · rintro ⟨h1, h2⟩; exact ⟨h1, (has_iff r a n (by unfold sizedP at h1; omega)).1 h2⟩
    · rintro ⟨h1, h2⟩; exact ⟨h1, (has_iff r a n (by unfold sizedP at h1; omega)).2 h2⟩
  refine c_ramLoad s a n h0 hn (fun hc => ?_) (fun hc => ?_)
  · have hc' : ¬ condS r.size n a := fun h => hc (e.2 h)
    rwa [decide_eq_false hc', if_neg hc'] at k
  · rwa [decide_eq_true (e.1 hc), if_pos (e.1 hc)] at k

theorem c_refRead1 (s : Sat W0 w H A) (rm : RefM H v size m L) (hL : L ≤ 1000000) (hz : 0 ≤ size ∧ size ≤ 268435456) (a n : Int) (h0 : 0 ≤ a ∧ a ≤ 18446744073709551615) (hn : 0 ≤ n ∧ n ≤ 18446744073709551615)
    (k : ∀ w' v' h', Rd u8E 1 h' v' (if hasP size a n then rdB m a n.toNat else []) → Sat W0 w' H (h' :: A) → R (.returned (.tuple #[v', .bool (decide (hasP size a n))])) w') : Calls Try.prog 70 #[v, .int .u64 a, .int .u64 n] w R := by
  refine c_refRead s rm hL hz a n h0 hn (fun hc w' s' => ?_) (fun hc w' v' h' o' s' => ?_)
  · have := k w' _ empH (by rw [if_neg hc]; exact Rd.nil) s'.emp
    rwa [decide_eq_false hc] at this
  · have := k w' v' h' (by rw [if_pos hc]; exact o'.rd (rdB_bd rm.bd _ _)) s'
    rwa [decide_eq_true hc] at this

theorem c_ramRead1 (s : Sat W0 w H A) [fr : FrK (κ := Addr) (ρ := fun _ => RamG × Option LogG) ramL ⟨b, 0, none⟩ A (r, none) F] (a n : Int) (h0 : 0 ≤ a ∧ a ≤ 18446744073709551615) (hn : 0 ≤ n ∧ n ≤ 18446744073709551615)
    (k : ∀ w' v' h', Rd u8E 1 h' v' (if hasP r.size a n then rdB r.mem a n.toNat else []) → Sat W0 w' H (h' :: (ramL ⟨b, 0, none⟩ (r, none) ++ F)) → R (.returned (.tuple #[v', .bool (decide (hasP r.size a n))])) w') : Calls Try.prog 44 #[.pointer (some ⟨b, 0, none⟩), .int .u64 a, .int .u64 n] w R := by
  have e := has_iff r a n hn.1
  refine c_ramRead s a n h0 hn (fun hc => ?_) (fun hc w' v' h' l' o' hl s' => ?_)
  · have hc' : ¬ hasP r.size a n := fun h => hc (e.2 h)
    have := k w _ empH (by rw [if_neg hc']; exact Rd.nil) (s.front (mk := ramL) (k := ⟨b, 0, none⟩)).emp
    rwa [decide_eq_false hc'] at this
  · have hc' := e.1 hc
    have hn : l' = none := by
      cases l' with
      | none => rfl
      | some x => simp [lgs, addR] at hl
    subst hn
    have := k w' v' h' (by rw [if_pos hc']; exact o'.rd (rdB_bd r.hmem _ _)) s'
    rwa [decide_eq_true hc'] at this

set_option maxRecDepth 100000 in
set_option maxHeartbeats 4000000 in
theorem c_do (s : Sat W0 w H A) [fr : FrK (κ := Addr) (ρ := fun _ => RamG × Option LogG) ramL ⟨b, 0, none⟩ A (r, none) F] (rm : RefM H v r.size r.mem L) (hL : L ≤ 800000) (op : OpM) (hsm : op.small) {dv : Value} (rd : Rd u8E 1 H dv op.data)
    (k : ∀ w' H' v' (r' : RamG), (∀ l c, H l = some c → H' l = some c) → r'.size = r.size → RefM H' v' r'.size r'.mem (L + 64) → Sat W0 w' H' (ramL ⟨b, 0, none⟩ (r', none) ++ F) → R (.returned (.tuple #[v', .bool true])) w') :
    Calls Try.prog 21 #[.pointer (some ⟨b, 0, none⟩), v, .agg (op.vals dv).toArray] w R := by
  have hz := r.hsize
  have s0 := s.front (mk := ramL) (k := ⟨b, 0, none⟩)
  obtain ⟨D, dc, rfl, rd⟩ := rd.open_
  obtain ⟨B0, n0, c0, rfl⟩ := rm.shape
  have s3 := ((s0.alloc (c := [.int .u64 r.size, .slice B0 n0 c0]) (t := 28)).alloc (c := op.vals (.slice D op.data.length dc)) (t := 38)).alloc (c := [.int .u64 0, .slice none 0 0]) (t := 28)
  have s8 := ((s0.alloc (c := [.int .u64 r.size, .slice B0 n0 c0]) (t := 28)).alloc (c := op.vals (.slice D op.data.length dc)) (t := 38)).alloc (c := [.int .u64 r.size, .slice B0 n0 c0]) (t := 28)
  simp only [World.size_alloc] at s3 s8
  obtain ⟨X, hX⟩ : ∃ X, w.heap.size = X := ⟨_, rfl⟩
  rw [hX] at s3 s8
  obtain ⟨kind, at', n, x, data, hk, ha, hn, hx⟩ := op
  simp only [OpM.vals] at *
  unfold OpM.small at hsm
  simp only at hsm
  have hd64 : data.length ≤ 64 := hsm.1
  have hdl : (data.length : Int) ≤ 64 := by omega
  have p0 := s3.cel X 0 0 rfl
  have p1 := s3.cel X 0 1 rfl
  have y0 := s3.cel (X + 1) 0 0 rfl
  have y1 := s3.cel (X + 1) 0 1 rfl
  have y2 := s3.cel (X + 1) 0 2 rfl
  have y3 := s3.cel (X + 1) 0 3 rfl
  have y4 := s3.cel (X + 1) 0 4 rfl
  simp only [Nat.zero_add] at p0 p1 y0 y1 y2 y3 y4
  clear s s0 fr
  by_cases k0 : kind = 0
  · subst k0
    go_enter Try.func21, Try.ntmps21
    go_wp2_with fail
    refine c_refStore1 s3 rm (by omega) (by omega) _ _ _ ha hn hx ?_
    intro w4 H4 v4 le4 r4 s4
    obtain ⟨B4, n4, c4, rfl⟩ := r4.shape
    clear p0 p1 y0 y1 y2 y3 y4 s3
    go_wp2
    have s5 := s4.alloc (c := [.int .u64 r.size, .slice B4 n4 c4]) (t := 28)
    obtain ⟨Y, hY⟩ : ∃ Y, w4.heap.size = Y := ⟨_, rfl⟩
    rw [hY] at s5
    simp only [hY]
    generalize hW5 : World.alloc w4 _ = w5 at s5 ⊢
    have y1 := s5.cel (X + 1) 0 1 rfl
    have y2 := s5.cel (X + 1) 0 2 rfl
    have y3 := s5.cel (X + 1) 0 3 rfl
    have z0 := s5.cel Y 0 0 rfl
    have z1 := s5.cel Y 0 1 rfl
    simp only [Nat.zero_add] at y1 y2 y3 z0 z1
    obtain ⟨ok, hok⟩ : ∃ ok, decide (condS r.size n at') = ok := ⟨_, rfl⟩
    have eok : (ok == ok) = true := by simp
    simp only [hok]
    replace hok := aside hok
    clear s4 hW5
    go_region_held3 (fun w' => w'.cell? ⟨X + 1, 1, none⟩ = some (.int .u64 at') ∧ w'.cell? ⟨X + 1, 2, none⟩ = some (.int .i64 n) ∧ w'.cell? ⟨X + 1, 3, none⟩ = some (.int .u64 x) ∧ w'.cell? ⟨Y, 0, none⟩ = some (.int .u64 r.size) ∧ w'.cell? ⟨Y, 1, none⟩ = some (.slice B4 n4 c4))
      (first
        | exact ⟨y1.1, y2.1, y3.1, z0.1, z1.1⟩
        | exact ⟨(s7.cel (X + 1) 0 1 rfl).1, (s7.cel (X + 1) 0 2 rfl).1, (s7.cel (X + 1) 0 3 rfl).1, (s7.cel Y 0 0 rfl).1, (s7.cel Y 0 1 rfl).1⟩
        | exact ⟨(s6.cel (X + 1) 0 1 rfl).1, (s6.cel (X + 1) 0 2 rfl).1, (s6.cel (X + 1) 0 3 rfl).1, (s6.cel Y 0 0 rfl).1, (s6.cel Y 0 1 rfl).1⟩)
      (first
        | (go_at_call 40; refine c_ramStore1 s5.drew at' n x ha hn hx ?_; intro w6 r6 hm6 hz6 s6; rw [hok.out]; have q0 := s6.cel (X + 1 + 1) 0 0 rfl; have q1 := (Sat.s0 (Sat.pull (h := cellsH ⟨X + 1 + 1, 0, none⟩ [.int .u64 0, .slice none 0 0]) s6) (.int .u64 r.size)).c 1 rfl; simp only [Nat.zero_add] at q0 q1; have s7 := (Sat.s0 (Sat.pull (h := cellsH ⟨X + 1 + 1, 0, none⟩ [.int .u64 0, .slice none 0 0]) s6) (.int .u64 r.size)).s 1 (by simp) (.slice B4 n4 c4); simp only [List.set_cons_succ, List.set_cons_zero, Nat.zero_add] at s7))
    all_goals
      have f0 := s7.c0
      have f1 := s7.c 1 rfl
      simp only [Nat.zero_add] at f0 f1
      go_wp2
      refine bodyPost_ret (by simp [results, Try.results21, go_sem, f0.1, f1.1]; try rfl) rfl ?_
      exact k _ _ _ r6 le4 hz6 (by rw [hz6, hm6]; exact r4) s7.wk
  by_cases k1 : kind = 1
  · subst k1
    go_enter Try.func21, Try.ntmps21
    go_wp2_with fail
    refine c_refWrite1 s3 rm (by omega) (by omega) _ ha rd hd64 ?_
    intro w4 H4 v4 le4 r4 s4
    obtain ⟨B4, n4, c4, rfl⟩ := r4.shape
    clear p0 p1 y0 y1 y2 y3 y4 s3
    go_wp2
    have s5 := s4.alloc (c := [.int .u64 r.size, .slice B4 n4 c4]) (t := 28)
    obtain ⟨Y, hY⟩ : ∃ Y, w4.heap.size = Y := ⟨_, rfl⟩
    rw [hY] at s5
    simp only [hY]
    generalize hW5 : World.alloc w4 _ = w5 at s5 ⊢
    have y1 := s5.cel (X + 1) 0 1 rfl
    have y4 := s5.cel (X + 1) 0 4 rfl
    have rd4 := rd.mono u8E_mono le4
    have z0 := s5.cel Y 0 0 rfl
    have z1 := s5.cel Y 0 1 rfl
    simp only [Nat.zero_add] at y1 y4 z0 z1
    obtain ⟨ok, hok⟩ : ∃ ok, decide (hasP r.size at' data.length) = ok := ⟨_, rfl⟩
    have eok : (ok == ok) = true := by simp
    simp only [hok]
    replace hok := aside hok
    clear s4 hW5
    go_region_held3 (fun w' => w'.cell? ⟨X + 1, 1, none⟩ = some (.int .u64 at') ∧ w'.cell? ⟨X + 1, 4, none⟩ = some (.slice D data.length dc) ∧ w'.cell? ⟨Y, 0, none⟩ = some (.int .u64 r.size) ∧ w'.cell? ⟨Y, 1, none⟩ = some (.slice B4 n4 c4))
      (first
        | exact ⟨y1.1, y4.1, z0.1, z1.1⟩
        | exact ⟨(s7.cel (X + 1) 0 1 rfl).1, (s7.cel (X + 1) 0 4 rfl).1, (s7.cel Y 0 0 rfl).1, (s7.cel Y 0 1 rfl).1⟩
        | exact ⟨(s6.cel (X + 1) 0 1 rfl).1, (s6.cel (X + 1) 0 4 rfl).1, (s6.cel Y 0 0 rfl).1, (s6.cel Y 0 1 rfl).1⟩)
      (first
        | (go_at_call 41; refine c_ramWrite1 s5.drew at' ha rd4 ?_; intro w6 r6 hm6 hz6 s6; rw [hok.out]; have q0 := s6.cel (X + 1 + 1) 0 0 rfl; have q1 := (Sat.s0 (Sat.pull (h := cellsH ⟨X + 1 + 1, 0, none⟩ [.int .u64 0, .slice none 0 0]) s6) (.int .u64 r.size)).c 1 rfl; simp only [Nat.zero_add] at q0 q1; have s7 := (Sat.s0 (Sat.pull (h := cellsH ⟨X + 1 + 1, 0, none⟩ [.int .u64 0, .slice none 0 0]) s6) (.int .u64 r.size)).s 1 (by simp) (.slice B4 n4 c4); simp only [List.set_cons_succ, List.set_cons_zero, Nat.zero_add] at s7))
    all_goals
      have f0 := s7.c0
      have f1 := s7.c 1 rfl
      simp only [Nat.zero_add] at f0 f1
      go_wp2
      refine bodyPost_ret (by simp [results, Try.results21, go_sem, f0.1, f1.1]; try rfl) rfl ?_
      exact k _ _ _ r6 le4 hz6 (by rw [hz6, hm6]; exact r4) s7.wk
  by_cases k2 : kind = 2
  · subst k2
    go_enter Try.func21, Try.ntmps21
    go_wp2_with fail
    refine c_ramLoad1 s3 _ _ ha hn ?_
    obtain ⟨y, hy⟩ : ∃ y, (if condS r.size n at' then ofB (rdB r.mem at' n.toNat) else 0) = y := ⟨_, rfl⟩
    obtain ⟨ok, hok⟩ : ∃ ok, decide (condS r.size n at') = ok := ⟨_, rfl⟩
    have eok : (ok == ok) = true := by simp
    rw [hy, hok]
    replace hy := aside hy
    replace hok := aside hok
    go_wp2_with fail
    refine c_refLoad1 s3 rm (by omega) (by omega) _ _ ha hn ?_
    intro w4 s4
    rw [hy.out, hok.out]
    have p0 := s4.cel X 0 0 rfl
    have p1 := s4.cel X 0 1 rfl
    have q0 := s4.cel (X + 1 + 1) 0 0 rfl
    have q1 := (Sat.s0 (Sat.pull (h := cellsH ⟨X + 1 + 1, 0, none⟩ [.int .u64 0, .slice none 0 0]) s4) (.int .u64 r.size)).c 1 rfl
    have s7 := (Sat.s0 (Sat.pull (h := cellsH ⟨X + 1 + 1, 0, none⟩ [.int .u64 0, .slice none 0 0]) s4) (.int .u64 r.size)).s 1 (by simp) (.slice B0 n0 c0)
    simp only [List.set_cons_succ, List.set_cons_zero, Nat.zero_add] at s7 p0 p1 q0 q1
    have f0 := s7.c0
    have f1 := s7.c 1 rfl
    simp only [Nat.zero_add] at f0 f1
    clear y0 y1 y2 y3 y4 s3 s4
    go_wp2
    refine bodyPost_ret (by simp [results, Try.results21, go_sem, f0.1, f1.1]; try rfl) rfl ?_
    exact k _ _ _ r (fun _ _ h => h) rfl (rm.le (by omega)) s7.wk
  by_cases k3 : kind = 3
  · subst k3
    have hn64 : 0 ≤ n ∧ n ≤ 64 := by omega
    have e1 : IntKind.u64.wrap n = n := by rw [wrap_u64]; omega
    go_enter Try.func21, Try.ntmps21
    go_wp2_with fail
    refine c_ramRead1 s3 at' n ha (by omega) ?_
    intro w4 v4 h4 r4 s4
    obtain ⟨ok, hok⟩ : ∃ ok, decide (hasP r.size at' n) = ok := ⟨_, rfl⟩
    have eok : (ok == ok) = true := by simp
    rw [hok]
    replace hok := aside hok
    have y1 := s4.cel (X + 1) 0 1 rfl
    have y2 := s4.cel (X + 1) 0 2 rfl
    have p0 := s4.cel X 0 0 rfl
    have p1 := s4.cel X 0 1 rfl
    simp only [Nat.zero_add] at y1 y2 p0 p1
    clear s3 s8 y0 y3 y4
    go_wp2_with fail
    refine c_refRead1 s4 rm (by omega) (by omega) at' n ha (by omega) ?_
    intro w5 v5 h5 r5 s5
    rw [hok.out]
    have p0 := s5.cel X 0 0 rfl
    have p1 := s5.cel X 0 1 rfl
    simp only [Nat.zero_add] at p0 p1
    clear y1 y2 s4
    go_wp2
    generalize (if hasP r.size at' n then rdB r.mem at' n.toNat else []) = xs at r4 r5
    go_region_held3 (fun w' => w'.cell? ⟨X, 0, none⟩ = some (.int .u64 r.size) ∧ w'.cell? ⟨X, 1, none⟩ = some (.slice B0 n0 c0))
      (first
        | exact ⟨p0.1, p1.1⟩
        | exact ⟨(s7.cel X 0 0 rfl).1, (s7.cel X 0 1 rfl).1⟩
        | exact ⟨(s6.cel X 0 0 rfl).1, (s6.cel X 0 1 rfl).1⟩)
      (first
        | (go_at_call 45; refine c_Bytes (Sat.pull (h := h4) s5.drew).head (Sat.pull (h := h5) s5.drew).head r4 r5 ?_; intro n6; rw [decide_eq_true rfl]; have s6 := s5.drew.drewN n6; generalize World.drewN (World.drew w5) n6 = w6 at s6 ⊢; have q0 := s6.cel (X + 1 + 1) 0 0 rfl; have q1 := (Sat.s0 (Sat.pull (h := cellsH ⟨X + 1 + 1, 0, none⟩ [.int .u64 0, .slice none 0 0]) s6) (.int .u64 r.size)).c 1 rfl; simp only [Nat.zero_add] at q0 q1; have s7 := (Sat.s0 (Sat.pull (h := cellsH ⟨X + 1 + 1, 0, none⟩ [.int .u64 0, .slice none 0 0]) s6) (.int .u64 r.size)).s 1 (by simp) (.slice B0 n0 c0); simp only [List.set_cons_succ, List.set_cons_zero, Nat.zero_add] at s7))
    all_goals
      have f0 := s7.c0
      have f1 := s7.c 1 rfl
      simp only [Nat.zero_add] at f0 f1
      go_wp2
      refine bodyPost_ret (by simp [results, Try.results21, go_sem, f0.1, f1.1]; try rfl) rfl ?_
      exact k _ _ _ r (fun _ _ h => h) rfl (rm.le (by omega)) s7.wk
  have e0 : (kind == 0) = false := by simp [k0]
  have e1 : (kind == 1) = false := by simp [k1]
  have e2 : (kind == 2) = false := by simp [k2]
  have e3 : (kind == 3) = false := by simp [k3]
  clear k0 k1 k2 k3 s3
  have f0 := s8.c0
  have f1 := s8.c 1 rfl
  simp only [Nat.zero_add] at f0 f1
  have K := k _ _ _ r (fun _ _ h => h) rfl (rm.le (by omega)) s8.wk
  clear s8 k
  go_enter Try.func21, Try.ntmps21
  go_wp2
  refine bodyPost_ret (by simp [results, Try.results21, go_sem, f0.1, f1.1]; try rfl) rfl ?_
  exact K
end

end Go.Proofs.Ytippipfogbgemaa
