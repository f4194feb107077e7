/-
  CHAIN: what a walk along a table finds, as a plain function; the code's walk.
-/
import Derived.Test.YtippipfogbgemaaCb
import Derived.Deep.LoopGhost
namespace Go.Proofs.Ytippipfogbgemaa
open Go.RowKit
set_option linter.unusedVariables false
set_option linter.unusedSimpArgs false

def atD (t i : Int) : Int := IntKind.u64.wrap (t + IntKind.u64.wrap (16 * IntKind.u64.wrap i))
def lastW (l : List SegM) : Bool := (l.getLast?.map fun x => x.2.2).getD false
theorem lastW_snoc (l : List SegM) (x : SegM) : lastW (l ++ [x]) = x.2.2 := by simp [lastW]

/-- the error's number, the place of the last descriptor, the segments -/
def alongP (m : Int → Int) (size t sz : Int) : Nat → Int → List SegM → Int × Int × List SegM
  | 0, i, segs => if i < 0 ∨ sz ≤ i then (151, 0, segs) else (152, 0, segs)
  | n + 1, i, segs =>
    if i < 0 ∨ sz ≤ i then (151, 0, segs) else
    if ¬ thereP size i (atD t i) then (21, 0, segs) else
    if flg (w3 m (atD t i)) 4 = true then (0, atD t i, segs) else
    if ¬ hasP size (w1 m (atD t i)) (w2 m (atD t i)) then (21, 0, segs) else
    if lastW segs = true ∧ flg (w3 m (atD t i)) 2 = false then (155, 0, segs) else
    if flg (w3 m (atD t i)) 1 = false then (0, atD t i, segs ++ [(w1 m (atD t i), w2 m (atD t i), flg (w3 m (atD t i)) 2)])
    else alongP m size t sz n (w4 m (atD t i)) (segs ++ [(w1 m (atD t i), w2 m (atD t i), flg (w3 m (atD t i)) 2)])

section
variable {m : Int → Int} {size t sz i : Int} {n : Nat} {segs : List SegM}
theorem alongP_out (h : i < 0 ∨ sz ≤ i) : alongP m size t sz n i segs = (151, 0, segs) := by cases n <;> simp only [alongP] <;> rw [if_pos h]
theorem alongP_zero (h : ¬ (i < 0 ∨ sz ≤ i)) : alongP m size t sz 0 i segs = (152, 0, segs) := by simp only [alongP]; rw [if_neg h]
theorem alongP_place (h : ¬ (i < 0 ∨ sz ≤ i)) (h2 : ¬ thereP size i (atD t i)) : alongP m size t sz (n + 1) i segs = (21, 0, segs) := by simp only [alongP]; rw [if_neg h, if_pos h2]
theorem alongP_table (h : ¬ (i < 0 ∨ sz ≤ i)) (h2 : thereP size i (atD t i)) (h3 : flg (w3 m (atD t i)) 4 = true) : alongP m size t sz (n + 1) i segs = (0, atD t i, segs) := by
  simp only [alongP]; rw [if_neg h, if_neg (not_not_intro h2), if_pos h3]
theorem alongP_has (h : ¬ (i < 0 ∨ sz ≤ i)) (h2 : thereP size i (atD t i)) (h3 : flg (w3 m (atD t i)) 4 = false) (h4 : ¬ hasP size (w1 m (atD t i)) (w2 m (atD t i))) : alongP m size t sz (n + 1) i segs = (21, 0, segs) := by
  simp only [alongP]; rw [if_neg h, if_neg (not_not_intro h2), if_neg (by rw [h3]; decide), if_pos h4]
theorem alongP_order (h : ¬ (i < 0 ∨ sz ≤ i)) (h2 : thereP size i (atD t i)) (h3 : flg (w3 m (atD t i)) 4 = false) (h4 : hasP size (w1 m (atD t i)) (w2 m (atD t i))) (h5 : lastW segs = true ∧ flg (w3 m (atD t i)) 2 = false) :
    alongP m size t sz (n + 1) i segs = (155, 0, segs) := by
  simp only [alongP]; rw [if_neg h, if_neg (not_not_intro h2), if_neg (by rw [h3]; decide), if_neg (not_not_intro h4), if_pos h5]
theorem alongP_end (h : ¬ (i < 0 ∨ sz ≤ i)) (h2 : thereP size i (atD t i)) (h3 : flg (w3 m (atD t i)) 4 = false) (h4 : hasP size (w1 m (atD t i)) (w2 m (atD t i))) (h5 : ¬ (lastW segs = true ∧ flg (w3 m (atD t i)) 2 = false)) (h6 : flg (w3 m (atD t i)) 1 = false) :
    alongP m size t sz (n + 1) i segs = (0, atD t i, segs ++ [(w1 m (atD t i), w2 m (atD t i), flg (w3 m (atD t i)) 2)]) := by
  simp only [alongP]; rw [if_neg h, if_neg (not_not_intro h2), if_neg (by rw [h3]; decide), if_neg (not_not_intro h4), if_neg h5, if_pos h6]
theorem alongP_next (h : ¬ (i < 0 ∨ sz ≤ i)) (h2 : thereP size i (atD t i)) (h3 : flg (w3 m (atD t i)) 4 = false) (h4 : hasP size (w1 m (atD t i)) (w2 m (atD t i))) (h5 : ¬ (lastW segs = true ∧ flg (w3 m (atD t i)) 2 = false)) (h6 : flg (w3 m (atD t i)) 1 = true) :
    alongP m size t sz (n + 1) i segs = alongP m size t sz n (w4 m (atD t i)) (segs ++ [(w1 m (atD t i), w2 m (atD t i), flg (w3 m (atD t i)) 2)]) := by
  rw [alongP, if_neg h, if_neg (not_not_intro h2), if_neg (by rw [h3]; decide), if_neg (not_not_intro h4), if_neg h5, if_neg (by rw [h6]; decide)]
end

/-- the number that the code's walk returns: a table within a table is refused at once -/
def outE (outer : Bool) (e : Int) (b4 : Bool) : Int := if e = 0 ∧ outer = false ∧ b4 = true then 153 else e
def tblP (t sz a : Int) : Prop := ∃ i, 0 ≤ i ∧ i < sz ∧ a = atD t i

section
variable {R : Ending → World → Prop} {W0 w : World} {H : Hp} {A F : List Hp} {b p : Nat} {r : RamG} {l : Option LogG} {g0 : WkG}


set_option maxRecDepth 100000 in
set_option maxHeartbeats 4000000 in
theorem c_along (s : Sat W0 w H (wkL ⟨p, 0, none⟩ ⟨b, 0, none⟩ g0 ++ (ramL ⟨b, 0, none⟩ (r, l) ++ F))) (t i0 : Int) (N : Nat) (outer : Bool) (ht : 0 ≤ t ∧ t ≤ 18446744073709551615) (hN : N ≤ 256) (hi0 : -9223372036854775808 ≤ i0 ∧ i0 ≤ 9223372036854775807) (hl : g0.segs.length ≤ 1000) (hwr0 : g0.wr = lastW g0.segs)
    (k : ∀ e a segs, alongP r.mem r.size t N N i0 g0.segs = (e, a, segs) → ∀ w' d1 d2 d3 d4 g' l' e', e' = outE outer e (flg (w3 r.mem a) 4) → ExtR (tblP t N) (lgs l) (lgs l') ∧ g'.ta = g0.ta ∧ g'.tl = g0.tl →
      (e' = 0 → g'.segs = segs ∧ g'.wr = lastW segs ∧ d1 = w1 r.mem a ∧ d2 = w2 r.mem a ∧ d3 = w3 r.mem a ∧ d4 = w4 r.mem a) → Sat W0 w' H (wkL ⟨p, 0, none⟩ ⟨b, 0, none⟩ g' ++ (ramL ⟨b, 0, none⟩ (r, l') ++ F)) →
      R (.returned (.tuple #[.agg #[.int .u64 d1, .int .u32 d2, .int .u16 d3, .int .u16 d4], .int .i64 e'])) w') :
    Calls Try.prog 74 #[.pointer (some ⟨p, 0, none⟩), .int .u64 t, .int .i64 N, .int .i64 i0, .bool outer] w R := by
  have s1 := s.alloc (c := [.int .u64 0, .int .u32 0, .int .u16 0, .int .u16 0]) (t := 169)
  obtain ⟨Z, hZ⟩ : ∃ Z, w.heap.size = Z := ⟨_, rfl⟩
  rw [hZ] at s1
  replace s1 : Sat W0 _ H (wkL ⟨p, 0, none⟩ ⟨b, 0, none⟩ g0 ++ (ramL ⟨b, 0, none⟩ (r, l) ++ (cellsH ⟨Z, 0, none⟩ [.int .u64 0, .int .u32 0, .int .u16 0, .int .u16 0] :: F))) := s1.wk
  clear s
  have hrb := r.hmem
  replace k := aside k
  replace hl := aside hl
  go_enter Try.func74, Try.ntmps74
  go_wp2
  go_loopg [3, 12] N (fun q v3 v12 w' => ∃ (n : Nat) (i : Int) (g : WkG) (l' : Option LogG), q + n = N ∧ (-9223372036854775808 ≤ i ∧ i ≤ 9223372036854775807) ∧ v3 = .int .i64 i ∧ v12 = .int .i64 n ∧ Aside (g.segs.length ≤ 1000 + n ∧ g.wr = lastW g.segs ∧ ExtR (tblP t N) (lgs l) (lgs l') ∧ g.ta = g0.ta ∧ g.tl = g0.tl ∧ alongP r.mem r.size t N N i0 g0.segs = alongP r.mem r.size t N q i g.segs) ∧
    Sat W0 w' H (wkL ⟨p, 0, none⟩ ⟨b, 0, none⟩ g ++ (ramL ⟨b, 0, none⟩ (r, l') ++ (cellsH ⟨Z, 0, none⟩ [.int .u64 0, .int .u32 0, .int .u16 0, .int .u16 0] :: F))))
  case atStart => exact ⟨0, i0, g0, l, by omega, hi0, rfl, rfl, aside ⟨hl.out, hwr0, ExtR.refl _ _, rfl, rfl, rfl⟩, s1⟩
  case round =>
    obtain ⟨n, i, g, l1, hq, hi, rfl, rfl, hg, s'⟩ := hrel
    have sU := s'
    simp only [wkL, List.cons_append, List.nil_append] at sU
    have y0 := sU.cel p 0 0 rfl
    simp only [Nat.zero_add] at y0
    clear sU s1 hwr0
    obtain ⟨q, rfl⟩ : ∃ q : Nat, q = gk := ⟨_, rfl⟩
    by_cases h1 : i < 0
    · have hE : alongP r.mem r.size t N N i0 g0.segs = (151, 0, g.segs) := by rw [hg.out.2.2.2.2.2, alongP_out (.inl h1)]
      have s8q0 := s'.cel Z 0 0 rfl
      have s8t0 := (s'.pc Z 0).s0 (.int .u64 0)
      have s8q1 := s8t0.c 1 rfl
      have s8t1 := s8t0.s 1 (by simp) (.int .u32 0)
      have s8q2 := s8t1.c 2 rfl
      have s8t2 := s8t1.s 2 (by simp) (.int .u16 0)
      have s8q3 := s8t2.c 3 rfl
      have s8 := s8t2.s 3 (by simp) (.int .u16 0)
      simp only [List.set_cons_succ, List.set_cons_zero, Nat.zero_add] at s8 s8q0 s8q1 s8q2 s8q3
      have f0 := s8.c 0 rfl
      have f1 := s8.c 1 rfl
      have f2 := s8.c 2 rfl
      have f3 := s8.c 3 rfl
      simp only [Nat.zero_add] at f0 f1 f2 f3
      have K := fun w' => k.out _ _ _ hE w' 0 0 0 0 g l1 151 (by simp [outE]) ⟨hg.out.2.2.1, hg.out.2.2.2.1, hg.out.2.2.2.2.1⟩ (fun h => absurd h (by decide))
      replace K := aside K
      replace hE := aside hE
      clear k
      go_wp2
      refine bodyPost_ret (by simp [results, Try.results74, go_sem, f0.1, f1.1, f2.1, f3.1]; try rfl) rfl ?_
      exact K.out _ s8.wk
    by_cases h2 : (N : Int) ≤ i
    · have hE : alongP r.mem r.size t N N i0 g0.segs = (151, 0, g.segs) := by rw [hg.out.2.2.2.2.2, alongP_out (.inr h2)]
      have s8q0 := s'.cel Z 0 0 rfl
      have s8t0 := (s'.pc Z 0).s0 (.int .u64 0)
      have s8q1 := s8t0.c 1 rfl
      have s8t1 := s8t0.s 1 (by simp) (.int .u32 0)
      have s8q2 := s8t1.c 2 rfl
      have s8t2 := s8t1.s 2 (by simp) (.int .u16 0)
      have s8q3 := s8t2.c 3 rfl
      have s8 := s8t2.s 3 (by simp) (.int .u16 0)
      simp only [List.set_cons_succ, List.set_cons_zero, Nat.zero_add] at s8 s8q0 s8q1 s8q2 s8q3
      have f0 := s8.c 0 rfl
      have f1 := s8.c 1 rfl
      have f2 := s8.c 2 rfl
      have f3 := s8.c 3 rfl
      simp only [Nat.zero_add] at f0 f1 f2 f3
      have K := fun w' => k.out _ _ _ hE w' 0 0 0 0 g l1 151 (by simp [outE]) ⟨hg.out.2.2.1, hg.out.2.2.2.1, hg.out.2.2.2.2.1⟩ (fun h => absurd h (by decide))
      replace K := aside K
      replace hE := aside hE
      clear k
      go_wp2
      refine bodyPost_ret (by simp [results, Try.results74, go_sem, f0.1, f1.1, f2.1, f3.1]; try rfl) rfl ?_
      exact K.out _ s8.wk
    have h12 := aside (show ¬ (i < 0 ∨ (N : Int) ≤ i) by omega)
    cases q with
    | zero =>
      have hE : alongP r.mem r.size t N N i0 g0.segs = (152, 0, g.segs) := by rw [hg.out.2.2.2.2.2, alongP_zero h12.out]
      obtain rfl : n = N := by omega
      have s8q0 := s'.cel Z 0 0 rfl
      have s8t0 := (s'.pc Z 0).s0 (.int .u64 0)
      have s8q1 := s8t0.c 1 rfl
      have s8t1 := s8t0.s 1 (by simp) (.int .u32 0)
      have s8q2 := s8t1.c 2 rfl
      have s8t2 := s8t1.s 2 (by simp) (.int .u16 0)
      have s8q3 := s8t2.c 3 rfl
      have s8 := s8t2.s 3 (by simp) (.int .u16 0)
      simp only [List.set_cons_succ, List.set_cons_zero, Nat.zero_add] at s8 s8q0 s8q1 s8q2 s8q3
      have f0 := s8.c 0 rfl
      have f1 := s8.c 1 rfl
      have f2 := s8.c 2 rfl
      have f3 := s8.c 3 rfl
      simp only [Nat.zero_add] at f0 f1 f2 f3
      have K := fun w' => k.out _ _ _ hE w' 0 0 0 0 g l1 152 (by simp [outE]) ⟨hg.out.2.2.1, hg.out.2.2.2.1, hg.out.2.2.2.2.1⟩ (fun h => absurd h (by decide))
      replace K := aside K
      replace hE := aside hE
      clear k
      go_wp2
      refine bodyPost_ret (by simp [results, Try.results74, go_sem, f0.1, f1.1, f2.1, f3.1]; try rfl) rfl ?_
      exact K.out _ s8.wk
    | succ q =>
      have hnN : ¬ ((N : Int) ≤ n) := by omega
      obtain ⟨D, hD⟩ : ∃ D, atD t i = D := ⟨_, rfl⟩
      have hD2 := aside hD
      have hDb : 0 ≤ D ∧ D ≤ 18446744073709551615 := by rw [← hD]; unfold atD; rw [wrap_u64]; omega
      replace hDb := aside hDb
      replace hD := aside (show D = IntKind.u64.wrap (t + IntKind.u64.wrap (16 * IntKind.u64.wrap i)) from hD.symm)
      go_wp2_with fail
      refine c_ringDescG s' t i D ht hi hD.out ?_ ?_
      · intro hth w2 s2
        have hE : alongP r.mem r.size t N N i0 g0.segs = (21, 0, g.segs) := by rw [hg.out.2.2.2.2.2, alongP_place h12.out (by rw [hD2.out]; exact hth)]
        have s3 := s2.alloc (c := [.int .u64 0, .int .u32 0, .int .u16 0, .int .u16 0]) (t := 169)
        have s8q0 := s3.cel Z 0 0 rfl
        have s8t0 := (s3.pc Z 0).s0 (.int .u64 0)
        have s8q1 := s8t0.c 1 rfl
        have s8t1 := s8t0.s 1 (by simp) (.int .u32 0)
        have s8q2 := s8t1.c 2 rfl
        have s8t2 := s8t1.s 2 (by simp) (.int .u16 0)
        have s8q3 := s8t2.c 3 rfl
        have s8 := s8t2.s 3 (by simp) (.int .u16 0)
        simp only [List.set_cons_succ, List.set_cons_zero, Nat.zero_add] at s8 s8q0 s8q1 s8q2 s8q3
        have f0 := s8.c 0 rfl
        have f1 := s8.c 1 rfl
        have f2 := s8.c 2 rfl
        have f3 := s8.c 3 rfl
        simp only [Nat.zero_add] at f0 f1 f2 f3
        have K := fun w' => k.out _ _ _ hE w' 0 0 0 0 g l1 21 (by simp [outE]) ⟨hg.out.2.2.1, hg.out.2.2.2.1, hg.out.2.2.2.2.1⟩ (fun h => absurd h (by decide))
        replace K := aside K
        replace hE := aside hE
        clear k
        go_wp2
        refine bodyPost_ret (by simp [results, Try.results74, go_sem, f0.1, f1.1, f2.1, f3.1]; try rfl) rfl ?_
        exact K.out _ s8.wk
      · intro hth wA l2 hl2 s2
        have hX2 : ExtR (tblP t N) (lgs l) (lgs l2) := by
          rw [hl2]
          exact hg.out.2.2.1.trans (ExtR.add ⟨i, by omega, by omega, hD2.out.symm⟩)
        replace hX2 := aside hX2
        obtain ⟨hp1, hp2, hp3, hp4⟩ : (0 ≤ w1 r.mem D ∧ w1 r.mem D ≤ 18446744073709551615) ∧ (0 ≤ w2 r.mem D ∧ w2 r.mem D ≤ 4294967295) ∧ (0 ≤ w3 r.mem D ∧ w3 r.mem D ≤ 65535) ∧ (0 ≤ w4 r.mem D ∧ w4 r.mem D ≤ 65535) := by
          have b1 := ofB_bdn hrb D 8
          have b2 := ofB_bdn hrb (D + 8) 4
          have b3 := ofB_bdn hrb (D + 12) 2
          have b4 := ofB_bdn hrb (D + 14) 2
          simp only [w1, w2, w3, w4]
          omega
        have eT : thereP r.size i (atD t i) := by rw [hD2.out]; exact hth
        have P3 := fun h => alongP_table (m := r.mem) (segs := g.segs) (n := q) h12.out eT h
        have P4 := fun h h4 => alongP_has (m := r.mem) (segs := g.segs) (n := q) h12.out eT h h4
        have P5 := fun h h4 h5 => alongP_order (m := r.mem) (segs := g.segs) (n := q) h12.out eT h h4 h5
        have P6 := fun h h4 h5 h6 => alongP_end (m := r.mem) (segs := g.segs) (n := q) h12.out eT h h4 h5 h6
        have P7 := fun h h4 h5 h6 => alongP_next (m := r.mem) (segs := g.segs) (n := q) h12.out eT h h4 h5 h6
        rw [hD2.out, ← hg.out.2.2.2.2.2] at P3 P4 P5 P6 P7
        obtain ⟨x1, hx1⟩ : ∃ y, w1 r.mem D = y := ⟨_, rfl⟩
        obtain ⟨x2, hx2⟩ : ∃ y, w2 r.mem D = y := ⟨_, rfl⟩
        obtain ⟨x3, hx3⟩ : ∃ y, w3 r.mem D = y := ⟨_, rfl⟩
        obtain ⟨x4, hx4⟩ : ∃ y, w4 r.mem D = y := ⟨_, rfl⟩
        rw [hx1] at hp1 P4 P5 P6 P7
        rw [hx2] at hp2 P4 P5 P6 P7
        rw [hx3] at hp3 P3 P4 P5 P6 P7
        rw [hx4] at hp4 P7
        rw [hx1, hx2, hx3, hx4]
        have B4 : (bits BinOp.and IntKind.u16 x3 4 != 0) = flg x3 4 := flg_bits hp3 2 (by omega)
        have B1 : (bits BinOp.and IntKind.u16 x3 1 == 0) = !flg x3 1 := by
          have h9 : (bits BinOp.and IntKind.u16 x3 1 != 0) = flg x3 1 := flg_bits hp3 0 (by omega)
          rw [← h9]; simp [bne]
        replace P3 := aside P3
        replace P4 := aside P4
        replace P5 := aside P5
        replace P6 := aside P6
        replace P7 := aside P7
        replace hx1 := aside hx1
        replace hx2 := aside hx2
        replace hx3 := aside hx3
        replace hx4 := aside hx4
        replace hg := aside hg
        replace h12 := aside h12
        replace hD := aside hD
        replace hD2 := aside hD2
        replace hDb := aside hDb
        replace hl2 := aside hl2
        clear s'
        have s3 := s2.alloc (c := [.int .u64 x1, .int .u32 x2, .int .u16 x3, .int .u16 x4]) (t := 169)
        obtain ⟨Y, hY⟩ : ∃ Y, wA.heap.size = Y := ⟨_, rfl⟩
        rw [hY] at s3
        have d0 := s3.cel Y 0 0 rfl
        have d1 := s3.cel Y 0 1 rfl
        have d2 := s3.cel Y 0 2 rfl
        have d3 := s3.cel Y 0 3 rfl
        simp only [Nat.zero_add] at d0 d1 d2 d3
        cases c4 : flg x3 4 with
        | true =>
          rw [c4] at B4
          have hE := P3.out c4
          clear P3 P4 P5 P6 P7 B1
          cases outer with
          | false =>
            have s8q0 := s3.cel Z 0 0 rfl
            have s8t0 := (s3.pc Z 0).s0 (.int .u64 0)
            have s8q1 := s8t0.c 1 rfl
            have s8t1 := s8t0.s 1 (by simp) (.int .u32 0)
            have s8q2 := s8t1.c 2 rfl
            have s8t2 := s8t1.s 2 (by simp) (.int .u16 0)
            have s8q3 := s8t2.c 3 rfl
            have s8 := s8t2.s 3 (by simp) (.int .u16 0)
            simp only [List.set_cons_succ, List.set_cons_zero, Nat.zero_add] at s8 s8q0 s8q1 s8q2 s8q3
            have f0 := s8.c 0 rfl
            have f1 := s8.c 1 rfl
            have f2 := s8.c 2 rfl
            have f3 := s8.c 3 rfl
            simp only [Nat.zero_add] at f0 f1 f2 f3
            have K := fun w' => k.out _ _ _ hE w' 0 0 0 0 g l2 153 (by simp [outE, hx3.out, c4]) ⟨hX2.out, hg.out.2.2.2.1, hg.out.2.2.2.2.1⟩ (fun h => absurd h (by decide))
            replace K := aside K
            replace hE := aside hE
            clear k
            go_wp2
            refine bodyPost_ret (by simp [results, Try.results74, go_sem, f0.1, f1.1, f2.1, f3.1]; try rfl) rfl ?_
            exact K.out _ s8.wk
          | true =>
            have s8q0 := s3.cel Z 0 0 rfl
            have s8t0 := (s3.pc Z 0).s0 (.int .u64 x1)
            have s8q1 := s8t0.c 1 rfl
            have s8t1 := s8t0.s 1 (by simp) (.int .u32 x2)
            have s8q2 := s8t1.c 2 rfl
            have s8t2 := s8t1.s 2 (by simp) (.int .u16 x3)
            have s8q3 := s8t2.c 3 rfl
            have s8 := s8t2.s 3 (by simp) (.int .u16 x4)
            simp only [List.set_cons_succ, List.set_cons_zero, Nat.zero_add] at s8 s8q0 s8q1 s8q2 s8q3
            have f0 := s8.c 0 rfl
            have f1 := s8.c 1 rfl
            have f2 := s8.c 2 rfl
            have f3 := s8.c 3 rfl
            simp only [Nat.zero_add] at f0 f1 f2 f3
            have K := fun w' => k.out _ _ _ hE w' x1 x2 x3 x4 g l2 0 (by simp [outE]) ⟨hX2.out, hg.out.2.2.2.1, hg.out.2.2.2.2.1⟩ (fun _ => ⟨rfl, hg.out.2.1, hx1.out.symm, hx2.out.symm, hx3.out.symm, hx4.out.symm⟩)
            replace K := aside K
            replace hE := aside hE
            clear k
            go_wp2
            refine bodyPost_ret (by simp [results, Try.results74, go_sem, f0.1, f1.1, f2.1, f3.1]; try rfl) rfl ?_
            exact K.out _ s8.wk
        | false =>
          rw [c4] at B4
          have s4 : Sat W0 _ H (wkL ⟨p, 0, none⟩ ⟨b, 0, none⟩ g ++ (ramL ⟨b, 0, none⟩ (r, l2) ++ (cellsH ⟨Y, 0, none⟩ [.int .u64 x1, .int .u32 x2, .int .u16 x3, .int .u16 x4] :: cellsH ⟨Z, 0, none⟩ [.int .u64 0, .int .u32 0, .int .u16 0, .int .u16 0] :: F))) := s3.wk
          clear s2 s3 P3
          have hgl := aside (show g.segs.length ≤ 1000000 by have := hg.out.1; omega)
          go_wp2_with fail
          refine c_segment s4 x1 x2 x3 x4 hp1 hp2 hp3 hgl.out ?_ ?_ ?_
          · intro hh w5 s5
            have hE := P4.out c4 hh
            clear P4 P5 P6 P7 B1 s4
            have s8q0 := s5.cel Z 0 0 rfl
            have s8t0 := (s5.pc Z 0).s0 (.int .u64 0)
            have s8q1 := s8t0.c 1 rfl
            have s8t1 := s8t0.s 1 (by simp) (.int .u32 0)
            have s8q2 := s8t1.c 2 rfl
            have s8t2 := s8t1.s 2 (by simp) (.int .u16 0)
            have s8q3 := s8t2.c 3 rfl
            have s8 := s8t2.s 3 (by simp) (.int .u16 0)
            simp only [List.set_cons_succ, List.set_cons_zero, Nat.zero_add] at s8 s8q0 s8q1 s8q2 s8q3
            have f0 := s8.c 0 rfl
            have f1 := s8.c 1 rfl
            have f2 := s8.c 2 rfl
            have f3 := s8.c 3 rfl
            simp only [Nat.zero_add] at f0 f1 f2 f3
            have K := fun w' => k.out _ _ _ hE w' 0 0 0 0 g l2 21 (by simp [outE]) ⟨hX2.out, hg.out.2.2.2.1, hg.out.2.2.2.2.1⟩ (fun h => absurd h (by decide))
            replace K := aside K
            replace hE := aside hE
            clear k
            go_wp2
            refine bodyPost_ret (by simp [results, Try.results74, go_sem, f0.1, f1.1, f2.1, f3.1]; try rfl) rfl ?_
            exact K.out _ s8.wk
          · intro hh hc w5 s5
            have hE := P5.out c4 hh (hg.out.2.1 ▸ hc)
            clear P4 P5 P6 P7 B1 s4
            have s8q0 := s5.cel Z 0 0 rfl
            have s8t0 := (s5.pc Z 0).s0 (.int .u64 0)
            have s8q1 := s8t0.c 1 rfl
            have s8t1 := s8t0.s 1 (by simp) (.int .u32 0)
            have s8q2 := s8t1.c 2 rfl
            have s8t2 := s8t1.s 2 (by simp) (.int .u16 0)
            have s8q3 := s8t2.c 3 rfl
            have s8 := s8t2.s 3 (by simp) (.int .u16 0)
            simp only [List.set_cons_succ, List.set_cons_zero, Nat.zero_add] at s8 s8q0 s8q1 s8q2 s8q3
            have f0 := s8.c 0 rfl
            have f1 := s8.c 1 rfl
            have f2 := s8.c 2 rfl
            have f3 := s8.c 3 rfl
            simp only [Nat.zero_add] at f0 f1 f2 f3
            have K := fun w' => k.out _ _ _ hE w' 0 0 0 0 g l2 155 (by simp [outE]) ⟨hX2.out, hg.out.2.2.2.1, hg.out.2.2.2.2.1⟩ (fun h => absurd h (by decide))
            replace K := aside K
            replace hE := aside hE
            clear k
            go_wp2
            refine bodyPost_ret (by simp [results, Try.results74, go_sem, f0.1, f1.1, f2.1, f3.1]; try rfl) rfl ?_
            exact K.out _ s8.wk
          · intro hh hc w5 g5 hs5 hw5 ht5 hl5 s5
            replace hc : ¬ (lastW g.segs = true ∧ flg x3 2 = false) := hg.out.2.1 ▸ hc
            have d0 := s5.cel Y 0 0 rfl
            have d1 := s5.cel Y 0 1 rfl
            have d2 := s5.cel Y 0 2 rfl
            have d3 := s5.cel Y 0 3 rfl
            simp only [Nat.zero_add] at d0 d1 d2 d3
            cases c1 : flg x3 1 with
            | false =>
              rw [c1] at B1
              have hE := P6.out c4 hh hc c1
              have hY := aside (show g5.segs = g.segs ++ [(x1, x2, flg x3 2)] ∧ g5.wr = lastW (g.segs ++ [(x1, x2, flg x3 2)]) ∧ x1 = w1 r.mem D ∧ x2 = w2 r.mem D ∧ x3 = w3 r.mem D ∧ x4 = w4 r.mem D from ⟨hs5, by rw [hw5, lastW_snoc], hx1.out.symm, hx2.out.symm, hx3.out.symm, hx4.out.symm⟩)
              have hX5 := aside (show ExtR (tblP t N) (lgs l) (lgs l2) ∧ g5.ta = g0.ta ∧ g5.tl = g0.tl from ⟨hX2.out, ht5.trans hg.out.2.2.2.1, hl5.trans hg.out.2.2.2.2.1⟩)
              clear P4 P5 P6 P7 s4 hs5 hw5 ht5 hl5 hc hh
              have s8q0 := s5.cel Z 0 0 rfl
              have s8t0 := (s5.pc Z 0).s0 (.int .u64 x1)
              have s8q1 := s8t0.c 1 rfl
              have s8t1 := s8t0.s 1 (by simp) (.int .u32 x2)
              have s8q2 := s8t1.c 2 rfl
              have s8t2 := s8t1.s 2 (by simp) (.int .u16 x3)
              have s8q3 := s8t2.c 3 rfl
              have s8 := s8t2.s 3 (by simp) (.int .u16 x4)
              simp only [List.set_cons_succ, List.set_cons_zero, Nat.zero_add] at s8 s8q0 s8q1 s8q2 s8q3
              have f0 := s8.c 0 rfl
              have f1 := s8.c 1 rfl
              have f2 := s8.c 2 rfl
              have f3 := s8.c 3 rfl
              simp only [Nat.zero_add] at f0 f1 f2 f3
              have K := fun w' => k.out _ _ _ hE w' x1 x2 x3 x4 g5 l2 0 (by simp [outE, hx3.out, c4]) hX5.out (fun _ => hY.out)
              replace K := aside K
              replace hE := aside hE
              clear k
              go_wp2
              refine bodyPost_ret (by simp [results, Try.results74, go_sem, f0.1, f1.1, f2.1, f3.1]; try rfl) rfl ?_
              exact K.out _ s8.wk
            | true =>
              rw [c1] at B1
              have hE := P7.out c4 hh hc c1
              have hg5 := aside (show g5.segs.length ≤ 1000 + (n + 1) ∧ g5.wr = lastW g5.segs ∧ ExtR (tblP t N) (lgs l) (lgs l2) ∧ g5.ta = g0.ta ∧ g5.tl = g0.tl ∧ alongP r.mem r.size t N N i0 g0.segs = alongP r.mem r.size t N q x4 g5.segs from
                ⟨by rw [hs5, List.length_append]; have := hg.out.1; simp only [List.length_cons, List.length_nil]; omega, by rw [hw5, hs5, lastW_snoc], hX2.out, ht5.trans hg.out.2.2.2.1, hl5.trans hg.out.2.2.2.2.1, by rw [hs5]; exact hE⟩)
              clear P4 P5 P6 P7 s4 hs5 hw5 ht5 hl5 hc hh hE
              go_wp2
              go_roundg q
              case measure => omega
              case rel => exact ⟨n + 1, x4, g5, l2, by omega, by omega, rfl, by go_num, hg5, s5.wk⟩
end
end Go.Proofs.Ytippipfogbgemaa
