/-
  CHAIN: rows of segments, a walker's pieces; a segment is taken.
-/
import Derived.Test.YtippipfogbgemaaCa
import Derived.Test.YtippipfogbgemaaVaa
import Derived.Deep.QuietTactic
import Derived.BigQuiet
namespace Go.Proofs.Ytippipfogbgemaa
open Go.RowKit
set_option linter.unusedVariables false
set_option linter.unusedSimpArgs false

abbrev SegM := Int × Int × Bool
def segE : El SegM := fun _ x vs => vs = [.int .u64 x.1, .int .u64 x.2.1, .bool x.2.2]
def encG (l : List SegM) : List Value := l.flatMap fun x => [.int .u64 x.1, .int .u64 x.2.1, .bool x.2.2]
theorem encG_len (l : List SegM) : (encG l).length = l.length * 3 := by
  induction l with
  | nil => rfl
  | cons x l ih => simp only [encG, List.flatMap_cons, List.length_append, List.length_cons, List.length_nil] at ih ⊢; omega
theorem encG_at {L : List SegM} : ∀ {i : Nat} {x : SegM}, L[i]? = some x → (encG L)[i * 3]? = some (.int .u64 x.1) ∧ (encG L)[i * 3 + 1]? = some (.int .u64 x.2.1) ∧ (encG L)[i * 3 + 2]? = some (.bool x.2.2) := by
  induction L with
  | nil => intro i x h; simp at h
  | cons y ys ih =>
    intro i x h
    cases i with
    | zero => simp at h; subst h; exact ⟨rfl, rfl, rfl⟩
    | succ i =>
      have := ih (i := i) (x := x) (by simpa using h)
      have e : (i + 1) * 3 = i * 3 + 3 := by omega
      rw [e]
      simpa [encG, List.flatMap_cons] using this
theorem OwnS.rdG {v : Value} {xs : List SegM} {h : Hp} (own : OwnS 3 v xs.length (encG xs) h) : Rd segE 3 h v xs := by
  obtain ⟨A, c, spare, rfl, h1, h2, h3, h4, h5, rfl⟩ := own
  refine ⟨A, c, rfl, h1, h2, fun i x hi => ?_⟩
  have hlt : i < xs.length := (List.getElem?_eq_some_iff.1 hi).1
  obtain ⟨b, o, rfl⟩ := h5 (by omega)
  refine ⟨b, o, _, rfl, rfl, rfl, fun j u hu => ⟨false, ?_⟩⟩
  have ha := encG_at hi
  have hl : i * 3 + j < (encG xs).length := by
    rw [h3]
    match j, hu with
    | 0, _ => omega
    | 1, _ => omega
    | 2, _ => omega
    | j + 3, hu => simp at hu
  have h9 := cellsH_at (a := ⟨b, o, none⟩) (vs := encG xs ++ spare) (i := i * 3 + j) (v := u) (by
    rw [List.getElem?_append_left hl]
    match j, hu with
    | 0, hu => simp at hu; subst hu; exact ha.1
    | 1, hu => simp at hu; subst hu; exact ha.2.1
    | 2, hu => simp at hu; subst hu; exact ha.2.2
    | j + 3, hu => simp at hu)
  simpa [Nat.add_assoc, rowH] using h9
theorem Rd.seg {H : Hp} {A : Option Addr} {n c : Nat} {xs : List SegM} (r : Rd segE 3 H (.slice A n c) xs) : n = xs.length ∧ n ≤ c ∧ c ≤ 9223372036854775807 ∧
    ∀ i (hi : i < xs.length), ∃ b o, A = some ⟨b, o, none⟩ ∧ (∃ fr, H (.cell b (o + i * 3)) = some (.val (.int .u64 xs[i].1) fr)) ∧ (∃ fr, H (.cell b (o + i * 3 + 1)) = some (.val (.int .u64 xs[i].2.1) fr)) ∧ (∃ fr, H (.cell b (o + i * 3 + 2)) = some (.val (.bool xs[i].2.2) fr)) := by
  obtain ⟨A', c', hv, hc, hc2, hat⟩ := r
  injection hv with e1 e2 e3
  subst e1 e2 e3
  refine ⟨rfl, hc, hc2, fun i hi => ?_⟩
  obtain ⟨b, o, vs, hA, rfl, _, hcell⟩ := hat i xs[i] (by simp [hi])
  exact ⟨b, o, hA, by simpa using hcell 0 _ rfl, by simpa using hcell 1 _ rfl, by simpa using hcell 2 _ rfl⟩

theorem info_seg : ∃ i, Try.prog.info? 71 = some i ∧ i.zero = some (.agg #[.int .u64 0, .int .u64 0, .bool false]) ∧ i.size = 3 ∧ i.bytes = 24 := by
  have h : (Try.prog.info? 71).map (fun i => (i.zero, i.size, i.bytes)) = some (some (.agg #[.int .u64 0, .int .u64 0, .bool false]), 3, 24) := by kernel_rfl
  cases hi : Try.prog.info? 71 with
  | none => simp [hi] at h
  | some i => simp [hi] at h; exact ⟨i, rfl, h⟩
theorem row_seg {w : World} {a n : Int} {b : Bool} {t : TypeId} : RowR (w.alloc (.cells #[.int .u64 a, .int .u64 n, .bool b] t)) (some ⟨w.heap.size, 0, none⟩) [.int .u64 a, .int .u64 n, .bool b] := by
  intro _
  exact ⟨_, _, rfl, fun j u hu => by rw [Nat.zero_add]; simp [hu]⟩

/-- a walker: its segments, its table, whether the last segment is to be written -/
structure WkG where
  segs : List SegM
  ta : Int
  tl : Int
  wr : Bool
  v : Value
  h : Hp
  own : OwnS 3 v segs.length (encG segs) h
def wkL (p : Addr) (rp : Addr) (g : WkG) : List Hp := [cellsH p [.pointer (some rp), g.v, .int .u64 g.ta, .int .u64 g.tl, .bool g.wr, .int .i64 0], g.h]

/-- a flag of a descriptor -/
def flg (f n : Int) : Bool := f / n % 2 == 1
theorem flg_bits {x : Int} (h : 0 ≤ x ∧ x ≤ 65535) (i : Nat) (hi : i ≤ 2) : (bits BinOp.and IntKind.u16 x ((2 ^ i : Nat) : Int) != 0) = flg x ((2 ^ i : Nat) : Int) := by
  obtain ⟨n, rfl⟩ : ∃ n : Nat, x = n := ⟨x.toNat, by omega⟩
  have e1 : ((BitVec.ofInt 16 (n : Int)) &&& (BitVec.ofInt 16 ((2 ^ i : Nat) : Int))).toNat = n &&& 2 ^ i := by
    have h2 : 2 ^ i < 65536 := by
      have : 2 ^ i ≤ 2 ^ 2 := Nat.pow_le_pow_right (by omega) hi
      omega
    rw [BitVec.toNat_and, BitVec.ofInt_natCast, BitVec.ofInt_natCast, BitVec.toNat_ofNat, BitVec.toNat_ofNat, Nat.mod_eq_of_lt (by omega), Nat.mod_eq_of_lt h2]
  have e2 : bits BinOp.and IntKind.u16 (n : Int) ((2 ^ i : Nat) : Int) = IntKind.u16.wrap (((BitVec.ofInt 16 (n : Int)) &&& (BitVec.ofInt 16 ((2 ^ i : Nat) : Int))).toNat : Int) := rfl
  have e4 : n &&& 2 ^ i = if n / 2 ^ i % 2 = 1 then 2 ^ i else 0 := by
    have e5 : (n / 2 ^ i % 2 = 1) ↔ n.testBit i = true := by rw [Nat.testBit_eq_decide_div_mod_eq]; simp
    apply Nat.eq_of_testBit_eq
    intro j
    rw [Nat.testBit_and, Nat.testBit_two_pow]
    by_cases hij : i = j
    · subst hij
      by_cases ht : n.testBit i = true
      · rw [if_pos (e5.2 ht), ht, Nat.testBit_two_pow]; simp
      · rw [if_neg (fun h => ht (e5.1 h))]; simp [ht]
    · simp only [hij, decide_false, Bool.and_false]
      split
      · rw [Nat.testBit_two_pow]; simp [hij]
      · simp
  rw [e2, e1, e4]
  have hp : 2 ^ i ≤ 4 := by
    have : 2 ^ i ≤ 2 ^ 2 := Nat.pow_le_pow_right (by omega) hi
    omega
  have hp0 : 0 < 2 ^ i := Nat.two_pow_pos i
  unfold flg
  have e3 : ((n : Int) / ((2 ^ i : Nat) : Int) % 2 == 1) = decide (n / 2 ^ i % 2 = 1) := by
    have : (n : Int) / ((2 ^ i : Nat) : Int) % 2 = ((n / 2 ^ i % 2 : Nat) : Int) := by norm_cast
    rw [this]
    by_cases hc : n / 2 ^ i % 2 = 1
    · rw [hc]; rfl
    · rw [decide_eq_false hc, beq_eq_false_iff_ne]; intro h; exact hc (by exact_mod_cast h)
  rw [e3]
  by_cases hc : n / 2 ^ i % 2 = 1
  · rw [decide_eq_true hc, if_pos hc]
    have : ∀ q : Nat, 0 < q → q ≤ 4 → (IntKind.u16.wrap (q : Int) != 0) = true := by
      intro q h0 h1
      rw [wrap_u16, bne_iff_ne]; omega
    exact this _ hp0 hp
  · rw [decide_eq_false hc, if_neg hc]; rfl

section
variable {R : Ending → World → Prop} {W0 w : World} {H : Hp} {A F : List Hp} {b p : Nat} {r : RamG} {l : Option LogG} {g : WkG}


set_option maxRecDepth 100000 in
set_option maxHeartbeats 4000000 in
theorem c_segment (s : Sat W0 w H (wkL ⟨p, 0, none⟩ ⟨b, 0, none⟩ g ++ (ramL ⟨b, 0, none⟩ (r, l) ++ F))) (x1 x2 x3 x4 : Int) (h1 : 0 ≤ x1 ∧ x1 ≤ 18446744073709551615) (h2 : 0 ≤ x2 ∧ x2 ≤ 4294967295) (h3 : 0 ≤ x3 ∧ x3 ≤ 65535) (hl : g.segs.length ≤ 1000000)
    (ka : ¬ hasP r.size x1 x2 → ∀ w', Sat W0 w' H (wkL ⟨p, 0, none⟩ ⟨b, 0, none⟩ g ++ (ramL ⟨b, 0, none⟩ (r, l) ++ F)) → R (.returned (.int .i64 21)) w')
    (kb : hasP r.size x1 x2 → g.wr = true ∧ flg x3 2 = false → ∀ w', Sat W0 w' H (wkL ⟨p, 0, none⟩ ⟨b, 0, none⟩ g ++ (ramL ⟨b, 0, none⟩ (r, l) ++ F)) → R (.returned (.int .i64 155)) w')
    (k : hasP r.size x1 x2 → ¬ (g.wr = true ∧ flg x3 2 = false) → ∀ w' g', g'.segs = g.segs ++ [(x1, x2, flg x3 2)] → g'.wr = flg x3 2 → g'.ta = g.ta → g'.tl = g.tl → Sat W0 w' H (wkL ⟨p, 0, none⟩ ⟨b, 0, none⟩ g' ++ (ramL ⟨b, 0, none⟩ (r, l) ++ F)) → R (.returned (.int .i64 0)) w') :
    Calls Try.prog 115 #[.pointer (some ⟨p, 0, none⟩), .agg #[.int .u64 x1, .int .u32 x2, .int .u16 x3, .int .u16 x4]] w R := by
  have s1 := s.alloc (c := [.int .u64 x1, .int .u32 x2, .int .u16 x3, .int .u16 x4]) (t := 169)
  obtain ⟨Z, hZ⟩ : ∃ Z, w.heap.size = Z := ⟨_, rfl⟩
  rw [hZ] at s1
  clear s
  obtain ⟨segs, ta, tl, wr, v, h, own⟩ := g
  simp only [wkL] at s1 ka kb k hl
  simp only [List.cons_append, List.nil_append] at s1 ka kb k
  have hhas := has_iff r x1 x2 h2.1
  have q1 := aside h1
  have q2 := aside (show 0 ≤ x2 ∧ x2 ≤ 18446744073709551615 by omega)
  have e2 : IntKind.u64.wrap x2 = x2 := by rw [wrap_u64]; omega
  have z0 := s1.cel Z 0 0 rfl
  have z1 := s1.cel Z 0 1 rfl
  have z2 := s1.cel Z 0 2 rfl
  simp only [Nat.zero_add] at z0 z1 z2
  have y0 := s1.cel p 0 0 rfl
  have y1 := s1.cel p 0 1 rfl
  have y4 := s1.cel p 0 4 rfl
  simp only [Nat.zero_add] at y0 y1 y4
  have hb2 : (bits BinOp.and IntKind.u16 x3 2 != 0) = flg x3 2 := flg_bits h3 1 (by omega)
  obtain ⟨B, hB⟩ : ∃ B, flg x3 2 = B := ⟨_, rfl⟩
  rw [hB] at hb2 kb k
  replace hB := aside hB
  by_cases hh : hasP r.size x1 x2
  · have hd : decide (r.has x1 x2) = true := by simp; exact hhas.2 hh
    clear ka hhas
    by_cases hc : wr = true ∧ B = false
    · have K := kb hh hc
      obtain ⟨rfl, rfl⟩ := hc
      clear kb k
      go_enter Try.func115, Try.ntmps115
      go_wp2
      go_quiet ((go_at_call 64; exact Calls.quiet_of_same (v := .bool true) (c_ramHas (s1.drewN _) x1 x2 q1.out q2.out (by rw [hd]; exact ⟨rfl, rfl⟩))))
      go_wp2
      exact (s1.drewN _).wk
    · have K := k hh hc
      clear kb k
      cases wr
      · skip
        obtain ⟨i0, hi, hz, hs1, hb1⟩ := info_seg
        obtain ⟨A1, cap1, sp1, rfl, hcap, hcap2, hl1, hl2, hl3, hl4⟩ := id own
        go_enter Try.func115, Try.ntmps115
        go_wp2
        go_quiet ((go_at_call 64; exact Calls.quiet_of_same (v := .bool true) (c_ramHas (s1.drewN _) x1 x2 q1.out q2.out (by rw [hd]; exact ⟨rfl, rfl⟩))))
        have s2 := s1.drewN nq
        generalize World.drewN _ nq = w1 at s2 ⊢
        clear s1 z0 z1 z2 y0 y1 y4 q1 q2 hd hh
        have s3 := (s2.pc p 0).s 4 (by simp) (.bool B)
        simp only [List.set_cons_succ, List.set_cons_zero, Nat.zero_add] at s3
        have y0 := s2.cel p 0 0 rfl
        have y1 := s2.cel p 0 1 rfl
        have y4 := s2.cel p 0 4 rfl
        simp only [Nat.zero_add] at y0 y1 y4
        go_wp2
        generalize World.setCell w1 ⟨p, 4, none⟩ (.bool B) = w3 at s3 ⊢
        clear s2 y0 y1 y4
        have c0 := s3.cel Z 0 0 rfl
        have c1 := s3.cel Z 0 1 rfl
        have c2 := s3.cel Z 0 2 rfl
        simp only [Nat.zero_add] at c0 c1 c2
        have d0 := s3.cel p 0 0 rfl
        have d1 := s3.cel p 0 1 rfl
        have d4 := s3.cel p 0 4 rfl
        simp only [Nat.zero_add] at d0 d1 d4
        have t0 := s3.alloc (c := [.int .u64 x1, .int .u64 x2, .bool B]) (t := 71)
        have u0 := t0.cel Z 0 0 rfl
        have u1 := t0.cel Z 0 1 rfl
        have u2 := t0.cel Z 0 2 rfl
        simp only [Nat.zero_add] at u0 u1 u2
        have f0 := t0.cel p 0 0 rfl
        have f1 := t0.cel p 0 1 rfl
        have f4 := t0.cel p 0 4 rfl
        simp only [Nat.zero_add] at f0 f1 f4
        go_region_law ((refine step_append rfl (.tmp 40) (.tmp 48) 52 52 71 rfl i0 (.agg #[.int .u64 0, .int .u64 0, .bool false]) 3 24 Try.underlying52 Try.underlying52 hi hz hs1 hb1 rfl (by decide) rfl own (Sat.pull (h := h) (s3.drew.alloc)) rfl (us := [.int .u64 x1, .int .u64 x2, .bool B]) rfl row_seg (by simp [Value.oneCell']) (by omega) (by omega) ?_; intro A2 cap2 w2 h2 ho hs; have e1 := hs.cel p 0 1 rfl; rw [Nat.zero_add] at e1))
        all_goals
          try simp only [Act.put, List.getElem_toArray, List.getElem_cons_succ, List.getElem_cons_zero, List.setIfInBounds_toArray, List.set_cons_succ, List.set_cons_zero]
          go_wp2
          refine K _ ⟨segs ++ [(x1, x2, B)], ta, tl, B, .slice A2 (segs.length + 1) cap2, h2, by simpa [encG, List.flatMap_append] using ho⟩ rfl rfl rfl rfl ?_
          simp only [wkL, List.cons_append, List.nil_append]
          have s9 := (hs.pc p 0).s 1 (by simp) (.slice A2 (segs.length + 1) cap2)
          simp only [List.set_cons_succ, List.set_cons_zero, Nat.zero_add] at s9
          exact s9.wk
      · cases B
        · exact absurd ⟨rfl, rfl⟩ hc
        · skip
          obtain ⟨i0, hi, hz, hs1, hb1⟩ := info_seg
          obtain ⟨A1, cap1, sp1, rfl, hcap, hcap2, hl1, hl2, hl3, hl4⟩ := id own
          go_enter Try.func115, Try.ntmps115
          go_wp2
          go_quiet ((go_at_call 64; exact Calls.quiet_of_same (v := .bool true) (c_ramHas (s1.drewN _) x1 x2 q1.out q2.out (by rw [hd]; exact ⟨rfl, rfl⟩))))
          have s2 := s1.drewN nq
          generalize World.drewN _ nq = w1 at s2 ⊢
          clear s1 z0 z1 z2 y0 y1 y4 q1 q2 hd hh
          have s3 := (s2.pc p 0).s 4 (by simp) (.bool true)
          simp only [List.set_cons_succ, List.set_cons_zero, Nat.zero_add] at s3
          have y0 := s2.cel p 0 0 rfl
          have y1 := s2.cel p 0 1 rfl
          have y4 := s2.cel p 0 4 rfl
          simp only [Nat.zero_add] at y0 y1 y4
          go_wp2
          generalize World.setCell w1 ⟨p, 4, none⟩ (.bool true) = w3 at s3 ⊢
          clear s2 y0 y1 y4
          have c0 := s3.cel Z 0 0 rfl
          have c1 := s3.cel Z 0 1 rfl
          have c2 := s3.cel Z 0 2 rfl
          simp only [Nat.zero_add] at c0 c1 c2
          have d0 := s3.cel p 0 0 rfl
          have d1 := s3.cel p 0 1 rfl
          have d4 := s3.cel p 0 4 rfl
          simp only [Nat.zero_add] at d0 d1 d4
          have t0 := s3.alloc (c := [.int .u64 x1, .int .u64 x2, .bool true]) (t := 71)
          have u0 := t0.cel Z 0 0 rfl
          have u1 := t0.cel Z 0 1 rfl
          have u2 := t0.cel Z 0 2 rfl
          simp only [Nat.zero_add] at u0 u1 u2
          have f0 := t0.cel p 0 0 rfl
          have f1 := t0.cel p 0 1 rfl
          have f4 := t0.cel p 0 4 rfl
          simp only [Nat.zero_add] at f0 f1 f4
          go_region_law ((refine step_append rfl (.tmp 40) (.tmp 48) 52 52 71 rfl i0 (.agg #[.int .u64 0, .int .u64 0, .bool false]) 3 24 Try.underlying52 Try.underlying52 hi hz hs1 hb1 rfl (by decide) rfl own (Sat.pull (h := h) (s3.drew.alloc)) rfl (us := [.int .u64 x1, .int .u64 x2, .bool true]) rfl row_seg (by simp [Value.oneCell']) (by omega) (by omega) ?_; intro A2 cap2 w2 h2 ho hs; have e1 := hs.cel p 0 1 rfl; rw [Nat.zero_add] at e1))
          all_goals
            try simp only [Act.put, List.getElem_toArray, List.getElem_cons_succ, List.getElem_cons_zero, List.setIfInBounds_toArray, List.set_cons_succ, List.set_cons_zero]
            go_wp2
            refine K _ ⟨segs ++ [(x1, x2, true)], ta, tl, true, .slice A2 (segs.length + 1) cap2, h2, by simpa [encG, List.flatMap_append] using ho⟩ rfl rfl rfl rfl ?_
            simp only [wkL, List.cons_append, List.nil_append]
            have s9 := (hs.pc p 0).s 1 (by simp) (.slice A2 (segs.length + 1) cap2)
            simp only [List.set_cons_succ, List.set_cons_zero, Nat.zero_add] at s9
            exact s9.wk
  · have K := ka hh
    have hd : decide (r.has x1 x2) = false := by simp; exact fun h => hh (hhas.1 h)
    clear ka kb k hhas
    go_enter Try.func115, Try.ntmps115
    go_wp2
    go_quiet ((go_at_call 64; exact Calls.quiet_of_same (v := .bool false) (c_ramHas (s1.drewN _) x1 x2 q1.out q2.out (by rw [hd]; exact ⟨rfl, rfl⟩))))
    go_wp2
    exact (s1.drewN _).wk
end
end Go.Proofs.Ytippipfogbgemaa
