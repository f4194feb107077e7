/-
  The document's disk (vireoref13): as a value; ask, piece, Flush, New.
-/
import Derived.Test.YtohccblfnjampaaVdy
namespace Go.Proofs.Ytohccblfnjampaa
open Go.RowKit
set_option linter.unusedVariables false

def RefD (H : Hp) (v : Value) (C : Nat) (m : Int → Int) (lk : Bool) (f q fl : Int) : Prop :=
  ∃ sl, v = .agg #[sl, .bool lk, .int .u64 f, .int .u64 q, .int .u64 fl] ∧ Rd u8E 1 H sl (rdB m 0 (512 * C))
theorem RefD.mono {H H' : Hp} {v : Value} {C : Nat} {m : Int → Int} {lk : Bool} {f q fl : Int} (r : RefD H v C m lk f q fl) (le : ∀ l c, H l = some c → H' l = some c) : RefD H' v C m lk f q fl := by
  obtain ⟨sl, h1, h2⟩ := r
  exact ⟨sl, h1, h2.mono u8E_mono le⟩
theorem RefD.open_ {H : Hp} {v : Value} {C : Nat} {m : Int → Int} {lk : Bool} {f q fl : Int} (r : RefD H v C m lk f q fl) : ∃ B N c, v = .agg #[.slice B N c, .bool lk, .int .u64 f, .int .u64 q, .int .u64 fl] ∧ N = 512 * C ∧ Rd u8E 1 H (.slice B N c) (rdB m 0 N) := by
  obtain ⟨sl, rfl, h2⟩ := r
  obtain ⟨B, c, rfl, h3⟩ := h2.open_
  rw [rdB_len] at h3
  exact ⟨B, 512 * C, c, by rw [rdB_len], rfl, h3⟩
section
variable {R : Ending → World → Prop} {W0 w : World} {H : Hp} {A : List Hp} {v : Value} {C : Nat} {m : Int → Int} {lk : Bool} {f q fl : Int}

set_option maxRecDepth 100000 in
set_option maxHeartbeats 4000000 in
theorem c_refAskD (s : Sat W0 w H A) (rf : RefD H v C m lk f q fl) (hf : 0 ≤ f ∧ f ≤ 18446744073709551615)
    (k : ∀ w' B N c, RefD H (.agg #[.slice B N c, .bool lk, .int .u64 (nextF f), .int .u64 (upQ q), .int .u64 fl]) C m lk (nextF f) (upQ q) fl → Sat W0 w' H A → R (.returned (.tuple #[.agg #[.slice B N c, .bool lk, .int .u64 (nextF f), .int .u64 (upQ q), .int .u64 fl], .int .i64 (askC f)])) w') :
    Calls Try.prog 122 #[v] w R := by
  obtain ⟨B, N, c, rfl, hN, rd⟩ := rf.open_
  replace hN := aside hN
  have s1 := (s.alloc (c := [.slice B N c, .bool lk, .int .u64 (nextF f), .int .u64 (upQ q), .int .u64 (fl)]) (t := 51)).alloc (c := [.slice B N c, .bool lk, .int .u64 (nextF f), .int .u64 (upQ q), .int .u64 (fl)]) (t := 51)
  obtain ⟨Z, hZ⟩ : ∃ Z, w.heap.size = Z := ⟨_, rfl⟩
  rw [World.size_alloc, hZ] at s1
  have ew : IntKind.u64.wrap (q + 1) = upQ q := wrap_u64 _
  have K := k _ B N c ⟨_, rfl, by rw [← hN.out]; exact rd⟩ s1.tail1.tail1
  obtain ⟨qq, hqq⟩ : ∃ y, upQ q = y := ⟨_, rfl⟩
  rw [hqq] at K s1 ew
  clear s k rf hqq rd
  by_cases hf0 : f = 0
  · subst hf0
    rw [show askC 0 = 0 from rfl, show nextF 0 = 0 from rfl] at K
    rw [show nextF 0 = 0 from rfl] at s1
    have f0 := s1.cel (Z + 1) 0 0 rfl
    have f1 := s1.cel (Z + 1) 0 1 rfl
    have f2 := s1.cel (Z + 1) 0 2 rfl
    have f3 := s1.cel (Z + 1) 0 3 rfl
    have f4 := s1.cel (Z + 1) 0 4 rfl
    simp only [Nat.zero_add] at f0 f1 f2 f3 f4
    clear s1
    go_enter Try.func122, Try.ntmps122
    go_wp2
    refine bodyPost_ret (by simp [results, Try.results122, go_sem, f0.1, f1.1, f2.1, f3.1, f4.1]; try rfl) rfl ?_
    exact K
  · have e1 : nextF f = f - 1 := by unfold nextF; rw [if_neg hf0]
    have e2 : IntKind.u64.wrap (f - 1) = f - 1 := by rw [wrap_u64]; omega
    have e3 : 0 < f := by omega
    rw [e1] at K s1
    by_cases h1 : f = 1
    · subst h1
      rw [show askC 1 = 133 from rfl, show (1 : Int) - 1 = 0 from rfl] at K
      rw [show (1 : Int) - 1 = 0 from rfl] at s1
      have f0 := s1.cel (Z + 1) 0 0 rfl
      have f1 := s1.cel (Z + 1) 0 1 rfl
      have f2 := s1.cel (Z + 1) 0 2 rfl
      have f3 := s1.cel (Z + 1) 0 3 rfl
      have f4 := s1.cel (Z + 1) 0 4 rfl
      simp only [Nat.zero_add] at f0 f1 f2 f3 f4
      clear s1 e1 e2
      go_enter Try.func122, Try.ntmps122
      go_wp2
      refine bodyPost_ret (by simp [results, Try.results122, go_sem, f0.1, f1.1, f2.1, f3.1, f4.1]; try rfl) rfl ?_
      exact K
    · rw [show askC f = 0 by unfold askC; rw [if_neg h1]] at K
      obtain ⟨g, hg⟩ : ∃ g, f - 1 = g := ⟨_, rfl⟩
      have hg0 : (g == 0) = false := by simp; omega
      rw [hg] at K e2 s1
      have f0 := s1.cel (Z + 1) 0 0 rfl
      have f1 := s1.cel (Z + 1) 0 1 rfl
      have f2 := s1.cel (Z + 1) 0 2 rfl
      have f3 := s1.cel (Z + 1) 0 3 rfl
      have f4 := s1.cel (Z + 1) 0 4 rfl
      simp only [Nat.zero_add] at f0 f1 f2 f3 f4
      clear s1 h1 e1
      go_enter Try.func122, Try.ntmps122
      go_wp2
      refine bodyPost_ret (by simp [results, Try.results122, go_sem, f0.1, f1.1, f2.1, f3.1, f4.1]; try rfl) rfl ?_
      exact K

set_option maxRecDepth 100000 in
set_option maxHeartbeats 4000000 in
theorem c_refPieceD (s : Sat W0 w H A) (rf : RefD H v C m lk f q fl) (hC : C ≤ 65536) (a n : Int) (ha : 0 ≤ a ∧ a ≤ 18446744073709551615) (hn : 0 ≤ n ∧ n ≤ 18446744073709551615)
    (k : ∀ w', Sat W0 w' H A → R (.returned (.int .i64 (pieceC C a n))) w') :
    Calls Try.prog 123 #[v, .int .u64 a, .int .u64 n] w R := by
  obtain ⟨B, N, c, rfl, hN, rd⟩ := rf.open_
  replace hN := aside hN
  have s1 := s.alloc (c := [.slice B N c, .bool lk, .int .u64 (f), .int .u64 (q), .int .u64 (fl)]) (t := 51)
  have y0 := s1.c 0 rfl
  simp only [Nat.zero_add] at y0
  have hN1 := hN.out
  have eN : IntKind.u64.wrap (N : Int) = N := by rw [wrap_u64]; omega
  have eC : (N : Int) / 512 = C := by omega
  have eCw : IntKind.u64.wrap (C : Int) = C := by rw [wrap_u64]; omega
  obtain ⟨p, hp⟩ : ∃ p, n / 512 = p := ⟨_, rfl⟩
  have epw : IntKind.u64.wrap p = p := by rw [wrap_u64]; omega
  have K := k _ s1.tail1
  clear s s1 k rf rd
  by_cases h5 : n % 512 = 0
  · have e5 : (n % 512 != 0) = false := by simp [h5]
    unfold pieceC at K
    rw [if_pos h5, hp] at K
    by_cases h1 : (C : Int) < a
    · rw [if_neg (by omega)] at K
      clear h5 hN1
      go_enter Try.func123, Try.ntmps123
      go_wp2
      exact K
    · have h2 : a ≤ C := by omega
      have e6 : IntKind.u64.wrap ((C : Int) - a) = (C : Int) - a := by rw [wrap_u64]; omega
      by_cases h3 : (C : Int) - a < p
      · rw [if_neg (by omega)] at K
        clear h5 hN1 h1
        go_enter Try.func123, Try.ntmps123
        go_wp2
        exact K
      · have h4 : p ≤ (C : Int) - a := by omega
        rw [if_pos (by omega)] at K
        clear h5 hN1 h1 h3
        go_enter Try.func123, Try.ntmps123
        go_wp2
        exact K
  · have e5 : (n % 512 != 0) = true := by simp [h5]
    unfold pieceC at K
    rw [if_neg h5] at K
    clear h5 hN1 hp
    go_enter Try.func123, Try.ntmps123
    go_wp2
    exact K

set_option maxRecDepth 100000 in
set_option maxHeartbeats 4000000 in
theorem c_refFlushD (s : Sat W0 w H A) (rf : RefD H v C m lk f q fl) (hf : 0 ≤ f ∧ f ≤ 18446744073709551615)
    (k1 : f = 1 → ∀ w' v', RefD H v' C m lk (nextF f) (upQ q) fl → Sat W0 w' H A → R (.returned (.tuple #[v', .int .i64 133])) w')
    (k0 : f ≠ 1 → ∀ w' v', RefD H v' C m lk (nextF f) (upQ q) (upQ fl) → Sat W0 w' H A → R (.returned (.tuple #[v', .int .i64 0])) w') :
    Calls Try.prog 104 #[v] w R := by
  obtain ⟨B, N, c, rfl, hN, rd⟩ := rf.open_
  replace hN := aside hN
  have s1 := (s.alloc (c := [.slice B N c, .bool lk, .int .u64 (f), .int .u64 (q), .int .u64 (fl)]) (t := 51)).alloc (c := [.slice none 0 0, .bool false, .int .u64 0, .int .u64 0, .int .u64 0]) (t := 51)
  obtain ⟨Z, hZ⟩ : ∃ Z, w.heap.size = Z := ⟨_, rfl⟩
  rw [World.size_alloc, hZ] at s1
  have y0 := s1.cel Z 0 0 rfl
  have y1 := s1.cel Z 0 1 rfl
  have y2 := s1.cel Z 0 2 rfl
  have y3 := s1.cel Z 0 3 rfl
  have y4 := s1.cel Z 0 4 rfl
  simp only [Nat.zero_add] at y0 y1 y2 y3 y4
  clear s
  go_enter Try.func104, Try.ntmps104
  go_wp2_with fail
  refine c_refAskD s1 rf hf ?_
  intro w2 B2 N2 c2 rf2 s2
  obtain ⟨g, hg⟩ : ∃ y, nextF f = y := ⟨_, rfl⟩
  obtain ⟨qq, hqq⟩ : ∃ y, upQ q = y := ⟨_, rfl⟩
  rw [hg, hqq] at rf2 k1 k0 ⊢
  have s3q0 := s2.cel Z 0 0 rfl
  have s3t0 := (Sat.pull (h := cellsH ⟨Z, 0, none⟩ [.slice B N c, .bool lk, .int .u64 (f), .int .u64 (q), .int .u64 (fl)]) s2).s0 (.slice B2 N2 c2)
  have s3q1 := s3t0.c 1 rfl
  have s3t1 := s3t0.s 1 (by simp) (.bool lk)
  have s3q2 := s3t1.c 2 rfl
  have s3t2 := s3t1.s 2 (by simp) (.int .u64 (g))
  have s3q3 := s3t2.c 3 rfl
  have s3t3 := s3t2.s 3 (by simp) (.int .u64 (qq))
  have s3q4 := s3t3.c 4 rfl
  have s3 := s3t3.s 4 (by simp) (.int .u64 (fl))
  simp only [List.set_cons_succ, List.set_cons_zero, Nat.zero_add] at s3 s3q0 s3q1 s3q2 s3q3 s3q4
  clear s1
  by_cases h1 : f = 1
  · rw [show askC f = 133 by rw [h1]; rfl]
    have s4q0 := s3.cel (Z + 1) 0 0 rfl
    have s4t0 := (Sat.pull (h := cellsH ⟨(Z + 1), 0, none⟩ [.slice none 0 0, .bool false, .int .u64 0, .int .u64 0, .int .u64 0]) s3).s0 (.slice B2 N2 c2)
    have s4q1 := s4t0.c 1 rfl
    have s4t1 := s4t0.s 1 (by simp) (.bool lk)
    have s4q2 := s4t1.c 2 rfl
    have s4t2 := s4t1.s 2 (by simp) (.int .u64 (g))
    have s4q3 := s4t2.c 3 rfl
    have s4t3 := s4t2.s 3 (by simp) (.int .u64 (qq))
    have s4q4 := s4t3.c 4 rfl
    have s4 := s4t3.s 4 (by simp) (.int .u64 (fl))
    simp only [List.set_cons_succ, List.set_cons_zero, Nat.zero_add] at s4 s4q0 s4q1 s4q2 s4q3 s4q4
    have f0 := s4.c 0 rfl
    have f1 := s4.c 1 rfl
    have f2 := s4.c 2 rfl
    have f3 := s4.c 3 rfl
    have f4 := s4.c 4 rfl
    simp only [Nat.zero_add] at f0 f1 f2 f3 f4
    have K := k1 h1 _ _ rf2 s4.tail1.tail1
    clear k0 k1 s4 s3 s2
    go_wp2
    refine bodyPost_ret (by simp [results, Try.results104, go_sem, f0.1, f1.1, f2.1, f3.1, f4.1]; try rfl) rfl ?_
    exact K
  · rw [show askC f = 0 by unfold askC; rw [if_neg h1]]
    have ew : IntKind.u64.wrap (fl + 1) = upQ fl := wrap_u64 _
    obtain ⟨fq, hfq⟩ : ∃ y, upQ fl = y := ⟨_, rfl⟩
    rw [hfq] at ew k0
    have s3c4 := s3.c 4 rfl
    have s3b := s3.s 4 (by simp) (.int .u64 fq)
    simp only [List.set_cons_succ, List.set_cons_zero, Nat.zero_add] at s3b s3c4
    have s4q0 := s3b.cel (Z + 1) 0 0 rfl
    have s4t0 := (Sat.pull (h := cellsH ⟨(Z + 1), 0, none⟩ [.slice none 0 0, .bool false, .int .u64 0, .int .u64 0, .int .u64 0]) s3b).s0 (.slice B2 N2 c2)
    have s4q1 := s4t0.c 1 rfl
    have s4t1 := s4t0.s 1 (by simp) (.bool lk)
    have s4q2 := s4t1.c 2 rfl
    have s4t2 := s4t1.s 2 (by simp) (.int .u64 (g))
    have s4q3 := s4t2.c 3 rfl
    have s4t3 := s4t2.s 3 (by simp) (.int .u64 (qq))
    have s4q4 := s4t3.c 4 rfl
    have s4 := s4t3.s 4 (by simp) (.int .u64 (fq))
    simp only [List.set_cons_succ, List.set_cons_zero, Nat.zero_add] at s4 s4q0 s4q1 s4q2 s4q3 s4q4
    have f0 := s4.c 0 rfl
    have f1 := s4.c 1 rfl
    have f2 := s4.c 2 rfl
    have f3 := s4.c 3 rfl
    have f4 := s4.c 4 rfl
    simp only [Nat.zero_add] at f0 f1 f2 f3 f4
    have K := k0 h1 _ _ (by obtain ⟨sl, e, r⟩ := rf2; injection e with e; injection e with e; exact ⟨.slice B2 N2 c2, rfl, by rw [(List.cons.inj e).1]; exact r⟩) s4.tail1.tail1
    clear k0 k1 s4 s3b s3 s2
    go_wp2
    refine bodyPost_ret (by simp [results, Try.results104, go_sem, f0.1, f1.1, f2.1, f3.1, f4.1]; try rfl) rfl ?_
    exact K

theorem c_refNewD (s : Sat W0 w H A) (C : Nat) (hC : 1 ≤ C ∧ C ≤ 64) (lk : Bool)
    (k : ∀ w' H' v', (∀ l c, H l = some c → H' l = some c) → RefD H' v' C (fun _ => 0) lk 0 0 0 → Sat W0 w' H' A → R (.returned v') w') :
    Calls Try.prog 76 #[.int .u64 C, .bool lk] w R := by
  have s1 := s.alloc (c := [.slice (some ⟨w.heap.size + 1, 0, none⟩) (512 * C) (512 * C), .bool lk, .int .u64 0, .int .u64 0, .int .u64 0]) (t := 51)
  have s2 := s1.alloc (c := List.replicate (512 * C) (.int .u8 0)) (t := 5)
  rw [World.size_alloc] at s2
  have ew : IntKind.u64.wrap (512 * (C : Int)) = ((512 * C : Nat) : Int) := by rw [wrap_u64]; omega
  obtain ⟨N, hN⟩ : ∃ N, 512 * C = N := ⟨_, rfl⟩
  rw [hN] at ew s2
  have hmk : ∀ W, (Instr.makeSlice 34 (.int .u64 N) (.int .u64 N)).run Try.prog W = .ok (.slice (some ⟨W.heap.size, 0, none⟩) N N) (W.alloc (.cells (List.replicate N (Value.int .u8 0)).toArray 5)) := fun W => by
    have := run_make8 .u64 .u64 N N (by omega) (by omega) (by omega) W
    simpa using this
  have hz : rdB (fun _ => 0) 0 N = List.replicate N 0 := rdB_zero N (fun _ _ => rfl)
  have rd : Rd u8E 1 (un H (cellsH ⟨w.heap.size + 1, 0, none⟩ (List.replicate N (.int .u8 0)))) (.slice (some ⟨w.heap.size + 1, 0, none⟩) N N) (rdB (fun _ => 0) 0 N) := by
    have r := Rd.ofCells (b := w.heap.size + 1) (o := 0) (c := N) (xs := List.replicate N (0 : Int)) [] (by intro x hx; obtain ⟨_, rfl⟩ := List.mem_replicate.1 hx; omega) (by simp) (by omega)
    rw [List.length_replicate, List.append_nil, List.map_replicate] at r
    rw [hz]
    exact r.mono u8E_mono (Sat.frozenD s2)
  have K := k _ (un H (cellsH ⟨w.heap.size + 1, 0, none⟩ (List.replicate N (.int .u8 0)))) (.agg #[.slice (some ⟨w.heap.size + 1, 0, none⟩) N N, .bool lk, .int .u64 0, .int .u64 0, .int .u64 0]) un_leftD ⟨_, rfl, by rw [hN]; exact rd⟩ s2.freeze.tail1
  have f0 := s2.cel w.heap.size 0 0 rfl
  have f1 := s2.cel w.heap.size 0 1 rfl
  have f2 := s2.cel w.heap.size 0 2 rfl
  have f3 := s2.cel w.heap.size 0 3 rfl
  have f4 := s2.cel w.heap.size 0 4 rfl
  simp only [Nat.zero_add] at f0 f1 f2 f3 f4
  clear s s1 s2 k hz rd
  go_enter Try.func76, Try.ntmps76
  go_wp2
  refine bodyPost_ret (by simp [results, Try.results76, go_sem]; try rfl) rfl ?_
  exact K
end
end Go.Proofs.Ytohccblfnjampaa
