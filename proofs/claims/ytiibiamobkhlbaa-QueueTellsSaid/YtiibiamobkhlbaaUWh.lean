/-
  The document's Differ.
-/
import Derived.Test.YtiibiamobkhlbaaUWg
import Derived.Test.YtiibiamobkhlbaaUWf
import Derived.Test.YtiibiamobkhlbaaG2
set_option linter.unusedVariables false
set_option linter.unusedSimpArgs false
namespace Go.Proofs.Ytiibiamobkhlbaa
open Go.RowKit
set_option linter.unusedVariables false
set_option linter.unusedSimpArgs false

theorem Rd.rowB {w : World} {hp : Hp} {A : Option Addr} {n c : Nat} {xs : List (Int × Int)} (hh : Holds w hp) (r : Rd byteE 2 hp (.slice A n c) xs) : RowR w A (xs.flatMap encB) := by
  obtain ⟨_, _, _, g⟩ := r.byte2
  intro hne
  have hpos : 0 < xs.length := by
    rcases xs with _ | ⟨x, xs⟩
    · exact absurd rfl hne
    · simp
  obtain ⟨b, o, rfl, _⟩ := g 0 hpos
  refine ⟨b, o, rfl, fun j u hu => ?_⟩
  have hj : j < xs.length * 2 := by
    rcases Nat.lt_or_ge j (xs.length * 2) with h | h
    · exact h
    · rw [List.getElem?_eq_none (by rw [encB_len]; exact h)] at hu; cases hu
  obtain ⟨b', o', e, h0, h1, _⟩ := g (j / 2) (by omega)
  cases e
  have hx := encB_at (L := xs) (i := j / 2) (x := xs[j / 2]'(by omega)) (by simp)
  by_cases hp : j % 2 = 0
  · have ej : j = j / 2 * 2 := by omega
    rw [show (xs.flatMap encB)[j]? = (xs.flatMap encB)[j / 2 * 2]? by rw [← ej], hx.1] at hu
    obtain rfl := Option.some.inj hu
    have := hh.cell h0
    rwa [show o + j / 2 * 2 = o + j by omega] at this
  · have ej : j = j / 2 * 2 + 1 := by omega
    rw [show (xs.flatMap encB)[j]? = (xs.flatMap encB)[j / 2 * 2 + 1]? by rw [← ej], hx.2] at hu
    obtain rfl := Option.some.inj hu
    have := hh.cell h1
    rwa [show o + j / 2 * 2 + 1 = o + j by omega] at this
theorem oneCell_B (L : List (Int × Int)) : ∀ x ∈ L.flatMap encB, x.oneCell' = true := by
  intro x hx
  obtain ⟨y, _, hy⟩ := List.mem_flatMap.1 hx
  simp [encB] at hy
  rcases hy with rfl | rfl <;> rfl

/-- an owned row of entries is read -/
theorem OwnS.rdB2 {v : Value} {n : Nat} {xs : List (Int × Int)} {h : Hp} (own : OwnS 2 v n (xs.flatMap encB) h) (hx : ∀ x ∈ xs, (0 ≤ x.1 ∧ x.1 ≤ 18446744073709551615) ∧ 0 ≤ x.2 ∧ x.2 ≤ 255) : Rd byteE 2 h v xs := by
  obtain ⟨A, c, spare, rfl, h1, h2, h3, h4, h5, rfl⟩ := own
  rw [encB_len] at h3
  obtain rfl : xs.length = n := by omega
  refine ⟨A, c, rfl, h1, h2, fun i x hi => ?_⟩
  have hlt : i < xs.length := (List.getElem?_eq_some_iff.1 hi).1
  obtain ⟨b, o, rfl⟩ := h5 (by omega)
  refine ⟨b, o, encB x, rfl, ⟨rfl, hx x (List.mem_of_getElem? hi)⟩, rfl, fun j u hu => ⟨false, ?_⟩⟩
  have ha := encB_at hi
  have hl : i * 2 + j < (xs.flatMap encB).length := by
    rw [encB_len]
    match j, hu with
    | 0, _ => omega
    | 1, _ => omega
    | j + 2, hu => simp [encB] at hu
  have h9 := cellsH_at (a := ⟨b, o, none⟩) (vs := xs.flatMap encB ++ spare) (i := i * 2 + j) (v := u) (by
    rw [List.getElem?_append_left hl]
    match j, hu with
    | 0, hu => simp [encB] at hu; subst hu; exact ha.1
    | 1, hu => simp [encB] at hu; subst hu; exact ha.2
    | j + 2, hu => simp [encB] at hu)
  simpa [Nat.add_assoc, rowH] using h9

/-- what was never written is 0 -/
theorem lastM_not {bs : List (Int × Int)} {x : Int} (h : ∀ e ∈ bs, e.1 ≠ x) : lastM bs x = 0 := by
  suffices ∀ (m : Int → Int), m x = 0 → bs.foldl (fun m x => updM m x.1 x.2) m x = 0 from this _ rfl
  induction bs with
  | nil => intro m hm; exact hm
  | cons e bs ih =>
    intro m hm
    rw [List.foldl_cons]
    refine ih (fun e' he' => h e' (List.mem_cons_of_mem _ he')) _ ?_
    unfold updM
    rw [if_neg (fun q => h e (by simp) q.symm)]
    exact hm

/-- the places touched where two differ, are those of the row of all places -/
theorem touched_dfrom {xs1 bs : List (Int × Int)} {T : List Int} {size : Int} (ht : TouchI (xs1 ++ bs) T (xs1 ++ bs).length) (hrg : ∀ x, lastM xs1 x ≠ lastM bs x → 2147483648 ≤ x ∧ x < 2147483648 + size) (h0 : 0 ≤ size) :
    T.filter (fun x => decide (lastM xs1 x ≠ lastM bs x)) = dfrom (lastM xs1) (lastM bs) 2147483648 size.toNat := by
  refine sorted_unique (ht.sorted.sublist List.filter_sublist) (dfrom_sorted _ _) fun x => ?_
  rw [List.mem_filter, mem_dfrom, decide_eq_true_eq, ht.mem, List.take_length]
  constructor
  · rintro ⟨_, h⟩
    have := hrg x h
    exact ⟨this.1, by omega, h⟩
  · rintro ⟨_, _, h⟩
    refine ⟨?_, h⟩
    rcases Classical.em (∃ e ∈ xs1 ++ bs, e.1 = x) with h1 | h1
    · exact h1
    · exfalso
      refine h ?_
      rw [lastM_not (fun e he q => h1 ⟨e, List.mem_append_left _ he, q⟩), lastM_not (fun e he q => h1 ⟨e, List.mem_append_right _ he, q⟩)]

theorem difL_filter_same {most : Int} {f : Int → Bool} {x : Int} {l : List Int} {out : List (Int × Int)} (h : f x = false) : difL most ((x :: l).filter f) out = difL most (l.filter f) out := by
  rw [List.filter_cons_of_neg (by simp [h])]

section
variable {R : Ending → World → Prop} {W0 w : World} {H : Hp} {A F : List Hp} {va vb : Value} {size : Int} {ma mb : Int → Int} {La Lb : Nat}


set_option maxRecDepth 100000 in
set_option maxHeartbeats 4000000 in
theorem c_refDiffer (s : Sat W0 w H A) (ra : RefM H va size ma La) (rb : RefM H vb size mb Lb) (hLa : La ≤ 100000000000) (hLb : Lb ≤ 100000000000) (hz : 0 ≤ size ∧ size ≤ 268435456) (hrg : ∀ x, ma x ≠ mb x → 2147483648 ≤ x ∧ x < 2147483648 + size)
    (most : Int) (hmo : -9223372036854775808 ≤ most ∧ most ≤ 9223372036854775807)
    (k : ∀ w' v h, OwnS 2 v (difL most (dfrom ma mb 2147483648 size.toNat) []).length (encS (difL most (dfrom ma mb 2147483648 size.toNat) [])) h → Sat W0 w' H (h :: A) → R (.returned v) w') :
    Calls Try.prog 40 #[va, vb, .int .i64 most] w R := by
  obtain ⟨sa, as', rfl, rda, rfl, hla⟩ := id ra
  obtain ⟨sb, bs', rfl, rdb, rfl, hlb⟩ := id rb
  obtain ⟨Ba, ca, rfl, rda⟩ := rda.open_
  obtain ⟨Bb, cb, rfl, rdb⟩ := rdb.open_
  obtain ⟨Na, hNa⟩ : ∃ n, as'.length = n := ⟨_, rfl⟩
  obtain ⟨Nb, hNb⟩ : ∃ n, bs'.length = n := ⟨_, rfl⟩
  rw [hNa] at rda hla
  rw [hNb] at rdb hlb
  obtain ⟨i0, hi0, hz0, hs0, hb0⟩ := info_byte
  have hel : (as'.flatMap encB).length = Na * 2 := by rw [encB_len, hNa]
  have hel2 : (bs'.flatMap encB).length = Nb * 2 := by rw [encB_len, hNb]
  obtain ⟨FIN, hFIN⟩ : ∃ FIN, difL most (dfrom (lastM as') (lastM bs') 2147483648 size.toNat) [] = FIN := ⟨_, rfl⟩
  rw [hFIN] at k
  have s1 := s.alloc (c := [.int .u64 size, .slice Ba Na ca]) (t := 32)
  have s2 := s1.alloc (c := [.int .u64 size, .slice Bb Nb cb]) (t := 32)
  obtain ⟨Z, hZ⟩ : ∃ Z, w.heap.size = Z := ⟨_, rfl⟩
  simp only [World.size_alloc, hZ] at s2
  obtain ⟨Y, hY⟩ : ∃ Y, Z + 1 = Y := ⟨_, rfl⟩
  rw [hY] at s2
  replace hNa := aside hNa
  replace hNb := aside hNb
  replace hFIN := aside hFIN
  rw [hNa.out, hNb.out]
  clear s s1
  go_enter Try.func40, Try.ntmps40
  go_upto_region 1 with fail
  generalize World.alloc (World.alloc w _) _ = w2 at s2 ⊢
  go_cut [7] (fun s7 wx => ∃ (P : Nat) (A6 : Option Addr) (c6 : Nat) (h6 : Hp), s7 = .pointer (some ⟨P, 0, none⟩) ∧ OwnS 2 (.slice A6 (Na + Nb) c6) (Na + Nb) ((as' ++ bs').flatMap encB) h6 ∧ Sat W0 wx H (h6 :: cellsH ⟨P, 0, none⟩ [.int .u64 0, .slice A6 (Na + Nb) c6] :: cellsH ⟨Y, 0, none⟩ [.int .u64 size, .slice Bb Nb cb] :: cellsH ⟨Z, 0, none⟩ [.int .u64 size, .slice Ba Na ca] :: A))
  case first =>
    have sd := s2.drew
    obtain ⟨X, hX⟩ : ∃ X, w2.heap.size = X := ⟨_, rfl⟩
    have al0 := s2.alloc (c := [.int .u64 0, .slice none 0 0]) (t := 32)
    have al := al0.drew
    have b1 := (s2.alloc (c := []) (t := 224)).drew.emp
    have b2 := (al0.alloc (c := []) (t := 224)).drew.emp
    have b3 := ((s2.alloc (c := []) (t := 224)).alloc (c := [.int .u64 0, .slice none 0 0]) (t := 32)).drew.emp
    simp only [World.size_alloc, hX] at al b1 b2 b3
    have gd := (And.intro ((sd.cel Z 0 0 rfl).1) (And.intro ((sd.cel Z 0 1 rfl).1) (And.intro ((sd.cel Y 0 0 rfl).1) ((sd.cel Y 0 1 rfl).1))))
    simp only [Nat.zero_add, Nat.add_zero] at gd
    have gal := (And.intro ((al.cel Z 0 0 rfl).1) (And.intro ((al.cel Z 0 1 rfl).1) (And.intro ((al.cel Y 0 0 rfl).1) ((al.cel Y 0 1 rfl).1))))
    simp only [Nat.zero_add, Nat.add_zero] at gal
    have gb1 := (And.intro ((b1.cel Z 0 0 rfl).1) (And.intro ((b1.cel Z 0 1 rfl).1) (And.intro ((b1.cel Y 0 0 rfl).1) ((b1.cel Y 0 1 rfl).1))))
    simp only [Nat.zero_add, Nat.add_zero] at gb1
    have gb2 := (And.intro ((b2.cel Z 0 0 rfl).1) (And.intro ((b2.cel Z 0 1 rfl).1) (And.intro ((b2.cel Y 0 0 rfl).1) ((b2.cel Y 0 1 rfl).1))))
    simp only [Nat.zero_add, Nat.add_zero] at gb2
    have gb3 := (And.intro ((b3.cel Z 0 0 rfl).1) (And.intro ((b3.cel Z 0 1 rfl).1) (And.intro ((b3.cel Y 0 0 rfl).1) ((b3.cel Y 0 1 rfl).1))))
    simp only [Nat.zero_add, Nat.add_zero] at gb3
    clear s2
    go_region_held3 (fun w' => w'.cell? ⟨Z, 0, none⟩ = some (.int .u64 size) ∧ w'.cell? ⟨Z, 1, none⟩ = some (.slice Ba Na ca) ∧ w'.cell? ⟨Y, 0, none⟩ = some (.int .u64 size) ∧ w'.cell? ⟨Y, 1, none⟩ = some (.slice Bb Nb cb))
      (first
        | with_reducible exact gd
        | with_reducible exact gal
        | with_reducible exact gb1
        | with_reducible exact gb2
        | with_reducible exact gb3
        | with_reducible exact g5
        | with_reducible exact g5a
        | with_reducible exact g6
        | with_reducible exact g6a
        | with_reducible exact g6b
        | with_reducible exact g7
        | with_reducible exact g7t)
      (first
        | (refine step_append rfl (.tmp 15) (.tmp 17) 30 30 224 rfl i0 (.agg #[.int .u64 0, .int .u8 0]) 2 16 Try.underlying30 Try.underlying30 hi0 hz0 hs0 hb0 rfl (by decide) rfl own5 s5 (X := Bb) (m := Nb) (c := cb) rfl (us := bs'.flatMap encB) hel2 (rdb.rowB s5.ro) (oneCell_B _) (by omega) (by omega) ?_; intro A6 c6 w6 h6 own6 s6
           obtain ⟨Q6, hQ6⟩ : ∃ q, w6.heap.size = q := ⟨_, rfl⟩
           have s6a := s6.alloc (c := [.int .u64 0, .slice A6 (0 + Na + Nb) c6]) (t := 32)
           have s6b := s6.alloc (c := [.int .u64 0, .slice none 0 0]) (t := 32)
           rw [hQ6] at s6a s6b
           have g6 := (And.intro ((s6.cel Z 0 0 rfl).1) (And.intro ((s6.cel Z 0 1 rfl).1) (And.intro ((s6.cel Y 0 0 rfl).1) ((s6.cel Y 0 1 rfl).1))))
           simp only [Nat.zero_add, Nat.add_zero] at g6
           have g6a := (And.intro ((s6a.cel Z 0 0 rfl).1) (And.intro ((s6a.cel Z 0 1 rfl).1) (And.intro ((s6a.cel Y 0 0 rfl).1) ((s6a.cel Y 0 1 rfl).1))))
           simp only [Nat.zero_add, Nat.add_zero] at g6a
           have g6b := (And.intro ((s6b.cel Z 0 0 rfl).1) (And.intro ((s6b.cel Z 0 1 rfl).1) (And.intro ((s6b.cel Y 0 0 rfl).1) ((s6b.cel Y 0 1 rfl).1))))
           simp only [Nat.zero_add, Nat.add_zero] at g6b
           try
             have e0 := s6.cel Q5 0 0 rfl
             have e1 := s6.cel Q5 0 1 rfl
             have t0 := (s6.pc Q5 0).s0 (.int .u64 0)
             have s7 := t0.s 1 (by simp) (.slice A6 (0 + Na + Nb) c6)
             simp only [List.set_cons_succ, List.set_cons_zero, Nat.zero_add] at e0 e1 t0 s7
             have g7 := (And.intro ((s7.cel Z 0 0 rfl).1) (And.intro ((s7.cel Z 0 1 rfl).1) (And.intro ((s7.cel Y 0 0 rfl).1) ((s7.cel Y 0 1 rfl).1))))
             simp only [Nat.zero_add, Nat.add_zero] at g7
             have g7t := (And.intro ((t0.cel Z 0 0 rfl).1) (And.intro ((t0.cel Z 0 1 rfl).1) (And.intro ((t0.cel Y 0 0 rfl).1) ((t0.cel Y 0 1 rfl).1))))
             simp only [Nat.zero_add, Nat.add_zero] at g7t
           try
             have e0 := s6.cel X 0 0 rfl
             have e1 := s6.cel X 0 1 rfl
             have t0 := (s6.pc X 0).s0 (.int .u64 0)
             have s7 := t0.s 1 (by simp) (.slice A6 (0 + Na + Nb) c6)
             simp only [List.set_cons_succ, List.set_cons_zero, Nat.zero_add] at e0 e1 t0 s7
             have g7 := (And.intro ((s7.cel Z 0 0 rfl).1) (And.intro ((s7.cel Z 0 1 rfl).1) (And.intro ((s7.cel Y 0 0 rfl).1) ((s7.cel Y 0 1 rfl).1))))
             simp only [Nat.zero_add, Nat.add_zero] at g7
             have g7t := (And.intro ((t0.cel Z 0 0 rfl).1) (And.intro ((t0.cel Z 0 1 rfl).1) (And.intro ((t0.cel Y 0 0 rfl).1) ((t0.cel Y 0 1 rfl).1))))
             simp only [Nat.zero_add, Nat.add_zero] at g7t
           try
             have e0 := s6.cel (X + 1) 0 0 rfl
             have e1 := s6.cel (X + 1) 0 1 rfl
             have t0 := (s6.pc (X + 1) 0).s0 (.int .u64 0)
             have s7 := t0.s 1 (by simp) (.slice A6 (0 + Na + Nb) c6)
             simp only [List.set_cons_succ, List.set_cons_zero, Nat.zero_add] at e0 e1 t0 s7
             have g7 := (And.intro ((s7.cel Z 0 0 rfl).1) (And.intro ((s7.cel Z 0 1 rfl).1) (And.intro ((s7.cel Y 0 0 rfl).1) ((s7.cel Y 0 1 rfl).1))))
             simp only [Nat.zero_add, Nat.add_zero] at g7
             have g7t := (And.intro ((t0.cel Z 0 0 rfl).1) (And.intro ((t0.cel Z 0 1 rfl).1) (And.intro ((t0.cel Y 0 0 rfl).1) ((t0.cel Y 0 1 rfl).1))))
             simp only [Nat.zero_add, Nat.add_zero] at g7t
           have arm : True := trivial)
        | (refine step_append rfl (.tmp 15) (.tmp 17) 30 30 224 rfl i0 (.agg #[.int .u64 0, .int .u8 0]) 2 16 Try.underlying30 Try.underlying30 hi0 hz0 hs0 hb0 rfl (by decide) rfl own5n s5a (X := Bb) (m := Nb) (c := cb) rfl (us := bs'.flatMap encB) hel2 (rdb.rowB s5a.ro) (oneCell_B _) (by omega) (by omega) ?_; intro A6 c6 w6 h6 own6 s6
           obtain ⟨Q6, hQ6⟩ : ∃ q, w6.heap.size = q := ⟨_, rfl⟩
           have s6a := s6.alloc (c := [.int .u64 0, .slice A6 (Na + Nb) c6]) (t := 32)
           have s6b := s6.alloc (c := [.int .u64 0, .slice none 0 0]) (t := 32)
           rw [hQ6] at s6a s6b
           have g6 := (And.intro ((s6.cel Z 0 0 rfl).1) (And.intro ((s6.cel Z 0 1 rfl).1) (And.intro ((s6.cel Y 0 0 rfl).1) ((s6.cel Y 0 1 rfl).1))))
           simp only [Nat.zero_add, Nat.add_zero] at g6
           have g6a := (And.intro ((s6a.cel Z 0 0 rfl).1) (And.intro ((s6a.cel Z 0 1 rfl).1) (And.intro ((s6a.cel Y 0 0 rfl).1) ((s6a.cel Y 0 1 rfl).1))))
           simp only [Nat.zero_add, Nat.add_zero] at g6a
           have g6b := (And.intro ((s6b.cel Z 0 0 rfl).1) (And.intro ((s6b.cel Z 0 1 rfl).1) (And.intro ((s6b.cel Y 0 0 rfl).1) ((s6b.cel Y 0 1 rfl).1))))
           simp only [Nat.zero_add, Nat.add_zero] at g6b
           try
             have e0 := s6.cel Q5 0 0 rfl
             have e1 := s6.cel Q5 0 1 rfl
             have t0 := (s6.pc Q5 0).s0 (.int .u64 0)
             have s7 := t0.s 1 (by simp) (.slice A6 (Na + Nb) c6)
             simp only [List.set_cons_succ, List.set_cons_zero, Nat.zero_add] at e0 e1 t0 s7
             have g7 := (And.intro ((s7.cel Z 0 0 rfl).1) (And.intro ((s7.cel Z 0 1 rfl).1) (And.intro ((s7.cel Y 0 0 rfl).1) ((s7.cel Y 0 1 rfl).1))))
             simp only [Nat.zero_add, Nat.add_zero] at g7
             have g7t := (And.intro ((t0.cel Z 0 0 rfl).1) (And.intro ((t0.cel Z 0 1 rfl).1) (And.intro ((t0.cel Y 0 0 rfl).1) ((t0.cel Y 0 1 rfl).1))))
             simp only [Nat.zero_add, Nat.add_zero] at g7t
           try
             have e0 := s6.cel X 0 0 rfl
             have e1 := s6.cel X 0 1 rfl
             have t0 := (s6.pc X 0).s0 (.int .u64 0)
             have s7 := t0.s 1 (by simp) (.slice A6 (Na + Nb) c6)
             simp only [List.set_cons_succ, List.set_cons_zero, Nat.zero_add] at e0 e1 t0 s7
             have g7 := (And.intro ((s7.cel Z 0 0 rfl).1) (And.intro ((s7.cel Z 0 1 rfl).1) (And.intro ((s7.cel Y 0 0 rfl).1) ((s7.cel Y 0 1 rfl).1))))
             simp only [Nat.zero_add, Nat.add_zero] at g7
             have g7t := (And.intro ((t0.cel Z 0 0 rfl).1) (And.intro ((t0.cel Z 0 1 rfl).1) (And.intro ((t0.cel Y 0 0 rfl).1) ((t0.cel Y 0 1 rfl).1))))
             simp only [Nat.zero_add, Nat.add_zero] at g7t
           try
             have e0 := s6.cel (X + 1) 0 0 rfl
             have e1 := s6.cel (X + 1) 0 1 rfl
             have t0 := (s6.pc (X + 1) 0).s0 (.int .u64 0)
             have s7 := t0.s 1 (by simp) (.slice A6 (Na + Nb) c6)
             simp only [List.set_cons_succ, List.set_cons_zero, Nat.zero_add] at e0 e1 t0 s7
             have g7 := (And.intro ((s7.cel Z 0 0 rfl).1) (And.intro ((s7.cel Z 0 1 rfl).1) (And.intro ((s7.cel Y 0 0 rfl).1) ((s7.cel Y 0 1 rfl).1))))
             simp only [Nat.zero_add, Nat.add_zero] at g7
             have g7t := (And.intro ((t0.cel Z 0 0 rfl).1) (And.intro ((t0.cel Z 0 1 rfl).1) (And.intro ((t0.cel Y 0 0 rfl).1) ((t0.cel Y 0 1 rfl).1))))
             simp only [Nat.zero_add, Nat.add_zero] at g7t
           have arm : True := trivial)
        | (refine step_append rfl (.tmp 15) (.tmp 17) 30 30 224 rfl i0 (.agg #[.int .u64 0, .int .u8 0]) 2 16 Try.underlying30 Try.underlying30 hi0 hz0 hs0 hb0 rfl (by decide) rfl own5n s5 (X := Bb) (m := Nb) (c := cb) rfl (us := bs'.flatMap encB) hel2 (rdb.rowB s5.ro) (oneCell_B _) (by omega) (by omega) ?_; intro A6 c6 w6 h6 own6 s6
           obtain ⟨Q6, hQ6⟩ : ∃ q, w6.heap.size = q := ⟨_, rfl⟩
           have s6a := s6.alloc (c := [.int .u64 0, .slice A6 (Na + Nb) c6]) (t := 32)
           have s6b := s6.alloc (c := [.int .u64 0, .slice none 0 0]) (t := 32)
           rw [hQ6] at s6a s6b
           have g6 := (And.intro ((s6.cel Z 0 0 rfl).1) (And.intro ((s6.cel Z 0 1 rfl).1) (And.intro ((s6.cel Y 0 0 rfl).1) ((s6.cel Y 0 1 rfl).1))))
           simp only [Nat.zero_add, Nat.add_zero] at g6
           have g6a := (And.intro ((s6a.cel Z 0 0 rfl).1) (And.intro ((s6a.cel Z 0 1 rfl).1) (And.intro ((s6a.cel Y 0 0 rfl).1) ((s6a.cel Y 0 1 rfl).1))))
           simp only [Nat.zero_add, Nat.add_zero] at g6a
           have g6b := (And.intro ((s6b.cel Z 0 0 rfl).1) (And.intro ((s6b.cel Z 0 1 rfl).1) (And.intro ((s6b.cel Y 0 0 rfl).1) ((s6b.cel Y 0 1 rfl).1))))
           simp only [Nat.zero_add, Nat.add_zero] at g6b
           try
             have e0 := s6.cel Q5 0 0 rfl
             have e1 := s6.cel Q5 0 1 rfl
             have t0 := (s6.pc Q5 0).s0 (.int .u64 0)
             have s7 := t0.s 1 (by simp) (.slice A6 (Na + Nb) c6)
             simp only [List.set_cons_succ, List.set_cons_zero, Nat.zero_add] at e0 e1 t0 s7
             have g7 := (And.intro ((s7.cel Z 0 0 rfl).1) (And.intro ((s7.cel Z 0 1 rfl).1) (And.intro ((s7.cel Y 0 0 rfl).1) ((s7.cel Y 0 1 rfl).1))))
             simp only [Nat.zero_add, Nat.add_zero] at g7
             have g7t := (And.intro ((t0.cel Z 0 0 rfl).1) (And.intro ((t0.cel Z 0 1 rfl).1) (And.intro ((t0.cel Y 0 0 rfl).1) ((t0.cel Y 0 1 rfl).1))))
             simp only [Nat.zero_add, Nat.add_zero] at g7t
           try
             have e0 := s6.cel X 0 0 rfl
             have e1 := s6.cel X 0 1 rfl
             have t0 := (s6.pc X 0).s0 (.int .u64 0)
             have s7 := t0.s 1 (by simp) (.slice A6 (Na + Nb) c6)
             simp only [List.set_cons_succ, List.set_cons_zero, Nat.zero_add] at e0 e1 t0 s7
             have g7 := (And.intro ((s7.cel Z 0 0 rfl).1) (And.intro ((s7.cel Z 0 1 rfl).1) (And.intro ((s7.cel Y 0 0 rfl).1) ((s7.cel Y 0 1 rfl).1))))
             simp only [Nat.zero_add, Nat.add_zero] at g7
             have g7t := (And.intro ((t0.cel Z 0 0 rfl).1) (And.intro ((t0.cel Z 0 1 rfl).1) (And.intro ((t0.cel Y 0 0 rfl).1) ((t0.cel Y 0 1 rfl).1))))
             simp only [Nat.zero_add, Nat.add_zero] at g7t
           try
             have e0 := s6.cel (X + 1) 0 0 rfl
             have e1 := s6.cel (X + 1) 0 1 rfl
             have t0 := (s6.pc (X + 1) 0).s0 (.int .u64 0)
             have s7 := t0.s 1 (by simp) (.slice A6 (Na + Nb) c6)
             simp only [List.set_cons_succ, List.set_cons_zero, Nat.zero_add] at e0 e1 t0 s7
             have g7 := (And.intro ((s7.cel Z 0 0 rfl).1) (And.intro ((s7.cel Z 0 1 rfl).1) (And.intro ((s7.cel Y 0 0 rfl).1) ((s7.cel Y 0 1 rfl).1))))
             simp only [Nat.zero_add, Nat.add_zero] at g7
             have g7t := (And.intro ((t0.cel Z 0 0 rfl).1) (And.intro ((t0.cel Z 0 1 rfl).1) (And.intro ((t0.cel Y 0 0 rfl).1) ((t0.cel Y 0 1 rfl).1))))
             simp only [Nat.zero_add, Nat.add_zero] at g7t
           have arm : True := trivial)
        | (refine step_append rfl (.tmp 15) (.tmp 17) 30 30 224 rfl i0 (.agg #[.int .u64 0, .int .u8 0]) 2 16 Try.underlying30 Try.underlying30 hi0 hz0 hs0 hb0 rfl (by decide) rfl own5 s5a (X := Bb) (m := Nb) (c := cb) rfl (us := bs'.flatMap encB) hel2 (rdb.rowB s5a.ro) (oneCell_B _) (by omega) (by omega) ?_; intro A6 c6 w6 h6 own6 s6
           obtain ⟨Q6, hQ6⟩ : ∃ q, w6.heap.size = q := ⟨_, rfl⟩
           have s6a := s6.alloc (c := [.int .u64 0, .slice A6 (0 + Na + Nb) c6]) (t := 32)
           have s6b := s6.alloc (c := [.int .u64 0, .slice none 0 0]) (t := 32)
           rw [hQ6] at s6a s6b
           have g6 := (And.intro ((s6.cel Z 0 0 rfl).1) (And.intro ((s6.cel Z 0 1 rfl).1) (And.intro ((s6.cel Y 0 0 rfl).1) ((s6.cel Y 0 1 rfl).1))))
           simp only [Nat.zero_add, Nat.add_zero] at g6
           have g6a := (And.intro ((s6a.cel Z 0 0 rfl).1) (And.intro ((s6a.cel Z 0 1 rfl).1) (And.intro ((s6a.cel Y 0 0 rfl).1) ((s6a.cel Y 0 1 rfl).1))))
           simp only [Nat.zero_add, Nat.add_zero] at g6a
           have g6b := (And.intro ((s6b.cel Z 0 0 rfl).1) (And.intro ((s6b.cel Z 0 1 rfl).1) (And.intro ((s6b.cel Y 0 0 rfl).1) ((s6b.cel Y 0 1 rfl).1))))
           simp only [Nat.zero_add, Nat.add_zero] at g6b
           try
             have e0 := s6.cel Q5 0 0 rfl
             have e1 := s6.cel Q5 0 1 rfl
             have t0 := (s6.pc Q5 0).s0 (.int .u64 0)
             have s7 := t0.s 1 (by simp) (.slice A6 (0 + Na + Nb) c6)
             simp only [List.set_cons_succ, List.set_cons_zero, Nat.zero_add] at e0 e1 t0 s7
             have g7 := (And.intro ((s7.cel Z 0 0 rfl).1) (And.intro ((s7.cel Z 0 1 rfl).1) (And.intro ((s7.cel Y 0 0 rfl).1) ((s7.cel Y 0 1 rfl).1))))
             simp only [Nat.zero_add, Nat.add_zero] at g7
             have g7t := (And.intro ((t0.cel Z 0 0 rfl).1) (And.intro ((t0.cel Z 0 1 rfl).1) (And.intro ((t0.cel Y 0 0 rfl).1) ((t0.cel Y 0 1 rfl).1))))
             simp only [Nat.zero_add, Nat.add_zero] at g7t
           try
             have e0 := s6.cel X 0 0 rfl
             have e1 := s6.cel X 0 1 rfl
             have t0 := (s6.pc X 0).s0 (.int .u64 0)
             have s7 := t0.s 1 (by simp) (.slice A6 (0 + Na + Nb) c6)
             simp only [List.set_cons_succ, List.set_cons_zero, Nat.zero_add] at e0 e1 t0 s7
             have g7 := (And.intro ((s7.cel Z 0 0 rfl).1) (And.intro ((s7.cel Z 0 1 rfl).1) (And.intro ((s7.cel Y 0 0 rfl).1) ((s7.cel Y 0 1 rfl).1))))
             simp only [Nat.zero_add, Nat.add_zero] at g7
             have g7t := (And.intro ((t0.cel Z 0 0 rfl).1) (And.intro ((t0.cel Z 0 1 rfl).1) (And.intro ((t0.cel Y 0 0 rfl).1) ((t0.cel Y 0 1 rfl).1))))
             simp only [Nat.zero_add, Nat.add_zero] at g7t
           try
             have e0 := s6.cel (X + 1) 0 0 rfl
             have e1 := s6.cel (X + 1) 0 1 rfl
             have t0 := (s6.pc (X + 1) 0).s0 (.int .u64 0)
             have s7 := t0.s 1 (by simp) (.slice A6 (0 + Na + Nb) c6)
             simp only [List.set_cons_succ, List.set_cons_zero, Nat.zero_add] at e0 e1 t0 s7
             have g7 := (And.intro ((s7.cel Z 0 0 rfl).1) (And.intro ((s7.cel Z 0 1 rfl).1) (And.intro ((s7.cel Y 0 0 rfl).1) ((s7.cel Y 0 1 rfl).1))))
             simp only [Nat.zero_add, Nat.add_zero] at g7
             have g7t := (And.intro ((t0.cel Z 0 0 rfl).1) (And.intro ((t0.cel Z 0 1 rfl).1) (And.intro ((t0.cel Y 0 0 rfl).1) ((t0.cel Y 0 1 rfl).1))))
             simp only [Nat.zero_add, Nat.add_zero] at g7t
           have arm : True := trivial)
        | (refine step_append (v := .slice (some ⟨X, 0, none⟩) 0 0) rfl (.tmp 12) (.tmp 14) 30 30 224 rfl i0 (.agg #[.int .u64 0, .int .u8 0]) 2 16 Try.underlying30 Try.underlying30 hi0 hz0 hs0 hb0 rfl (by decide) rfl (OwnS.zero 2 _) b1 (X := Ba) (m := Na) (c := ca) rfl (us := as'.flatMap encB) hel (rda.rowB b1.ro) (oneCell_B _) (by omega) (by omega) ?_; intro A5 c5 w5 h5 own5 s5
           have own5n := own5
           simp only [Nat.zero_add, List.nil_append] at own5n
           have s5a := Sat.pull (h := h5) (s5.alloc (c := [.int .u64 0, .slice none 0 0]) (t := 32))
           obtain ⟨Q5, hQ5⟩ : ∃ q, w5.heap.size = q := ⟨_, rfl⟩
           rw [hQ5] at s5a
           have g5 := (And.intro ((s5.cel Z 0 0 rfl).1) (And.intro ((s5.cel Z 0 1 rfl).1) (And.intro ((s5.cel Y 0 0 rfl).1) ((s5.cel Y 0 1 rfl).1))))
           simp only [Nat.zero_add, Nat.add_zero] at g5
           have g5a := (And.intro ((s5a.cel Z 0 0 rfl).1) (And.intro ((s5a.cel Z 0 1 rfl).1) (And.intro ((s5a.cel Y 0 0 rfl).1) ((s5a.cel Y 0 1 rfl).1))))
           simp only [Nat.zero_add, Nat.add_zero] at g5a
           have arm : True := trivial)
        | (refine step_append (v := .slice (some ⟨X + 1, 0, none⟩) 0 0) rfl (.tmp 12) (.tmp 14) 30 30 224 rfl i0 (.agg #[.int .u64 0, .int .u8 0]) 2 16 Try.underlying30 Try.underlying30 hi0 hz0 hs0 hb0 rfl (by decide) rfl (OwnS.zero 2 _) b2 (X := Ba) (m := Na) (c := ca) rfl (us := as'.flatMap encB) hel (rda.rowB b2.ro) (oneCell_B _) (by omega) (by omega) ?_; intro A5 c5 w5 h5 own5 s5
           have own5n := own5
           simp only [Nat.zero_add, List.nil_append] at own5n
           have s5a := Sat.pull (h := h5) (s5.alloc (c := [.int .u64 0, .slice none 0 0]) (t := 32))
           obtain ⟨Q5, hQ5⟩ : ∃ q, w5.heap.size = q := ⟨_, rfl⟩
           rw [hQ5] at s5a
           have g5 := (And.intro ((s5.cel Z 0 0 rfl).1) (And.intro ((s5.cel Z 0 1 rfl).1) (And.intro ((s5.cel Y 0 0 rfl).1) ((s5.cel Y 0 1 rfl).1))))
           simp only [Nat.zero_add, Nat.add_zero] at g5
           have g5a := (And.intro ((s5a.cel Z 0 0 rfl).1) (And.intro ((s5a.cel Z 0 1 rfl).1) (And.intro ((s5a.cel Y 0 0 rfl).1) ((s5a.cel Y 0 1 rfl).1))))
           simp only [Nat.zero_add, Nat.add_zero] at g5a
           have arm : True := trivial)
        | (refine step_append (v := .slice (some ⟨X, 0, none⟩) 0 0) rfl (.tmp 12) (.tmp 14) 30 30 224 rfl i0 (.agg #[.int .u64 0, .int .u8 0]) 2 16 Try.underlying30 Try.underlying30 hi0 hz0 hs0 hb0 rfl (by decide) rfl (OwnS.zero 2 _) b3 (X := Ba) (m := Na) (c := ca) rfl (us := as'.flatMap encB) hel (rda.rowB b3.ro) (oneCell_B _) (by omega) (by omega) ?_; intro A5 c5 w5 h5 own5 s5
           have own5n := own5
           simp only [Nat.zero_add, List.nil_append] at own5n
           have s5a := Sat.pull (h := h5) (s5.alloc (c := [.int .u64 0, .slice none 0 0]) (t := 32))
           obtain ⟨Q5, hQ5⟩ : ∃ q, w5.heap.size = q := ⟨_, rfl⟩
           rw [hQ5] at s5a
           have g5 := (And.intro ((s5.cel Z 0 0 rfl).1) (And.intro ((s5.cel Z 0 1 rfl).1) (And.intro ((s5.cel Y 0 0 rfl).1) ((s5.cel Y 0 1 rfl).1))))
           simp only [Nat.zero_add, Nat.add_zero] at g5
           have g5a := (And.intro ((s5a.cel Z 0 0 rfl).1) (And.intro ((s5a.cel Z 0 1 rfl).1) (And.intro ((s5a.cel Y 0 0 rfl).1) ((s5a.cel Y 0 1 rfl).1))))
           simp only [Nat.zero_add, Nat.add_zero] at g5a
           have arm : True := trivial)
      )
    all_goals
      have own7 : OwnS 2 (.slice A6 (Na + Nb) c6) (Na + Nb) ((as' ++ bs').flatMap encB) h6 := by
        have := own6
        try simp only [Nat.zero_add, List.nil_append] at this
        rw [List.flatMap_append]; exact this
      try simp only [Nat.zero_add] at s6a
      go_wp2_with fail
      go_meet
      first
        | exact ⟨_, A6, c6, h6, rfl, own7, s7.wk⟩
        | exact ⟨_, A6, c6, h6, rfl, own7, s6a.wk⟩
  case rest =>
    obtain ⟨P, A6, c6, h6, rfl, own6, s3⟩ := hcut
    have hbd : ∀ x ∈ as' ++ bs', (0 ≤ x.1 ∧ x.1 ≤ 18446744073709551615) ∧ 0 ≤ x.2 ∧ x.2 ≤ 255 := fun x hx => by
      rcases List.mem_append.1 hx with hx | hx
      · obtain ⟨i, hi⟩ := List.getElem?_of_mem hx
        obtain ⟨hl, rfl⟩ := List.getElem?_eq_some_iff.1 hi
        obtain ⟨_, _, _, g⟩ := rda.byte2
        obtain ⟨_, _, _, _, _, h1, h2⟩ := g i hl
        exact ⟨h1, h2⟩
      · obtain ⟨i, hi⟩ := List.getElem?_of_mem hx
        obtain ⟨hl, rfl⟩ := List.getElem?_eq_some_iff.1 hi
        obtain ⟨_, _, _, g⟩ := rdb.byte2
        obtain ⟨_, _, _, _, _, h1, h2⟩ := g i hl
        exact ⟨h1, h2⟩
    have rd6 := own6.rdB2 hbd
    have hln : (as' ++ bs').length = Na + Nb := by rw [List.length_append, hNa.out, hNb.out]
    have p0 := s3.cel P 0 0 rfl
    have p1 := s3.cel P 0 1 rfl
    simp only [Nat.zero_add] at p0 p1
    have hlL : (as' ++ bs').length ≤ 200000000000 := by omega
    have hzN : 0 ≤ size := hz.1
    clear own6 hel hel2
    replace hln := aside hln
    replace hbd := aside hbd
    go_wp2_with fail
    refine c_Touched s3 rd6 hlL (fun w' q => q.head) ?_
    intro w4 v4 h4 T ht own4 s4
    have hmost : difL most (T.filter (fun x => decide (lastM as' x ≠ lastM bs' x))) [] = FIN := by rw [touched_dfrom ht hrg hzN]; exact hFIN.out
    obtain ⟨ff, hff⟩ : ∃ ff : Int → Bool, (fun x => decide (lastM as' x ≠ lastM bs' x)) = ff := ⟨_, rfl⟩
    have hffx : ∀ x, ff x = decide (lastM as' x ≠ lastM bs' x) := fun x => by rw [← hff]
    rw [hff] at hmost
    have hTl : T.length ≤ 200000000000 := by have := ht.len; omega
    have hTin : ∀ x ∈ T, ff x = true → 2147483648 ≤ x ∧ x < 2147483648 + size := fun x _ hx => hrg x (by rw [hffx] at hx; simpa using hx)
    have hTb : ∀ x ∈ T, 0 ≤ x ∧ x ≤ 18446744073709551615 := fun x hx => by
      obtain ⟨e, he, rfl⟩ := (ht.mem x).1 hx
      exact (hbd.out e (List.mem_of_mem_take he)).1
    obtain ⟨AT, cT, spT, rfl, hT1, hT2, hT3, hT4, hT5, rfl⟩ := own4
    obtain ⟨M, hM⟩ : ∃ M, T.length = M := ⟨_, rfl⟩
    rw [hM] at hT1 hTl ⊢
    have hM9 : (M : Int) ≤ 200000000000 := by omega
    have s5 := (show Sat W0 w4 H (rowH AT (T.map (Value.int .u64) ++ spT) :: cellsH ⟨Y, 0, none⟩ [.int .u64 size, .slice Bb Nb cb] :: cellsH ⟨Z, 0, none⟩ [.int .u64 size, .slice Ba Na ca] :: A) from s4.wk).swap
    have s6 := s5.emp
    replace hM := aside hM
    replace hmost := aside hmost
    replace hff := aside hff
    replace hffx := aside hffx
    replace hTin := aside hTin
    replace hTb := aside hTb
    replace hT5 := aside hT5
    replace hT3 := aside hT3
    replace hT4 := aside hT4
    clear s3 s4 s5 rd6 p0 p1 ht hrg hbd
    go_wp2
    go_loopg [9, 10] M (fun q v9 v10 w' => ∃ (i : Nat) (out : List (Int × Int)) (h : Hp), q + i = M ∧ v10 = .int .i64 i ∧ OwnS 2 v9 out.length (encS out) h ∧ Aside (spIn 2147483648 (2147483648 + size) out ∧ out.length ≤ i) ∧ Aside (difL most ((T.drop i).filter ff) out = FIN) ∧ Sat W0 w' H (h :: cellsH ⟨Y, 0, none⟩ [.int .u64 size, .slice Bb Nb cb] :: rowH AT (T.map (Value.int .u64) ++ spT) :: cellsH ⟨Z, 0, none⟩ [.int .u64 size, .slice Ba Na ca] :: A))
    case atStart => exact ⟨0, [], empH, by simp, rfl, OwnS.nil 2, aside ⟨fun s hs => by simp at hs, by simp⟩, hmost.out, s6⟩
    clear s6 hmost
    case round =>
      obtain ⟨i, out, h, hq, rfl, own, hsp, hfin, s'⟩ := hrel
      have z0 := s'.cel Z 0 0 rfl
      have z1 := s'.cel Z 0 1 rfl
      have y0 := s'.cel Y 0 0 rfl
      have y1 := s'.cel Y 0 1 rfl
      simp only [Nat.zero_add] at z0 z1 y0 y1
      by_cases hi : i < M
      · have hi2 : (i : Int) < M := by omega
        obtain ⟨bT, oT, rfl⟩ := hT5.out (by omega)
        obtain ⟨B, hB⟩ : ∃ B, T[i]? = some B := ⟨T[i]'(by have := hM.out; omega), by simp⟩
        have hBb := hTb.out B (List.mem_of_getElem? hB)
        have hdr : T.drop i = B :: T.drop (i + 1) := by
          rw [List.drop_eq_getElem_cons (by have := hM.out; omega)]
          congr 1
          rw [List.getElem?_eq_getElem (by have := hM.out; omega)] at hB
          exact Option.some.inj hB
        have hgT : (T.map (Value.int .u64) ++ spT)[i]? = some (.int .u64 B) := by
          rw [List.getElem?_append_left (by rw [List.length_map]; have := hM.out; omega), List.getElem?_map, hB]; rfl
        have hcT := fun (w' : World) (q : Sat W0 w' H (rowH (some ⟨bT, oT, none⟩) (T.map (Value.int .u64) ++ spT) :: h :: cellsH ⟨Y, 0, none⟩ [.int .u64 size, .slice Bb Nb cb] :: cellsH ⟨Z, 0, none⟩ [.int .u64 size, .slice Ba Na ca] :: A)) => ((show Sat W0 w' H (cellsH ⟨bT, oT, none⟩ (T.map (Value.int .u64) ++ spT) :: _) from q).c i hgT).1
        have s0 := (show Sat W0 wr H (rowH (some ⟨bT, oT, none⟩) (T.map (Value.int .u64) ++ spT) :: h :: cellsH ⟨Y, 0, none⟩ [.int .u64 size, .slice Bb Nb cb] :: cellsH ⟨Z, 0, none⟩ [.int .u64 size, .slice Ba Na ca] :: A) from (s'.sel (L := [_, _, _, _]) [2, 0, 1, 3] (by decide)))
        have sd := s0.drew
        have gT := hcT _ sd
        have gd := (And.intro ((sd.cel Z 0 0 rfl).1) (And.intro ((sd.cel Z 0 1 rfl).1) (And.intro ((sd.cel Y 0 0 rfl).1) ((sd.cel Y 0 1 rfl).1))))
        simp only [Nat.zero_add, Nat.add_zero] at gd
        have gd2 := And.intro gT gd
        obtain ⟨x, hx⟩ : ∃ x, lastM as' B = x := ⟨_, rfl⟩
        obtain ⟨y, hy⟩ : ∃ y, lastM bs' B = y := ⟨_, rfl⟩
        have hxb : 0 ≤ x ∧ x ≤ 255 := hx ▸ ra.bd B
        have hyb : 0 ≤ y ∧ y ≤ 255 := hy ▸ rb.bd B
        have ra' := aside (show RefM H (.agg #[.int .u64 size, .slice Ba Na ca]) size (lastM as') La by rw [← hNa.out]; exact ra)
        have rb' := aside (show RefM H (.agg #[.int .u64 size, .slice Bb Nb cb]) size (lastM bs') Lb by rw [← hNb.out]; exact rb)
        have hq2 := aside (show gk - 1 + (i + 1) = M ∧ gk - 1 < gk by omega)
        have hfin2 := hfin.out
        rw [hdr] at hfin2
        replace hx := aside hx
        replace hy := aside hy
        replace hdr := aside hdr
        replace hB := aside hB
        replace hcT := aside hcT
        replace hfin2 := aside hfin2
        replace hq := aside hq
        clear s' hfin gT hgT
        go_wp2
        go_region_held3 (fun w' => w'.cell? ⟨bT, oT + i, none⟩ = some (.int .u64 B) ∧ w'.cell? ⟨Z, 0, none⟩ = some (.int .u64 size) ∧ w'.cell? ⟨Z, 1, none⟩ = some (.slice Ba Na ca) ∧ w'.cell? ⟨Y, 0, none⟩ = some (.int .u64 size) ∧ w'.cell? ⟨Y, 1, none⟩ = some (.slice Bb Nb cb))
          (first
            | with_reducible exact gd2
            | with_reducible exact g72
            | with_reducible exact g82)
          (first
            | (go_at_call 93; have hs := s7; with_reducible (refine c_refGet hs rb'.out hLb B ?_); intro w8 s8; rw [hy.out]
               have gT8 := hcT.out _ s8
               have g8 := (And.intro ((s8.cel Z 0 0 rfl).1) (And.intro ((s8.cel Z 0 1 rfl).1) (And.intro ((s8.cel Y 0 0 rfl).1) ((s8.cel Y 0 1 rfl).1))))
               simp only [Nat.zero_add, Nat.add_zero] at g8
               have g82 := And.intro gT8 g8
               have arm : True := trivial)
            | (go_at_call 93; have hs := sd; with_reducible (refine c_refGet hs ra'.out hLa B ?_); intro w7 s7; rw [hx.out]
               have gT7 := hcT.out _ s7
               have g7 := (And.intro ((s7.cel Z 0 0 rfl).1) (And.intro ((s7.cel Z 0 1 rfl).1) (And.intro ((s7.cel Y 0 0 rfl).1) ((s7.cel Y 0 1 rfl).1))))
               simp only [Nat.zero_add, Nat.add_zero] at g7
               have g72 := And.intro gT7 g7
               have arm : True := trivial))
        all_goals
          clear sd gd2 gd s7 g72 g7 gT7 g82 s0
          have gT8 := hcT.out _ s8
          by_cases hxy : x = y
          · have hf : ff B = false := by rw [hffx.out]; simp [hx.out, hy.out, hxy]
            have hfin3 := hfin2.out
            rw [difL_filter_same hf] at hfin3
            have hsp3 := aside (show spIn 2147483648 (2147483648 + size) out ∧ out.length ≤ i + 1 from ⟨hsp.out.1, by have := hsp.out.2; omega⟩)
            replace hfin3 := aside hfin3
            replace hf := aside hf
            clear hsp hfin2
            go_wp2
            go_roundg (gk - 1)
            case measure => exact hq2.out.2
            case rel => exact ⟨i + 1, out, h, hq2.out.1, by go_num, own, hsp3, hfin3, s8.sel (L := [_, _, _, _]) [1, 2, 0, 3] (by decide)⟩
          · have hf : ff B = true := by rw [hffx.out]; simp [hx.out, hy.out, hxy]
            have hfin3 := hfin2.out
            rw [List.filter_cons_of_pos hf] at hfin3
            have hBr := hTin.out B (List.mem_of_getElem? hB.out) hf
            have hBl := hBr.1
            have hlenb : out.length ≤ 1000000000000 := by have := hsp.out.2; omega
            have hBz : size ≤ 268435456 := hz.2
            have hcTn := aside (show ∀ (w' : World), Sat W0 w' H (h :: rowH (some ⟨bT, oT, none⟩) (T.map (Value.int .u64) ++ spT) :: cellsH ⟨Y, 0, none⟩ [.int .u64 size, .slice Bb Nb cb] :: cellsH ⟨Z, 0, none⟩ [.int .u64 size, .slice Ba Na ca] :: A) → w'.cell? ⟨bT, oT + i, none⟩ = some (.int .u64 B) from fun w' q => hcT.out w' q.swap)
            have s9 := s8.swap
            replace hf := aside hf
            replace hBr := aside hBr
            clear hfin2 s8 gT8
            have gT9 := hcTn.out _ s9
            rcases List.eq_nil_or_concat out with rfl | ⟨pre, ⟨p, q⟩, rfl⟩
            · obtain ⟨A, cap, sp, rfl, own2⟩ := id own
              by_cases hm : most ≤ 0
              · rw [difL_stop (extS_nil _) hm] at hfin3
                replace hfin3 := aside hfin3
                clear own2
                go_wp2
                go_quiet (fail)
                have s2 := s9.drewN nq
                generalize World.drewN _ nq = w2 at s2 ⊢
                have gT2 := hcTn.out _ s2
                clear s9
                go_wp2
                have hF := hfin3.out
                exact k _ _ h (by rw [← hF]; exact own) s2.wk
              · rw [difL_new (extS_nil _) hm] at hfin3
                have hsp3 := aside (show spIn 2147483648 (2147483648 + size) ([] ++ [(B, (1 : Int))]) ∧ ([] ++ [(B, (1 : Int))]).length ≤ i + 1 from ⟨hsp.out.1.snoc hBl (by have := hBr.out; omega), by first | (simp; done) | (simp; omega)⟩)
                replace hfin3 := aside hfin3
                clear hsp own2
                go_wp2
                go_quiet (fail)
                have s2 := s9.drewN nq
                generalize World.drewN _ nq = w2 at s2 ⊢
                have gT2 := hcTn.out _ s2
                clear s9
                go_wp2_with (at_builtin; refine appendSp rfl (.tmp 86) (.tmp 92) rfl rfl own (s2.alloc (c := [.int .u64 B, .int .u64 1]) (t := 48)) rfl B 1 row_span (by simp) ?_; intro v3 w3 h3 own3 s3)
                go_roundg (gk - 1)
                case measure => exact hq2.out.2
                case rel => exact ⟨i + 1, _, h3, hq2.out.1, by go_num, own3, hsp3, hfin3, s3.wk⟩
            · rw [List.concat_eq_append] at *
              obtain ⟨b0, o0, cap, sp, rfl, hcap, hcap2, rfl, hEl, hspl⟩ := own.lastS
              obtain ⟨K, hK⟩ : ∃ K, pre.length = K := ⟨_, rfl⟩
              have hpq := hsp.out.1 (p, q) (by simp)
              simp only at hpq
              have hBb1 := hBr.out
              rw [hK] at hEl hcap hspl own ⊢
              obtain ⟨M2, hM2⟩ : ∃ M2, K + 1 = M2 := ⟨_, rfl⟩
              rw [hM2] at hcap hspl own ⊢
              have hKb : K ≤ 1000000000000 := by rw [List.length_append, hK] at hlenb; omega
              have ek : IntKind.i64.wrap ((M2 : Int) - 1) = (K : Int) := by simp [IntKind.wrap, IntKind.bits, IntKind.signed]; omega
              have hK0 : 0 ≤ (K : Int) := by omega
              have hKM : (K : Int) < M2 := by omega
              obtain ⟨g0, g1⟩ := lastS_get (sp := sp) (x := .int .u64 p) (y := .int .u64 q) hEl
              have eS1 : IntKind.u64.wrap (p + q) = p + q := by rw [wrap_u64]; omega
              have eS2 : IntKind.u64.wrap (q + 1) = q + 1 := by rw [wrap_u64]; omega
              have c1 := s9.c (K * 2) g0
              have c2 := s9.c (K * 2 + 1) g1
              rw [← Nat.add_assoc] at c2
              obtain ⟨r, hr⟩ : ∃ r, p + q = r := ⟨_, rfl⟩
              replace eS1 := eS1.trans hr
              replace hr := aside hr
              replace hpq := aside hpq
              replace hM2 := aside hM2
              replace hEl := aside hEl
              replace hspl := aside hspl
              replace hcap := aside hcap
              replace hKb := aside hKb
              clear g0 hBb1
              by_cases hrB : r = B
              · have hT : (IntKind.u64.wrap (p + q) == B) = true := by rw [eS1, hrB]; simp
                clear eS1
                rw [difL_ext (o := pre ++ [(p, q + 1)]) (by rw [extS_snoc, if_pos (by rw [hr.out]; exact hrB)])] at hfin3
                have hsp3 := aside (show spIn 2147483648 (2147483648 + size) (pre ++ [(p, q + 1)]) ∧ (pre ++ [(p, q + 1)]).length ≤ i + 1 from ⟨hsp.out.1.ext (by have := hBr.out; have := hr.out; omega), by have := hsp.out.2; simp only [List.length_append, List.length_singleton] at this ⊢; omega⟩)
                have s2 := s9.drewN
                have s3 := fun nq => (s9.drewN nq).s (K * 2 + 1) (by have := hEl.out; simp; omega) (.int .u64 (q + 1))
                simp only [lastS_set hEl.out, ← Nat.add_assoc] at s3
                have own3 := aside (show OwnS 2 (.slice (some ⟨b0, o0, none⟩) M2 cap) (pre ++ [(p, q + 1)]).length (encS (pre ++ [(p, q + 1)])) (cellsH ⟨b0, o0, none⟩ (encS pre ++ [.int .u64 p, .int .u64 (q + 1)] ++ sp)) by
                  have h1 := hcap.out
                  have h2 := hspl.out
                  have h3 := hEl.out
                  have hM21 := hM2.out
                  subst hM21
                  subst hK
                  exact OwnS.lastS_mk h1 hcap2 h3 h2)
                replace hfin3 := aside hfin3
                replace s3 := aside s3
                replace hrB := aside hrB
                clear hsp own s2
                go_wp2
                go_quiet (fail)
                have s4 := s3.out nq
                clear s9 s3
                go_wp2
                go_roundg (gk - 1)
                case measure => exact hq2.out.2
                case rel => exact ⟨i + 1, _, _, hq2.out.1, by go_num, own3.out, hsp3, hfin3, s4.wk⟩
              · have hT : (IntKind.u64.wrap (p + q) == B) = false := by rw [eS1]; simp [hrB]
                clear eS1
                have hext : extS (pre ++ [(p, q)]) B = none := by rw [extS_snoc, if_neg (by rw [hr.out]; exact hrB)]
                have hln : (((pre ++ [(p, q)]).length : Nat) : Int) = (M2 : Int) := by rw [List.length_append, List.length_singleton, hK, hM2.out]
                replace hext := aside hext
                replace hln := aside hln
                replace hrB := aside hrB
                by_cases hm : most ≤ (M2 : Int)
                · rw [difL_stop hext.out (by rw [hln.out]; exact hm)] at hfin3
                  replace hfin3 := aside hfin3
                  go_wp2
                  go_quiet (fail)
                  have s2 := s9.drewN nq
                  generalize World.drewN _ nq = w2 at s2 ⊢
                  have gT2 := hcTn.out _ s2
                  clear s9 c1 c2
                  go_wp2
                  have hF := hfin3.out
                  exact k _ (.slice (some ⟨b0, o0, none⟩) M2 cap) (cellsH ⟨b0, o0, none⟩ (encS pre ++ [.int .u64 p, .int .u64 q] ++ sp)) (by rw [← hF]; exact own) s2.wk
                · rw [difL_new hext.out (by rw [hln.out]; exact hm)] at hfin3
                  have hsp3 := aside (show spIn 2147483648 (2147483648 + size) ((pre ++ [(p, q)]) ++ [(B, (1 : Int))]) ∧ ((pre ++ [(p, q)]) ++ [(B, (1 : Int))]).length ≤ i + 1 from ⟨hsp.out.1.snoc hBl (by have := hBr.out; omega), by have := hsp.out.2; rw [List.length_append]; simp only [List.length_singleton]; omega⟩)
                  have hln2 := aside (show (pre ++ [(p, q)]).length = M2 by have := hln.out; omega)
                  replace hfin3 := aside hfin3
                  go_wp2
                  go_quiet (fail)
                  have s2 := s9.drewN nq
                  generalize World.drewN _ nq = w2 at s2 ⊢
                  have gT2 := hcTn.out _ s2
                  clear s9 c1 c2 hsp
                  go_wp2_with (at_builtin; refine appendSp rfl (.tmp 86) (.tmp 92) rfl rfl own (s2.alloc (c := [.int .u64 B, .int .u64 1]) (t := 48)) rfl B 1 row_span (by have := hKb.out; have := hln2.out; have := hM2.out; omega) ?_; intro v3 w3 h3 own3 s3)
                  go_roundg (gk - 1)
                  case measure => exact hq2.out.2
                  case rel => exact ⟨i + 1, _, h3, hq2.out.1, by go_num, own3, hsp3, hfin3, s3.wk⟩
      · obtain rfl : i = M := by omega
        have hfin2 := hfin.out
        rw [List.drop_eq_nil_of_le (by have := hM.out; omega)] at hfin2
        have hF : out = FIN := hfin2
        replace hF := aside hF
        replace hfin2 := aside hfin2
        clear hfin hq
        go_wp2
        exact k _ _ h (by rw [← hF.out]; exact own) s'.wk
end
end Go.Proofs.Ytiibiamobkhlbaa
