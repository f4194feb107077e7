/-
  CHAIN: a table of descriptors; the whole walk, the code's.
-/
import Derived.Test.YtippipfogbgemaaCc
namespace Go.Proofs.Ytippipfogbgemaa
open Go.RowKit
set_option linter.unusedVariables false
set_option linter.unusedSimpArgs false

def badT (n : Int) : Prop := n % 16 ≠ 0 ∨ n < 16 ∨ 4096 < n
instance (n : Int) : Decidable (badT n) := by unfold badT; infer_instance

/-- the error's number, the segments, the table -/
def walkP (m : Int → Int) (size d : Int) (n : Nat) (head : Int) (ind : Bool) : Int × List SegM × Int × Int :=
  match alongP m size d n n head [] with
  | (e, a, segs) =>
    if e ≠ 0 then (e, [], 0, 0) else
    if flg (w3 m a) 4 = false then (0, segs, 0, 0) else
    if ind = false ∨ flg (w3 m a) 1 = true then (153, [], 0, 0) else
    if badT (w2 m a) then (154, [], 0, 0) else
    if ¬ hasP size (w1 m a) (w2 m a) then (21, [], 0, 0) else
    match alongP m size (w1 m a) (w2 m a / 16) (w2 m a / 16).toNat 0 segs with
    | (e', a', segs') => if outE false e' (flg (w3 m a') 4) ≠ 0 then (outE false e' (flg (w3 m a') 4), [], 0, 0) else (0, segs', w1 m a, w2 m a)

theorem alongP_len {m : Int → Int} {size t sz : Int} : ∀ {n : Nat} {i : Int} {segs : List SegM} {e a : Int} {out : List SegM}, alongP m size t sz n i segs = (e, a, out) → out.length ≤ segs.length + n
  | 0, i, segs, e, a, out, h => by
    simp only [alongP] at h
    split at h <;> (cases h; omega)
  | n + 1, i, segs, e, a, out, h => by
    rw [alongP] at h
    repeat' split at h
    all_goals first | (cases h; (try simp only [List.length_append, List.length_cons, List.length_nil]); omega) | (have := alongP_len h; simp only [List.length_append, List.length_cons, List.length_nil] at this; omega)

section
variable {R : Ending → World → Prop} {W0 w : World} {H : Hp} {A F : List Hp} {b p : Nat} {r : RamG} {l : Option LogG} {g : WkG}

set_option maxRecDepth 100000 in
set_option maxHeartbeats 4000000 in
theorem c_table (s : Sat W0 w H (wkL ⟨p, 0, none⟩ ⟨b, 0, none⟩ g ++ (ramL ⟨b, 0, none⟩ (r, l) ++ F))) (x1 x2 x3 x4 : Int) (h1 : 0 ≤ x1 ∧ x1 ≤ 18446744073709551615) (h2 : 0 ≤ x2 ∧ x2 ≤ 4294967295) (hl : g.segs.length ≤ 1000) (hwr : g.wr = lastW g.segs)
    (ka : badT x2 → ∀ w' g', Sat W0 w' H (wkL ⟨p, 0, none⟩ ⟨b, 0, none⟩ g' ++ (ramL ⟨b, 0, none⟩ (r, l) ++ F)) → R (.returned (.int .i64 154)) w')
    (kb : ¬ badT x2 → ¬ hasP r.size x1 x2 → ∀ w' g', Sat W0 w' H (wkL ⟨p, 0, none⟩ ⟨b, 0, none⟩ g' ++ (ramL ⟨b, 0, none⟩ (r, l) ++ F)) → R (.returned (.int .i64 21)) w')
    (k : ¬ badT x2 → hasP r.size x1 x2 → ∀ e a segs, alongP r.mem r.size x1 (x2 / 16) (x2 / 16).toNat 0 g.segs = (e, a, segs) → ∀ w' g' l' e', e' = outE false e (flg (w3 r.mem a) 4) → ExtR (tblP x1 (x2 / 16)) (lgs l) (lgs l') → g'.ta = x1 → g'.tl = x2 → (e' = 0 → g'.segs = segs) →
      Sat W0 w' H (wkL ⟨p, 0, none⟩ ⟨b, 0, none⟩ g' ++ (ramL ⟨b, 0, none⟩ (r, l') ++ F)) → R (.returned (.int .i64 e')) w') :
    Calls Try.prog 75 #[.pointer (some ⟨p, 0, none⟩), .agg #[.int .u64 x1, .int .u32 x2, .int .u16 x3, .int .u16 x4]] w R := by
  have s1 := s.alloc (c := [.int .u64 x1, .int .u32 x2, .int .u16 x3, .int .u16 x4]) (t := 169)
  obtain ⟨Z, hZ⟩ : ∃ Z, w.heap.size = Z := ⟨_, rfl⟩
  rw [hZ] at s1
  clear s
  have hhas := has_iff r x1 x2 h2.1
  have q1 := aside h1
  have q2 := aside (show 0 ≤ x2 ∧ x2 ≤ 18446744073709551615 by omega)
  have sU := s1
  simp only [wkL, List.cons_append, List.nil_append] at sU
  have y0 := sU.cel p 0 0 rfl
  simp only [Nat.zero_add] at y0
  have z0 := s1.cel Z 0 0 rfl
  have z1 := s1.cel Z 0 1 rfl
  have z2 := s1.cel Z 0 2 rfl
  simp only [Nat.zero_add] at z0 z1 z2
  obtain ⟨q, hq⟩ : ∃ q : Nat, x2 / 16 = q := ⟨(x2 / 16).toNat, by omega⟩
  obtain ⟨ρ, hρ⟩ : ∃ ρ : Int, x2 % 16 = ρ := ⟨_, rfl⟩
  have t1 : x2.tdiv 16 = q := by rw [Int.tdiv_eq_ediv_of_nonneg h2.1]; exact hq
  have t2 : x2.tmod 16 = ρ := by rw [Int.tmod_eq_emod_of_nonneg h2.1]; exact hρ
  have t3 : IntKind.i64.wrap (q : Int) = q := by simp [IntKind.wrap, IntKind.bits, IntKind.signed]; omega
  have t4 : IntKind.u32.wrap (q : Int) = q := by rw [wrap_u32]; omega
  have e2 : IntKind.u64.wrap x2 = x2 := by rw [wrap_u64]; omega
  rw [hq] at k
  by_cases hbad : badT x2
  · have K := aside (ka hbad)
    have hb : (q : Int) < 1 ∨ (256 < (q : Int)) ∨ ¬ ρ = 0 := by unfold badT at hbad; omega
    clear ka kb k hhas hq hρ sU
    by_cases c1 : (q : Int) < 1
    · skip
      go_enter Try.func75, Try.ntmps75
      go_wp2
      exact K.out _ g s1.wk
    · by_cases c2 : 256 < (q : Int)
      · skip
        go_enter Try.func75, Try.ntmps75
        go_wp2
        exact K.out _ g s1.wk
      · have c3 : ¬ ρ = 0 := by omega
        have c4 : (ρ == 0) = false := by simp [c3]
        go_enter Try.func75, Try.ntmps75
        go_wp2
        exact K.out _ g s1.wk
  · have c1 : ¬ (q : Int) < 1 := by unfold badT at hbad; omega
    have c2 : ¬ 256 < (q : Int) := by unfold badT at hbad; omega
    obtain rfl : ρ = 0 := by unfold badT at hbad; omega
    by_cases hh : hasP r.size x1 x2
    · have hd : decide (r.has x1 x2) = true := by simp; exact hhas.2 hh
      have K := aside (k hbad hh)
      clear ka kb k hhas hq hρ sU
      go_enter Try.func75, Try.ntmps75
      go_wp2
      go_quiet ((go_at_call 64; exact Calls.quiet_of_same (v := .bool true) (c_ramHas (s1.drewN _) x1 x2 q1.out q2.out (by rw [hd]; exact ⟨rfl, rfl⟩))))
      have s2 := s1.drewN nq
      generalize World.drewN _ nq = wA at s2 ⊢
      clear s1 z0 z1 z2 y0
      have z0 := s2.cel Z 0 0 rfl
      have z1 := s2.cel Z 0 1 rfl
      have z2 := s2.cel Z 0 2 rfl
      simp only [Nat.zero_add] at z0 z1 z2
      have sU := s2
      simp only [wkL, List.cons_append, List.nil_append] at sU
      have sV := (((sU.pc p 0).s 2 (by simp) (.int .u64 x1)).s 3 (by simp) (.int .u64 x2))
      simp only [List.set_cons_succ, List.set_cons_zero, Nat.zero_add] at sV
      have y0 := sU.cel p 0 0 rfl
      have y1 := sU.cel p 0 1 rfl
      have y2 := sU.cel p 0 2 rfl
      have y3 := sU.cel p 0 3 rfl
      simp only [Nat.zero_add] at y0 y1 y2 y3
      have s3 : Sat W0 ((wA.setCell ⟨p, 2, none⟩ (.int .u64 x1)).setCell ⟨p, 3, none⟩ (.int .u64 x2)) H (wkL ⟨p, 0, none⟩ ⟨b, 0, none⟩ { g with ta := x1, tl := x2 } ++ (ramL ⟨b, 0, none⟩ (r, l) ++ (cellsH ⟨Z, 0, none⟩ [.int .u64 x1, .int .u32 x2, .int .u16 x3, .int .u16 x4] :: F))) := by
        simp only [wkL, List.cons_append, List.nil_append]
        exact sV.wk
      have u0 := s3.cel Z 0 0 rfl
      have u1 := s3.cel Z 0 1 rfl
      have u2 := s3.cel Z 0 2 rfl
      simp only [Nat.zero_add] at u0 u1 u2
      clear sU sV
      have hl2 := aside hl
      have hw2 := aside hwr
      go_wp2_with fail
      refine c_along s3 x1 0 q false h1 (by omega) (by omega) hl2.out hw2.out ?_
      intro e a segs hE w4 d1 d2 d3 d4 g' l' e' he' hX hseg s4
      replace hE := aside hE
      replace hX := aside hX
      replace hseg := aside hseg
      replace he' := aside he'
      clear s2 s3
      go_wp2
      refine K.out e a segs ?_ _ g' l' e' he'.out hX.out.1 hX.out.2.1 hX.out.2.2 (fun h => (hseg.out h).1) ?_
      · exact hE.out
      · exact (s4.alloc (c := [.int .u64 d1, .int .u32 d2, .int .u16 d3, .int .u16 d4]) (t := 169)).wk
    · have hd : decide (r.has x1 x2) = false := by simp; exact fun h => hh (hhas.1 h)
      have K := aside (kb hbad hh)
      clear ka kb k hhas hq hρ sU
      go_enter Try.func75, Try.ntmps75
      go_wp2
      go_quiet ((go_at_call 64; exact Calls.quiet_of_same (v := .bool false) (c_ramHas (s1.drewN _) x1 x2 q1.out q2.out (by rw [hd]; exact ⟨rfl, rfl⟩))))
      go_wp2
      exact K.out _ g (s1.drewN _).wk
end
end Go.Proofs.Ytippipfogbgemaa
