/-
  VMMIO: a device's registers, as plain data; where they lie, in the program and in the document.
-/
import Derived.Test.YtiibiamobkhlbaaG7
import Derived.Test.YtiibiamobkhlbaaUMa
import Derived.Test.YtiibiamobkhlbaaUMb
import Derived.Test.YtiibiamobkhlbaaG5
set_option linter.unusedVariables false
set_option linter.unusedSimpArgs false
namespace Go.Proofs.Ytiibiamobkhlbaa
open Go.RowKit
set_option linter.unusedVariables false
set_option linter.unusedSimpArgs false

/-- a row of cells in two -/
theorem Sat.split {W0 w : World} {H : Hp} {F : List Hp} {b o : Nat} {xs ys : List Value} (s : Sat W0 w H (cellsH ⟨b, o, none⟩ (xs ++ ys) :: F)) : Sat W0 w H (cellsH ⟨b, o, none⟩ xs :: cellsH ⟨b, o + xs.length, none⟩ ys :: F) := by
  have e1 := s.each _ (List.mem_cons_self ..)
  obtain ⟨p1, p2⟩ := List.pairwise_cons.1 s.apart
  have l1 : ∀ l c, cellsH ⟨b, o, none⟩ xs l = some c → cellsH ⟨b, o, none⟩ (xs ++ ys) l = some c := by
    intro l c h
    cases l with
    | obj r => simp [cellsH] at h
    | cell b' o' =>
      simp only [cellsH] at h ⊢
      split at h
      · rename_i hc
        rw [if_pos hc]
        rcases Nat.lt_or_ge (o' - o) xs.length with h2 | h2
        · rw [List.getElem?_append_left h2]; exact h
        · rw [List.getElem?_eq_none h2] at h; cases h
      · cases h
  have l2 : ∀ l c, cellsH ⟨b, o + xs.length, none⟩ ys l = some c → cellsH ⟨b, o, none⟩ (xs ++ ys) l = some c := by
    intro l c h
    cases l with
    | obj r => simp [cellsH] at h
    | cell b' o' =>
      simp only [cellsH] at h ⊢
      split at h
      · rename_i hc
        rw [if_pos ⟨hc.1, by omega⟩, List.getElem?_append_right (by omega), show o' - o - xs.length = o' - (o + xs.length) by omega]
        exact h
      · cases h
  have d12 : Dj (cellsH ⟨b, o, none⟩ xs) (cellsH ⟨b, o + xs.length, none⟩ ys) := by
    intro l
    cases l with
    | obj r => exact .inl rfl
    | cell b' o' =>
      simp only [cellsH]
      by_cases hc : b' = b ∧ o + xs.length ≤ o'
      · left
        rw [if_pos ⟨hc.1, by omega⟩, List.getElem?_eq_none (by omega)]; rfl
      · right; rw [if_neg hc]
  have dj : ∀ {h k g : Hp}, (∀ l c, h l = some c → k l = some c) → Dj k g → Dj h g := fun {h k g} le d l => by
    rcases d l with h1 | h1
    · cases hh : h l with
      | none => exact .inl rfl
      | some c => rw [le l c hh] at h1; cases h1
    · exact .inr h1
  refine ⟨s.below, s.ro, s.old, List.pairwise_cons.2 ⟨fun g hg => ?_, List.pairwise_cons.2 ⟨fun g hg => dj l2 (p1 g hg), p2⟩⟩, fun g hg => ?_⟩
  · rcases List.mem_cons.1 hg with rfl | hg
    · exact d12
    · exact dj l1 (p1 g hg)
  · rcases List.mem_cons.1 hg with rfl | hg
    · exact ⟨e1.1.mono l1, dj l1 e1.2⟩
    · rcases List.mem_cons.1 hg with rfl | hg
      · exact ⟨e1.1.mono l2, dj l2 e1.2⟩
      · exact s.each g (List.mem_cons_of_mem _ hg)

structure RegM where
  id : Nat
  off : Nat
  agr : Nat
  ds : Nat
  rs : Nat
  qsl : Nat
  bits : Nat
  pend : Nat
  gen : Nat
  qs : List QuM
  sp : List Int
  hid : id ≤ 4294967295
  hoff : off ≤ 18446744073709551615
  hagr : agr ≤ 18446744073709551615
  hds : ds ≤ 4294967295
  hrs : rs ≤ 4294967295
  hqsl : qsl ≤ 4294967295
  hbits : bits ≤ 4294967295
  hpend : pend ≤ 4294967295
  hgen : gen ≤ 4294967295
  hsp : ∀ x ∈ sp, 0 ≤ x ∧ x ≤ 255
def RegM.vals (g : RegM) (qb cq : Nat) (spv : Value) : List Value := [.int .u32 g.id, .int .u64 g.off, .int .u64 g.agr, .int .u32 g.ds, .int .u32 g.rs, .int .u32 g.qsl, .slice (some ⟨qb, 0, none⟩) g.qs.length cq, .int .u32 g.bits, .int .u32 g.pend, .int .u32 g.gen, spv]
def RegM.dvals (g : RegM) (qv sv : Value) : List Value := [.int .u32 g.id, .int .u32 g.ds, .int .u32 g.rs, .int .u32 g.qsl, .int .u32 g.bits, .int .u32 g.pend, .int .u32 g.gen, .int .u64 g.off, .int .u64 g.agr, qv, sv]
/-- the program's registers: their data, and where the parts lie -/
structure RegP where
  g : RegM
  qb : Nat
  cq : Nat
  spv : Value
  sph : Hp
  own : OwnS 1 spv g.sp.length (g.sp.map (Value.int .u8)) sph
  hq : g.qs.length ≤ cq ∧ cq ≤ 9223372036854775807
def qsH (qb : Nat) : Nat → List QuM → List Hp
  | _, [] => []
  | o, q :: l => cellsH ⟨qb, o, none⟩ q.vals :: qsH qb (o + 9) l
def regL (rb : Nat) (p : RegP) : List Hp := cellsH ⟨rb, 0, none⟩ (p.g.vals p.qb p.cq p.spv) :: p.sph :: qsH p.qb 0 p.g.qs
theorem qsH_mem {qb : Nat} : ∀ {o : Nat} {l : List QuM} {i : Nat} {q : QuM}, l[i]? = some q → cellsH ⟨qb, o + i * 9, none⟩ q.vals ∈ qsH qb o l
  | o, [], i, q, h => by simp at h
  | o, x :: l, 0, q, h => by
    obtain rfl : x = q := by simpa using h
    rw [Nat.zero_mul, Nat.add_zero]; exact List.mem_cons_self ..
  | o, x :: l, i + 1, q, h => by
    have := qsH_mem (qb := qb) (o := o + 9) (l := l) (i := i) (q := q) (by simpa using h)
    rw [show o + 9 + i * 9 = o + (i + 1) * 9 by omega] at this
    exact List.mem_cons_of_mem _ this
/-- one queue to the front, and back -/
theorem qsH_front {qb : Nat} : ∀ {o : Nat} {l : List QuM} {i : Nat} {q : QuM}, l[i]? = some q → ∃ R, (qsH qb o l).Perm (cellsH ⟨qb, o + i * 9, none⟩ q.vals :: R) ∧ ∀ q', (qsH qb o (l.set i q')).Perm (cellsH ⟨qb, o + i * 9, none⟩ q'.vals :: R)
  | o, [], i, q, h => by simp at h
  | o, x :: l, 0, q, h => by
    obtain rfl : x = q := by simpa using h
    rw [Nat.zero_mul, Nat.add_zero]
    exact ⟨_, List.Perm.refl _, fun q' => List.Perm.refl _⟩
  | o, x :: l, i + 1, q, h => by
    obtain ⟨R, h1, h2⟩ := qsH_front (qb := qb) (o := o + 9) (l := l) (i := i) (q := q) (by simpa using h)
    rw [show o + 9 + i * 9 = o + (i + 1) * 9 by omega] at h1 h2
    refine ⟨cellsH ⟨qb, o, none⟩ x.vals :: R, (List.Perm.cons _ h1).trans (List.Perm.swap ..), fun q' => ?_⟩
    rw [List.set_cons_succ]
    exact (List.Perm.cons _ (h2 q')).trans (List.Perm.swap ..)

def quE : El QuM := fun _ q vs => vs = [.int .i64 q.n, .int .u64 q.d, .int .u64 q.a, .int .u64 q.u, .bool q.rdy, .int .i64 q.fet, .int .i64 q.us, .bool q.ev, .bool q.ind]
theorem quE_mono : ElMono quE := fun _ _ _ _ _ e => e
/-- the document's registers -/
def RefR (H : Hp) (v : Value) (g : RegM) : Prop := ∃ Q qc S sn sc, v = .agg (g.dvals (.slice Q g.qs.length qc) (.slice S sn sc)).toArray ∧ Rd quE 9 H (.slice Q g.qs.length qc) g.qs ∧ Rd u8E 1 H (.slice S sn sc) g.sp
theorem RefR.mono {H H' : Hp} {v : Value} {g : RegM} (r : RefR H v g) (le : ∀ l c, H l = some c → H' l = some c) : RefR H' v g := by
  obtain ⟨Q, qc, S, sn, sc, h1, h2, h3⟩ := r
  exact ⟨Q, qc, S, sn, sc, h1, h2.mono quE_mono le, h3.mono u8E_mono le⟩
theorem Rd.qu {H : Hp} {A : Option Addr} {n c : Nat} {xs : List QuM} (r : Rd quE 9 H (.slice A n c) xs) : n = xs.length ∧ n ≤ c ∧ c ≤ 9223372036854775807 ∧
    ∀ i (q : QuM), xs[i]? = some q → ∃ b o, A = some ⟨b, o, none⟩ ∧ ∀ (j : Nat) u, ([.int .i64 q.n, .int .u64 q.d, .int .u64 q.a, .int .u64 q.u, .bool q.rdy, .int .i64 q.fet, .int .i64 q.us, .bool q.ev, .bool q.ind])[j]? = some u → ∃ fr, H (.cell b (o + i * 9 + j)) = some (.val u fr) := by
  obtain ⟨A', c', hv, hc, hc2, hat⟩ := r
  injection hv with e1 e2 e3
  subst e1 e2 e3
  refine ⟨rfl, hc, hc2, fun i q hi => ?_⟩
  obtain ⟨b, o, vs, hA, rfl, _, hcell⟩ := hat i q hi
  exact ⟨b, o, hA, hcell⟩
end Go.Proofs.Ytiibiamobkhlbaa
