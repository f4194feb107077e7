/-
  THE GROUND: heaplets (what a piece of the memory holds, as a function of places) and 'Sat': the world holds the old memory, a part that is only read, and a list of pieces that lie apart. Plain theorems over any program.
-/
import Derived.WalkKit
import Derived.ProofKit
import Derived.OpenShut
import Derived.Deep.Draws
namespace Go.Proofs.Ytippipfogbgemaa
open Go.RowKit

inductive Loc where
  | cell (b o : Nat)
  | obj (b : Nat)
deriving DecidableEq

def Loc.block : Loc → Nat
  | .cell b _ => b
  | .obj b => b

inductive Cont where
  | val (v : Value) (fr : Bool)
  | obj (o : Obj)

/-- A heaplet: what lies at some places. -/
abbrev Hp := Loc → Option Cont

def lookO (w : World) (b : Nat) : Option Cont :=
  match w.heap[b]? with
  | some (.cells ..) => none
  | some o => some (.obj o)
  | none => none

def look (w : World) : Hp
  | .cell b o => (w.cell? ⟨b, o, none⟩).map fun v => .val v (w.frozen? ⟨b, o, none⟩)
  | .obj b => lookO w b

def Holds (w : World) (h : Hp) : Prop := ∀ l c, h l = some c → look w l = some c
def Dj (h k : Hp) : Prop := ∀ l, h l = none ∨ k l = none
def un (h k : Hp) : Hp := fun l => (h l).or (k l)

theorem Dj.symm {h k : Hp} (d : Dj h k) : Dj k h := fun l => (d l).symm

theorem look_block_eq {w w' : World} {l : Loc} (h : w'.heap[l.block]? = w.heap[l.block]?) : look w' l = look w l := by
  cases l with
  | cell b o => simp only [Loc.block] at h; simp [look, World.cell?, World.frozen?, h]
  | obj b => simp only [Loc.block] at h; simp [look, lookO, h]

theorem look_lt {w : World} {l : Loc} {c : Cont} (h : look w l = some c) : l.block < w.heap.size := by
  rcases Nat.lt_or_ge l.block w.heap.size with hlt | hge
  · exact hlt
  · have hn : w.heap[l.block]? = none := Array.getElem?_eq_none hge
    cases l with
    | cell b o => simp only [Loc.block] at hn; simp [look, World.cell?, hn] at h
    | obj b => simp only [Loc.block] at hn; simp [look, lookO, hn] at h

theorem look_cell {w : World} {b o : Nat} {v : Value} {f : Bool} (h : look w (.cell b o) = some (.val v f)) : w.cell? ⟨b, o, none⟩ = some v ∧ w.frozen? ⟨b, o, none⟩ = f := by
  simp only [look] at h
  cases hc : w.cell? ⟨b, o, none⟩ with
  | none => simp [hc] at h
  | some u => simp [hc] at h; exact ⟨by rw [h.1], h.2⟩

theorem look_cell_mk {w : World} {b o : Nat} {v : Value} {f : Bool} (h : w.cell? ⟨b, o, none⟩ = some v) (hf : w.frozen? ⟨b, o, none⟩ = f) : look w (.cell b o) = some (.val v f) := by
  simp [look, h, hf]

theorem look_obj {w : World} {b : Nat} {o : Obj} (h : look w (.obj b) = some (.obj o)) : w.heap[b]? = some o := by
  simp only [look, lookO] at h
  split at h <;> simp_all

theorem look_obj_map {w : World} {b : Nat} {es : Array MapEntry} {ck : Nat} (h : w.heap[b]? = some (.map es ck)) : look w (.obj b) = some (.obj (.map es ck)) := by
  simp [look, lookO, h]

theorem look_alloc_lt (w : World) (o : Obj) {l : Loc} (h : l.block < w.heap.size) : look (w.alloc o) l = look w l :=
  look_block_eq (Below.heap_alloc w o _ h)

theorem look_setCell_ne (w : World) (b o : Nat) (v : Value) {l : Loc} (h : l ≠ .cell b o) : look (w.setCell ⟨b, o, none⟩ v) l = look w l := by
  cases l with
  | cell b' o' =>
    have hne : (⟨b, o, none⟩ : Addr) ≠ ⟨b', o', none⟩ := by intro e; injection e with e1 e2; exact h (by rw [e1, e2])
    simp only [look, World.cell?_setCell_other _ _ _ _ hne, World.frozen?_setCell]
  | obj b' =>
    by_cases hb : b' = b
    · subst hb
      simp only [look, lookO, World.setCell, Array.getElem?_modify, if_true]
      cases w.heap[b']? with
      | none => rfl
      | some x => cases x <;> rfl
    · exact look_block_eq (Below.heap_setCell w ⟨b, o, none⟩ v b' hb)

theorem look_setCell_eq {w : World} {b o : Nat} {v u : Value} {f : Bool} (h : look w (.cell b o) = some (.val u f)) : look (w.setCell ⟨b, o, none⟩ v) (.cell b o) = some (.val v f) := by
  obtain ⟨h1, h2⟩ := look_cell h
  exact look_cell_mk (World.cell?_setCell_same _ _ _ h1) (by rw [World.frozen?_setCell]; exact h2)

def setO (w : World) (r : Nat) (o : Obj) : World := { w with heap := w.heap.setIfInBounds r o }

theorem look_setO_ne (w : World) (r : Nat) (o : Obj) {l : Loc} (h : l.block ≠ r) : look (setO w r o) l = look w l :=
  look_block_eq (by simp only [setO]; rw [Array.getElem?_setIfInBounds]; rw [if_neg (Ne.symm h)])

theorem Holds.mono {w : World} {h k : Hp} (H : Holds w h) (le : ∀ l c, k l = some c → h l = some c) : Holds w k := fun l c e => H l c (le l c e)

/-- The world holds the old memory 'W0', the part H that is only read (the old memory in it), and the pieces of A, all apart. -/
structure Sat (W0 w : World) (H : Hp) (A : List Hp) : Prop where
  below : Below W0.heap.size W0 w
  ro : Holds w H
  old : ∀ l c, look W0 l = some c → H l = some c
  apart : A.Pairwise Dj
  each : ∀ h ∈ A, Holds w h ∧ Dj h H

section
variable {W0 w w' : World} {H : Hp} {A B F : List Hp}

theorem Sat.start (W : World) : Sat W W (look W) [] := ⟨Below.refl _ _, fun _ _ h => h, fun _ _ h => h, List.Pairwise.nil, by simp⟩

theorem Sat.perm (s : Sat W0 w H A) (p : A.Perm B) : Sat W0 w H B :=
  ⟨s.below, s.ro, s.old, (p.pairwise_iff Dj.symm).1 s.apart, fun h hm => s.each h (p.mem_iff.2 hm)⟩

theorem Sat.sub (s : Sat W0 w H A) (p : B.Sublist A) : Sat W0 w H B :=
  ⟨s.below, s.ro, s.old, s.apart.sublist p, fun h hm => s.each h (p.subset hm)⟩

theorem Sat.tail (s : Sat W0 w H (A ++ F)) : Sat W0 w H F := s.sub (List.sublist_append_right _ _)
theorem Sat.tail1 {h : Hp} (s : Sat W0 w H (h :: F)) : Sat W0 w H F := s.sub (List.sublist_cons_self _ _)

/-- What an owned piece holds lies behind the old memory. -/
theorem Sat.ge (s : Sat W0 w H A) {h : Hp} (hm : h ∈ A) {l : Loc} {c : Cont} (hl : h l = some c) : W0.heap.size ≤ l.block := by
  rcases Nat.lt_or_ge l.block W0.heap.size with hlt | hge
  · exfalso
    have h1 := (s.each h hm).1 l c hl
    have h2 : look W0 l = some c := by rw [← h1]; exact (look_block_eq (s.below.block _ hlt)).symm
    have h3 := s.old l c h2
    rcases (s.each h hm).2 l with e | e
    · rw [hl] at e; cases e
    · rw [h3] at e; cases e
  · exact hge

/-- Nothing but draws. -/
theorem Sat.heq (s : Sat W0 w H A) (hh : w'.heap = w.heap) (h1 : w'.os = w.os) (h2 : w'.tape = w.tape) (h3 : w'.output = w.output) : Sat W0 w' H A := by
  have hl : ∀ l, look w' l = look w l := fun l => look_block_eq (by rw [hh])
  refine ⟨⟨h1.trans s.below.os, h2.trans s.below.tape, h3.trans s.below.output, by rw [hh]; exact s.below.size, fun k hk => by rw [hh]; exact s.below.block k hk⟩,
    fun l c e => by rw [hl]; exact s.ro l c e, s.old, s.apart, fun h hm => ⟨fun l c e => by rw [hl]; exact (s.each h hm).1 l c e, (s.each h hm).2⟩⟩

theorem Sat.drew (s : Sat W0 w H A) : Sat W0 w.drew H A := s.heq rfl rfl rfl rfl
theorem Sat.drewN (s : Sat W0 w H A) (n : Nat) : Sat W0 (w.drewN n) H A := s.heq rfl rfl rfl rfl

/-- The world has grown: what was there is there. -/
theorem Sat.grow (s : Sat W0 w H A) (g : Below w.heap.size w w') : Sat W0 w' H A := by
  have hl : ∀ l c, look w l = some c → look w' l = some c := fun l c e => by rw [← e]; exact look_block_eq (g.block _ (look_lt e))
  exact ⟨s.below.trans (g.mono s.below.size), fun l c e => hl l c (s.ro l c e), s.old, s.apart, fun h hm => ⟨fun l c e => hl l c ((s.each h hm).1 l c e), (s.each h hm).2⟩⟩

/-- .. and a new piece behind it. -/
theorem Sat.growBy (s : Sat W0 w H A) (g : Below w.heap.size w w') {h : Hp} (hh : Holds w' h) (hn : ∀ l c, h l = some c → w.heap.size ≤ l.block) : Sat W0 w' H (h :: A) := by
  have s' := s.grow g
  have hd : ∀ k : Hp, Holds w k → Dj h k := fun k hk l => by
    rcases hc : h l with _ | c
    · exact .inl rfl
    · refine .inr ?_
      rcases hk' : k l with _ | c'
      · rfl
      · have := look_lt (hk l c' hk'); have := hn l c hc; omega
  refine ⟨s'.below, s'.ro, s'.old, List.pairwise_cons.2 ⟨fun k hk => hd k (s.each k hk).1, s.apart⟩, fun k hk => ?_⟩
  rcases List.mem_cons.1 hk with rfl | hk
  · exact ⟨hh, hd H s.ro⟩
  · exact s'.each k hk

/-- A new piece goes to the part that is only read. -/
theorem Sat.freeze {h : Hp} (s : Sat W0 w H (h :: A)) : Sat W0 w (un H h) A := by
  have e := s.each h (List.mem_cons_self ..)
  have ap := List.pairwise_cons.1 s.apart
  refine ⟨s.below, fun l c hl => ?_, fun l c hl => by simp [un, s.old l c hl], ap.2, fun k hk => ⟨(s.each k (List.mem_cons_of_mem _ hk)).1, fun l => ?_⟩⟩
  · rcases hH : H l with _ | c'
    · simp [un, hH] at hl; exact e.1 l c hl
    · simp [un, hH] at hl; exact s.ro l c (by rw [hH, hl])
  · rcases (s.each k (List.mem_cons_of_mem _ hk)).2 l with h1 | h1
    · exact .inl h1
    · rcases ap.1 k hk l with h2 | h2
      · exact .inr (by simp [un, h1, h2])
      · exact .inl h2

/-- A piece turns into another one. -/
theorem Sat.step {h h' : Hp} (s : Sat W0 w H (h :: F)) (hos : w'.os = w.os) (htape : w'.tape = w.tape) (hout : w'.output = w.output) (hsize : w.heap.size ≤ w'.heap.size)
    (hold : ∀ k, k < W0.heap.size → w'.heap[k]? = w.heap[k]?)
    (hrest : ∀ l c, h l = none → look w l = some c → look w' l = some c) (hh : Holds w' h') (hdom : ∀ l c, h' l = some c → h l ≠ none ∨ w.heap.size ≤ l.block) : Sat W0 w' H (h' :: F) := by
  have e := s.each h (List.mem_cons_self ..)
  have ap := List.pairwise_cons.1 s.apart
  have keep : ∀ k : Hp, Dj h k → Holds w k → Holds w' k := fun k d hk l c hl => by
    refine hrest l c ?_ (hk l c hl)
    rcases d l with h1 | h1
    · exact h1
    · rw [hl] at h1; cases h1
  have dj : ∀ k : Hp, Dj h k → Holds w k → Dj h' k := fun k d hk l => by
    rcases hc : h' l with _ | c
    · exact .inl rfl
    · refine .inr ?_
      rcases hdom l c hc with h1 | h1
      · rcases d l with h2 | h2
        · exact absurd h2 h1
        · exact h2
      · rcases hk' : k l with _ | c'
        · rfl
        · have := look_lt (hk l c' hk'); omega
  refine ⟨⟨hos.trans s.below.os, htape.trans s.below.tape, hout.trans s.below.output, Nat.le_trans s.below.size hsize, fun k hk => (hold k hk).trans (s.below.block k hk)⟩,
    keep H e.2 s.ro, s.old, List.pairwise_cons.2 ⟨fun k hk => dj k (ap.1 k hk) (s.each k (List.mem_cons_of_mem _ hk)).1, ap.2⟩, fun k hk => ?_⟩
  rcases List.mem_cons.1 hk with rfl | hk
  · exact ⟨hh, dj H e.2 s.ro⟩
  · exact ⟨keep k (ap.1 k hk) (s.each k (List.mem_cons_of_mem _ hk)).1, (s.each k (List.mem_cons_of_mem _ hk)).2⟩

/-- Two pieces in one. -/
theorem Sat.merge {h k : Hp} (s : Sat W0 w H (h :: k :: F)) : Sat W0 w H (un h k :: F) := by
  have e1 := s.each h (List.mem_cons_self ..)
  have e2 := s.each k (List.mem_cons_of_mem _ (List.mem_cons_self ..))
  obtain ⟨p1, p2⟩ := List.pairwise_cons.1 s.apart
  obtain ⟨p3, p4⟩ := List.pairwise_cons.1 p2
  have dj : ∀ g : Hp, Dj h g → Dj k g → Dj (un h k) g := fun g d1 d2 l => by
    rcases d1 l with h1 | h1
    · rcases d2 l with h2 | h2
      · exact .inl (by simp [un, h1, h2])
      · exact .inr h2
    · exact .inr h1
  refine ⟨s.below, s.ro, s.old, List.pairwise_cons.2 ⟨fun g hg => dj g (p1 g (List.mem_cons_of_mem _ hg)) (p3 g hg), p4⟩, fun g hg => ?_⟩
  rcases List.mem_cons.1 hg with rfl | hg
  · refine ⟨fun l c hl => ?_, dj H e1.2 e2.2⟩
    rcases hh : h l with _ | c'
    · simp [un, hh] at hl; exact e2.1 l c hl
    · simp [un, hh] at hl; exact e1.1 l c (by rw [hh, hl])
  · exact s.each g (List.mem_cons_of_mem _ (List.mem_cons_of_mem _ hg))

/-- One cell of a piece turns. -/
def upH (h : Hp) (b o : Nat) (v : Value) : Hp := fun l => if l = .cell b o then some (.val v false) else h l

theorem Sat.set {h : Hp} (s : Sat W0 w H (h :: F)) {b o : Nat} {u : Value} (hc : h (.cell b o) = some (.val u false)) (v : Value) : Sat W0 (w.setCell ⟨b, o, none⟩ v) H (upH h b o v :: F) := by
  have e := s.each h (List.mem_cons_self ..)
  have hge := s.ge (List.mem_cons_self ..) hc
  refine s.step rfl rfl rfl (by simp [World.setCell]) (fun k hk => Below.heap_setCell _ _ _ _ (by simp only [Loc.block] at hge; show k ≠ b; omega)) (fun l c hn hl => ?_) (fun l c hl => ?_) (fun l c hl => ?_)
  · rw [look_setCell_ne _ _ _ _ (by rintro rfl; rw [hc] at hn; cases hn)]; exact hl
  · by_cases hlb : l = .cell b o
    · subst hlb
      simp [upH] at hl
      subst hl
      exact look_setCell_eq (e.1 _ _ hc)
    · simp [upH, hlb] at hl
      rw [look_setCell_ne _ _ _ _ hlb]; exact e.1 _ _ hl
  · left
    by_cases hlb : l = .cell b o
    · subst hlb; rw [hc]; simp
    · simp [upH, hlb] at hl; rw [hl]; simp

theorem Sat.setO {h h' : Hp} (s : Sat W0 w H (h :: F)) {r : Nat} {o o' : Obj} (hc : h = fun l => if l = .obj r then some (.obj o) else none) (hno : ∀ c t f, o' ≠ .cells c t f)
    (hc' : h' = fun l => if l = .obj r then some (.obj o') else none) : Sat W0 (setO w r o') H (h' :: F) := by
  have e := s.each h (List.mem_cons_self ..)
  have hr : h (.obj r) = some (.obj o) := by simp [hc]
  have hge := s.ge (List.mem_cons_self ..) hr
  have hlk := e.1 _ _ hr
  have hlt := look_lt hlk
  simp only [Loc.block] at hge hlt
  have hnc : ∀ i, look w (.cell r i) = none := fun i => by
    have := look_obj hlk
    simp only [look, World.cell?, this]
    cases o <;> first | rfl | (simp [look, lookO, this] at hlk)
  refine s.step rfl rfl rfl (by simp [Go.Proofs.Ytippipfogbgemaa.setO]) (fun k hk => by simp only [Go.Proofs.Ytippipfogbgemaa.setO]; rw [Array.getElem?_setIfInBounds, if_neg (by omega)]) (fun l c hn hl => ?_) (fun l c hl => ?_) (fun l c hl => ?_)
  · rw [look_setO_ne _ _ _ ?_]
    · exact hl
    · intro hb
      cases l with
      | cell b i => simp only [Loc.block] at hb; subst hb; rw [hnc] at hl; cases hl
      | obj b => simp only [Loc.block] at hb; subst hb; rw [hr] at hn; cases hn
  · rw [hc'] at hl
    by_cases hlb : l = .obj r
    · subst hlb
      simp at hl
      subst hl
      have : (Go.Proofs.Ytippipfogbgemaa.setO w r o').heap[r]? = some o' := by simp [Go.Proofs.Ytippipfogbgemaa.setO, hlt]
      simp only [look, lookO, this]
      all_goals (cases o' <;> first | rfl | exact absurd rfl (hno _ _ _))
    · simp only [if_neg hlb] at hl; cases hl
  · left
    rw [hc'] at hl
    by_cases hlb : l = .obj r
    · subst hlb; rw [hr]; simp
    · simp [hlb] at hl
end

/-! ### Cells in a row -/

/-- The cells vs, one behind the other, from a place on; none frozen. -/
def cellsH (a : Addr) (vs : List Value) : Hp
  | .cell b o => if b = a.block ∧ a.off ≤ o then (vs[o - a.off]?).map fun v => .val v false else none
  | .obj _ => none

def objH (b : Nat) (o : Obj) : Hp := fun l => if l = .obj b then some (.obj o) else none

theorem cellsH_at {a : Addr} {vs : List Value} {i : Nat} {v : Value} (h : vs[i]? = some v) : cellsH a vs (.cell a.block (a.off + i)) = some (.val v false) := by
  simp [cellsH, h]

theorem upH_cellsH {a : Addr} {vs : List Value} {i : Nat} (v : Value) (h : i < vs.length) : upH (cellsH a vs) a.block (a.off + i) v = cellsH a (vs.set i v) := by
  funext l
  cases l with
  | obj b => simp [upH, cellsH]
  | cell b o =>
    by_cases hb : b = a.block ∧ o = a.off + i
    · obtain ⟨rfl, rfl⟩ := hb
      simp [upH, cellsH, h]
    · have hne : ¬ (Loc.cell b o = Loc.cell a.block (a.off + i)) := by intro e; injection e with e1 e2; exact hb ⟨e1, e2⟩
      simp only [upH, if_neg hne, cellsH]
      by_cases hc : b = a.block ∧ a.off ≤ o
      · rw [if_pos hc, if_pos hc, List.getElem?_set_ne]
        intro e; exact hb ⟨hc.1, by omega⟩
      · rw [if_neg hc, if_neg hc]

section
variable {W0 w w' : World} {H : Hp} {A B F : List Hp}

/-- What the world says of the cells of a piece. -/
theorem Sat.cells {a : Addr} {vs : List Value} (s : Sat W0 w H A) (hm : cellsH a vs ∈ A) {i : Nat} {v : Value} (h : vs[i]? = some v) :
    w.cell? ⟨a.block, a.off + i, none⟩ = some v ∧ w.frozen? ⟨a.block, a.off + i, none⟩ = false :=
  look_cell ((s.each _ hm).1 _ _ (cellsH_at h))

theorem Sat.obj {b : Nat} {o : Obj} (s : Sat W0 w H A) (hm : objH b o ∈ A) : w.heap[b]? = some o :=
  look_obj ((s.each _ hm).1 (.obj b) (.obj o) (by simp [objH]))

theorem Sat.alloc {c : List Value} {t : TypeId} (s : Sat W0 w H A) : Sat W0 (w.alloc (.cells c.toArray t)) H (cellsH ⟨w.heap.size, 0, none⟩ c :: A) :=
  s.growBy ((Below.refl _ _).alloc (Nat.le_refl _) _) (fun l k hl => by
    cases l with
    | obj b => simp [cellsH] at hl
    | cell b o =>
      simp only [cellsH] at hl
      by_cases hb : b = w.heap.size ∧ 0 ≤ o
      · rw [if_pos hb] at hl
        obtain ⟨rfl, _⟩ := hb
        simp only [Nat.sub_zero] at hl
        rcases hc : c[o]? with _ | v
        · simp [hc] at hl
        · simp [hc] at hl
          subst hl
          exact look_cell_mk (by simp [hc]) (by simp)
      · rw [if_neg hb] at hl; cases hl) (fun l k hl => by
    cases l with
    | obj b => simp [cellsH] at hl
    | cell b o =>
      simp only [cellsH] at hl
      by_cases hb : b = w.heap.size ∧ 0 ≤ o
      · simp [Loc.block, hb.1]
      · rw [if_neg hb] at hl; cases hl)

theorem Sat.allocO {o : Obj} (s : Sat W0 w H A) (hno : ∀ c t f, o ≠ .cells c t f) : Sat W0 (w.alloc o) H (objH w.heap.size o :: A) :=
  s.growBy ((Below.refl _ _).alloc (Nat.le_refl _) _) (fun l k hl => by
    by_cases hb : l = .obj w.heap.size
    · subst hb
      simp [objH] at hl
      subst hl
      have : (w.alloc o).heap[w.heap.size]? = some o := by show (w.heap.push o)[w.heap.size]? = some o; simp
      simp only [look, lookO, this]
      all_goals (cases o <;> first | rfl | exact absurd rfl (hno _ _ _))
    · simp only [objH, if_neg hb] at hl; cases hl) (fun l k hl => by
    by_cases hb : l = .obj w.heap.size
    · subst hb; simp [Loc.block]
    · simp [objH, hb] at hl)

theorem Sat.setAt {a : Addr} {vs : List Value} (s : Sat W0 w H (cellsH a vs :: F)) {i : Nat} (h : i < vs.length) (v : Value) :
    Sat W0 (w.setCell ⟨a.block, a.off + i, none⟩ v) H (cellsH a (vs.set i v) :: F) := by
  rw [← upH_cellsH v h]
  exact s.set (u := vs[i]) (cellsH_at (by simp [h])) v
end

theorem pairwise_get {α : Type} {R : α → α → Prop} (hs : ∀ a b, R a b → R b a) : ∀ {L : List α}, L.Pairwise R → ∀ (i j : Nat) (a b : α), i ≠ j → L[i]? = some a → L[j]? = some b → R a b
  | [], _, i, j, a, b, _, ha, _ => by simp at ha
  | x :: L, hp, i, j, a, b, hne, ha, hb => by
    obtain ⟨h1, h2⟩ := List.pairwise_cons.1 hp
    cases i with
    | zero =>
      cases j with
      | zero => exact absurd rfl hne
      | succ j =>
        simp at ha hb
        subst ha
        exact h1 b (List.mem_of_getElem? hb)
    | succ i =>
      cases j with
      | zero =>
        simp at ha hb
        subst hb
        exact hs _ _ (h1 a (List.mem_of_getElem? ha))
      | succ j =>
        simp at ha hb
        exact pairwise_get hs h2 i j a b (by omega) ha hb

theorem pairwise_sel {α : Type} {R : α → α → Prop} (hs : ∀ a b, R a b → R b a) {L : List α} (hp : L.Pairwise R) : ∀ {is : List Nat}, is.Nodup → (is.filterMap fun i => L[i]?).Pairwise R
  | [], _ => by simp
  | i :: is, hn => by
    obtain ⟨h1, h2⟩ := List.nodup_cons.1 hn
    have ih := pairwise_sel hs hp h2
    simp only [List.filterMap_cons]
    cases hi : L[i]? with
    | none => exact ih
    | some a =>
      refine List.pairwise_cons.2 ⟨fun b hb => ?_, ih⟩
      obtain ⟨j, hj, hjb⟩ := List.mem_filterMap.1 hb
      exact pairwise_get hs hp i j a b (by rintro rfl; exact h1 hj) hi hjb

/-- Some of the first pieces, in another order. -/
theorem Sat.sel {W0 w : World} {H : Hp} {L F : List Hp} (s : Sat W0 w H (L ++ F)) (is : List Nat) (hn : is.Nodup) : Sat W0 w H ((is.filterMap fun i => L[i]?) ++ F) := by
  have hmem : ∀ h, h ∈ (is.filterMap fun i => L[i]?) → h ∈ L := fun h hh => by
    obtain ⟨j, _, hj⟩ := List.mem_filterMap.1 hh
    exact List.mem_of_getElem? hj
  obtain ⟨p1, p2, p3⟩ := List.pairwise_append.1 s.apart
  refine ⟨s.below, s.ro, s.old, List.pairwise_append.2 ⟨pairwise_sel (fun a b => Dj.symm) p1 hn, p2, fun a ha b hb => p3 a (hmem a ha) b hb⟩, fun h hh => s.each h ?_⟩
  rcases List.mem_append.1 hh with h1 | h1
  · exact List.mem_append_left _ (hmem h h1)
  · exact List.mem_append_right _ h1

/-! ### Which piece stands where: found by Lean's own search over the list -/
class FrK {κ : Type} {ρ : κ → Type} (mk : (k : κ) → ρ k → List Hp) (k : κ) (A : List Hp) (r : outParam (ρ k)) (F : outParam (List Hp)) : Prop where
  perm : A.Perm (mk k r ++ F)

instance FrK.head {κ : Type} {ρ : κ → Type} (mk : (k : κ) → ρ k → List Hp) (k : κ) (r : ρ k) (F : List Hp) : FrK mk k (mk k r ++ F) r F := ⟨List.Perm.refl _⟩
instance FrK.next {κ : Type} {ρ : κ → Type} (mk : (k : κ) → ρ k → List Hp) (k : κ) (X A : List Hp) (r : ρ k) (F : List Hp) [h : FrK mk k A r F] : FrK mk k (X ++ A) r (X ++ F) :=
  ⟨by
    have h1 : (X ++ A).Perm (X ++ (mk k r ++ F)) := List.Perm.append_left X h.perm
    refine h1.trans ?_
    rw [← List.append_assoc, ← List.append_assoc]
    exact List.Perm.append_right F List.perm_append_comm⟩

instance FrK.cons {κ : Type} {ρ : κ → Type} (mk : (k : κ) → ρ k → List Hp) (k : κ) (x : Hp) (A : List Hp) (r : ρ k) (F : List Hp) [h : FrK mk k A r F] : FrK mk k (x :: A) r (x :: F) :=
  ⟨(List.Perm.cons x h.perm).trans (List.perm_middle (a := x) (l₁ := mk k r) (l₂ := F)).symm⟩

theorem Sat.front {κ : Type} {ρ : κ → Type} {mk : (k : κ) → ρ k → List Hp} {k : κ} {W0 w : World} {H : Hp} {A F : List Hp} {r : ρ k} (s : Sat W0 w H A) [h : FrK mk k A r F] : Sat W0 w H (mk k r ++ F) :=
  s.perm h.perm

/-- a piece is found in the list -/
class FrH (h : Hp) (A : List Hp) (F : outParam (List Hp)) : Prop where
  perm : A.Perm (h :: F)
instance (priority := high) FrH.head (h : Hp) (F : List Hp) : FrH h (h :: F) F := ⟨List.Perm.refl _⟩
instance FrH.next (h x : Hp) (A F : List Hp) [e : FrH h A F] : FrH h (x :: A) (x :: F) := ⟨(List.Perm.cons x e.perm).trans (List.Perm.swap h x F)⟩
instance FrH.app (h : Hp) (X A F : List Hp) [e : FrH h A F] : FrH h (X ++ A) (X ++ F) := ⟨(List.Perm.append_left X e.perm).trans List.perm_middle⟩

theorem Sat.pull {W0 w : World} {H h : Hp} {A F : List Hp} (s : Sat W0 w H A) [e : FrH h A F] : Sat W0 w H (h :: F) := s.perm e.perm

/-- a piece of cells is found by its place -/
class HasC (A : List Hp) (a : Addr) (vs : outParam (List Value)) : Prop where
  mem : cellsH a vs ∈ A
instance (priority := high) HasC.head (a : Addr) (vs : List Value) (F : List Hp) : HasC (cellsH a vs :: F) a vs := ⟨List.mem_cons_self ..⟩
instance HasC.next (a : Addr) (vs : List Value) (x : Hp) (F : List Hp) [e : HasC F a vs] : HasC (x :: F) a vs := ⟨List.mem_cons_of_mem _ e.mem⟩
instance HasC.app (a : Addr) (vs : List Value) (X F : List Hp) [e : HasC F a vs] : HasC (X ++ F) a vs := ⟨List.mem_append_right _ e.mem⟩

theorem Sat.cel {W0 w : World} {H : Hp} {A : List Hp} (s : Sat W0 w H A) (b o : Nat) {vs : List Value} [e : HasC A ⟨b, o, none⟩ vs] (i : Nat) {v : Value} (h : vs[i]? = some v) :
    w.cell? ⟨b, o + i, none⟩ = some v ∧ w.frozen? ⟨b, o + i, none⟩ = false := s.cells e.mem h

/-- a group of pieces is found in the list -/
class FrL (L A : List Hp) (F : outParam (List Hp)) : Prop where
  perm : A.Perm (L ++ F)
instance (priority := high) FrL.head (L F : List Hp) : FrL L (L ++ F) F := ⟨List.Perm.refl _⟩
instance FrL.next (L : List Hp) (x : Hp) (A F : List Hp) [e : FrL L A F] : FrL L (x :: A) (x :: F) := ⟨(List.Perm.cons x e.perm).trans List.perm_middle.symm⟩
instance FrL.app (L X A F : List Hp) [e : FrL L A F] : FrL L (X ++ A) (X ++ F) :=
  ⟨by
    refine (List.Perm.append_left X e.perm).trans ?_
    rw [← List.append_assoc, ← List.append_assoc]
    exact List.Perm.append_right F List.perm_append_comm⟩

/-- fewer pieces, in whatever order -/
class Sub (A B : List Hp) : Prop where
  rest : ∃ C, B.Perm (A ++ C)
instance (priority := high) Sub.refl (A : List Hp) : Sub A A := ⟨[], by simp⟩
instance Sub.take (a : Hp) (A B F : List Hp) [e : FrH a B F] [g : Sub A F] : Sub (a :: A) B := ⟨let ⟨C, h⟩ := g.rest; ⟨C, e.perm.trans (List.Perm.cons a h)⟩⟩
instance Sub.takeL (L A B F : List Hp) [e : FrL L B F] [g : Sub A F] : Sub (L ++ A) B := ⟨let ⟨C, h⟩ := g.rest; ⟨C, by rw [List.append_assoc]; exact e.perm.trans (List.Perm.append_left L h)⟩⟩
instance (priority := low) Sub.drop (x : Hp) (A B : List Hp) [g : Sub A B] : Sub A (x :: B) := ⟨let ⟨C, h⟩ := g.rest; ⟨x :: C, (List.Perm.cons x h).trans List.perm_middle.symm⟩⟩
instance (priority := low) Sub.dropL (X A B : List Hp) [g : Sub A B] : Sub A (X ++ B) := ⟨let ⟨C, h⟩ := g.rest; ⟨X ++ C, by
  refine (List.Perm.append_left X h).trans ?_
  rw [← List.append_assoc, ← List.append_assoc]
  exact List.Perm.append_right C List.perm_append_comm⟩⟩

theorem Sat.wk {W0 w : World} {H : Hp} {A B : List Hp} (s : Sat W0 w H B) [e : Sub A B] : Sat W0 w H A :=
  let ⟨C, h⟩ := e.rest
  (s.perm h).sub (List.sublist_append_left A C)

end Go.Proofs.Ytippipfogbgemaa
