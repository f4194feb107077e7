/-
  THE GROUND: heaplets (what a piece of the memory holds, as a function of places) and 'Sat': the world holds the old memory, a part that is only read, and a list of pieces that lie apart. Plain theorems over any program.
  THE GROUND, more: a piece of cells is pulled to the front by its place. Plain theorems over any program.
  SLICES THAT ARE READ: 'Rd E size h v xs': the slice v reads as the list xs in the heaplet h, each element by E in 'size' cells. Plain theorems over any program.
  A LAW's ROW: from 'called with whatever can be read, the function returns true and leaves the old memory' to the given statement; and how the arguments are opened. Plain theorems over any program.
  SLICES THAT ARE OWNED: 'OwnS size v n vs h': the slice v has n elements, whose cells are vs; h is all of its row, up to its capacity. append onto such a slice; cells stored one by one. Plain theorems over any program.
  THE SEAT's GROUND: bytes appended; word.Bytes and the document's; Bytes alike.
  copy onto an owned slice, from cells that are read. Plain theorems over any program.
  RAM: the object (its size, its map of pages, what its log holds), and the contracts of what reads and writes its bytes.
  RAM: its pieces: the map's block, the pages; a byte read, a byte written.
  RAM, the rest: New, Load, Store, Read, Write, Watch.
  RamBeside's plain law: the word of a word's bytes; bytes beside those that were put.
  MAPS OF PAGES, plain laws: an entry put, new or old; the pages without a key's; cells stored one behind the other; bytes in a row. Plain theorems over any program.
  A queue's layout (api.Layout) as it lies.
  RING: areas, powers, descriptors: contracts over 'Sat'.
-/
import Derived.WalkKit
import Derived.ProofKit
import Derived.OpenShut
import Derived.Deep.Draws
import Derived.Deep.LoopGhost
import Derived.Deep.QuietTactic
import Derived.BigQuiet
import Derived.Deep.DeepCutAuto
import Derived.Below
import Derived.ChangeSame
import Derived.Carry
import Derived.Laws.Append
import Derived.Laws.AppendOwn
import Derived.StillTailTactics
import Derived.Deep.RegionLaw
import Derived.Deep.RegionHeldLaw
import Derived.Test.YtiibiamobkhlbaaChecked
import Derived.Laws.MakeOwn
import Derived.Laws.IdiomCopy
import Derived.Deep.RegionHeld3
import Derived.Laws.BitsAllLaws
set_option linter.unusedVariables false
set_option linter.unusedSimpArgs false
namespace Go.Proofs.Ytiibiamobkhlbaa
open Go.RowKit

inductive Loc where
  | cell (b o : Nat)
  | obj (b : Nat)
deriving DecidableEq

def Loc.block : Loc → Nat
  | .cell b _ => b
  | .obj b => b

inductive Cont where
  | val (v : Value) (fr : Bool)
  | obj (o : Obj)

/-- A heaplet: what lies at some places. -/
abbrev Hp := Loc → Option Cont

def lookO (w : World) (b : Nat) : Option Cont :=
  match w.heap[b]? with
  | some (.cells ..) => none
  | some o => some (.obj o)
  | none => none

def look (w : World) : Hp
  | .cell b o => (w.cell? ⟨b, o, none⟩).map fun v => .val v (w.frozen? ⟨b, o, none⟩)
  | .obj b => lookO w b

def Holds (w : World) (h : Hp) : Prop := ∀ l c, h l = some c → look w l = some c
def Dj (h k : Hp) : Prop := ∀ l, h l = none ∨ k l = none
def un (h k : Hp) : Hp := fun l => (h l).or (k l)

theorem Dj.symm {h k : Hp} (d : Dj h k) : Dj k h := fun l => (d l).symm

theorem look_block_eq {w w' : World} {l : Loc} (h : w'.heap[l.block]? = w.heap[l.block]?) : look w' l = look w l := by
  cases l with
  | cell b o => simp only [Loc.block] at h; simp [look, World.cell?, World.frozen?, h]
  | obj b => simp only [Loc.block] at h; simp [look, lookO, h]

theorem look_lt {w : World} {l : Loc} {c : Cont} (h : look w l = some c) : l.block < w.heap.size := by
  rcases Nat.lt_or_ge l.block w.heap.size with hlt | hge
  · exact hlt
  · have hn : w.heap[l.block]? = none := Array.getElem?_eq_none hge
    cases l with
    | cell b o => simp only [Loc.block] at hn; simp [look, World.cell?, hn] at h
    | obj b => simp only [Loc.block] at hn; simp [look, lookO, hn] at h

theorem look_cell {w : World} {b o : Nat} {v : Value} {f : Bool} (h : look w (.cell b o) = some (.val v f)) : w.cell? ⟨b, o, none⟩ = some v ∧ w.frozen? ⟨b, o, none⟩ = f := by
  simp only [look] at h
  cases hc : w.cell? ⟨b, o, none⟩ with
  | none => simp [hc] at h
  | some u => simp [hc] at h; exact ⟨by rw [h.1], h.2⟩

theorem look_cell_mk {w : World} {b o : Nat} {v : Value} {f : Bool} (h : w.cell? ⟨b, o, none⟩ = some v) (hf : w.frozen? ⟨b, o, none⟩ = f) : look w (.cell b o) = some (.val v f) := by
  simp [look, h, hf]

theorem look_obj {w : World} {b : Nat} {o : Obj} (h : look w (.obj b) = some (.obj o)) : w.heap[b]? = some o := by
  simp only [look, lookO] at h
  split at h <;> simp_all

theorem look_obj_map {w : World} {b : Nat} {es : Array MapEntry} {ck : Nat} (h : w.heap[b]? = some (.map es ck)) : look w (.obj b) = some (.obj (.map es ck)) := by
  simp [look, lookO, h]

theorem look_alloc_lt (w : World) (o : Obj) {l : Loc} (h : l.block < w.heap.size) : look (w.alloc o) l = look w l :=
  look_block_eq (Below.heap_alloc w o _ h)

theorem look_setCell_ne (w : World) (b o : Nat) (v : Value) {l : Loc} (h : l ≠ .cell b o) : look (w.setCell ⟨b, o, none⟩ v) l = look w l := by
  cases l with
  | cell b' o' =>
    have hne : (⟨b, o, none⟩ : Addr) ≠ ⟨b', o', none⟩ := by intro e; injection e with e1 e2; exact h (by rw [e1, e2])
    simp only [look, World.cell?_setCell_other _ _ _ _ hne, World.frozen?_setCell]
  | obj b' =>
    by_cases hb : b' = b
    · subst hb
      simp only [look, lookO, World.setCell, Array.getElem?_modify, if_true]
      cases w.heap[b']? with
      | none => rfl
      | some x => cases x <;> rfl
    · exact look_block_eq (Below.heap_setCell w ⟨b, o, none⟩ v b' hb)

theorem look_setCell_eq {w : World} {b o : Nat} {v u : Value} {f : Bool} (h : look w (.cell b o) = some (.val u f)) : look (w.setCell ⟨b, o, none⟩ v) (.cell b o) = some (.val v f) := by
  obtain ⟨h1, h2⟩ := look_cell h
  exact look_cell_mk (World.cell?_setCell_same _ _ _ h1) (by rw [World.frozen?_setCell]; exact h2)

def setO (w : World) (r : Nat) (o : Obj) : World := { w with heap := w.heap.setIfInBounds r o }

theorem look_setO_ne (w : World) (r : Nat) (o : Obj) {l : Loc} (h : l.block ≠ r) : look (setO w r o) l = look w l :=
  look_block_eq (by simp only [setO]; rw [Array.getElem?_setIfInBounds]; rw [if_neg (Ne.symm h)])

theorem Holds.mono {w : World} {h k : Hp} (H : Holds w h) (le : ∀ l c, k l = some c → h l = some c) : Holds w k := fun l c e => H l c (le l c e)

/-- The world holds the old memory 'W0', the part H that is only read (the old memory in it), and the pieces of A, all apart. -/
structure Sat (W0 w : World) (H : Hp) (A : List Hp) : Prop where
  below : Below W0.heap.size W0 w
  ro : Holds w H
  old : ∀ l c, look W0 l = some c → H l = some c
  apart : A.Pairwise Dj
  each : ∀ h ∈ A, Holds w h ∧ Dj h H

section
variable {W0 w w' : World} {H : Hp} {A B F : List Hp}

theorem Sat.start (W : World) : Sat W W (look W) [] := ⟨Below.refl _ _, fun _ _ h => h, fun _ _ h => h, List.Pairwise.nil, by simp⟩

theorem Sat.perm (s : Sat W0 w H A) (p : A.Perm B) : Sat W0 w H B :=
  ⟨s.below, s.ro, s.old, (p.pairwise_iff Dj.symm).1 s.apart, fun h hm => s.each h (p.mem_iff.2 hm)⟩

theorem Sat.sub (s : Sat W0 w H A) (p : B.Sublist A) : Sat W0 w H B :=
  ⟨s.below, s.ro, s.old, s.apart.sublist p, fun h hm => s.each h (p.subset hm)⟩

theorem Sat.tail (s : Sat W0 w H (A ++ F)) : Sat W0 w H F := s.sub (List.sublist_append_right _ _)
theorem Sat.tail1 {h : Hp} (s : Sat W0 w H (h :: F)) : Sat W0 w H F := s.sub (List.sublist_cons_self _ _)

/-- What an owned piece holds lies behind the old memory. -/
theorem Sat.ge (s : Sat W0 w H A) {h : Hp} (hm : h ∈ A) {l : Loc} {c : Cont} (hl : h l = some c) : W0.heap.size ≤ l.block := by
  rcases Nat.lt_or_ge l.block W0.heap.size with hlt | hge
  · exfalso
    have h1 := (s.each h hm).1 l c hl
    have h2 : look W0 l = some c := by rw [← h1]; exact (look_block_eq (s.below.block _ hlt)).symm
    have h3 := s.old l c h2
    rcases (s.each h hm).2 l with e | e
    · rw [hl] at e; cases e
    · rw [h3] at e; cases e
  · exact hge

/-- Nothing but draws. -/
theorem Sat.heq (s : Sat W0 w H A) (hh : w'.heap = w.heap) (h1 : w'.os = w.os) (h2 : w'.tape = w.tape) (h3 : w'.output = w.output) : Sat W0 w' H A := by
  have hl : ∀ l, look w' l = look w l := fun l => look_block_eq (by rw [hh])
  refine ⟨⟨h1.trans s.below.os, h2.trans s.below.tape, h3.trans s.below.output, by rw [hh]; exact s.below.size, fun k hk => by rw [hh]; exact s.below.block k hk⟩,
    fun l c e => by rw [hl]; exact s.ro l c e, s.old, s.apart, fun h hm => ⟨fun l c e => by rw [hl]; exact (s.each h hm).1 l c e, (s.each h hm).2⟩⟩

theorem Sat.drew (s : Sat W0 w H A) : Sat W0 w.drew H A := s.heq rfl rfl rfl rfl
theorem Sat.drewN (s : Sat W0 w H A) (n : Nat) : Sat W0 (w.drewN n) H A := s.heq rfl rfl rfl rfl

/-- The world has grown: what was there is there. -/
theorem Sat.grow (s : Sat W0 w H A) (g : Below w.heap.size w w') : Sat W0 w' H A := by
  have hl : ∀ l c, look w l = some c → look w' l = some c := fun l c e => by rw [← e]; exact look_block_eq (g.block _ (look_lt e))
  exact ⟨s.below.trans (g.mono s.below.size), fun l c e => hl l c (s.ro l c e), s.old, s.apart, fun h hm => ⟨fun l c e => hl l c ((s.each h hm).1 l c e), (s.each h hm).2⟩⟩

/-- .. and a new piece behind it. -/
theorem Sat.growBy (s : Sat W0 w H A) (g : Below w.heap.size w w') {h : Hp} (hh : Holds w' h) (hn : ∀ l c, h l = some c → w.heap.size ≤ l.block) : Sat W0 w' H (h :: A) := by
  have s' := s.grow g
  have hd : ∀ k : Hp, Holds w k → Dj h k := fun k hk l => by
    rcases hc : h l with _ | c
    · exact .inl rfl
    · refine .inr ?_
      rcases hk' : k l with _ | c'
      · rfl
      · have := look_lt (hk l c' hk'); have := hn l c hc; omega
  refine ⟨s'.below, s'.ro, s'.old, List.pairwise_cons.2 ⟨fun k hk => hd k (s.each k hk).1, s.apart⟩, fun k hk => ?_⟩
  rcases List.mem_cons.1 hk with rfl | hk
  · exact ⟨hh, hd H s.ro⟩
  · exact s'.each k hk

/-- A new piece goes to the part that is only read. -/
theorem Sat.freeze {h : Hp} (s : Sat W0 w H (h :: A)) : Sat W0 w (un H h) A := by
  have e := s.each h (List.mem_cons_self ..)
  have ap := List.pairwise_cons.1 s.apart
  refine ⟨s.below, fun l c hl => ?_, fun l c hl => by simp [un, s.old l c hl], ap.2, fun k hk => ⟨(s.each k (List.mem_cons_of_mem _ hk)).1, fun l => ?_⟩⟩
  · rcases hH : H l with _ | c'
    · simp [un, hH] at hl; exact e.1 l c hl
    · simp [un, hH] at hl; exact s.ro l c (by rw [hH, hl])
  · rcases (s.each k (List.mem_cons_of_mem _ hk)).2 l with h1 | h1
    · exact .inl h1
    · rcases ap.1 k hk l with h2 | h2
      · exact .inr (by simp [un, h1, h2])
      · exact .inl h2

/-- A piece turns into another one. -/
theorem Sat.step {h h' : Hp} (s : Sat W0 w H (h :: F)) (hos : w'.os = w.os) (htape : w'.tape = w.tape) (hout : w'.output = w.output) (hsize : w.heap.size ≤ w'.heap.size)
    (hold : ∀ k, k < W0.heap.size → w'.heap[k]? = w.heap[k]?)
    (hrest : ∀ l c, h l = none → look w l = some c → look w' l = some c) (hh : Holds w' h') (hdom : ∀ l c, h' l = some c → h l ≠ none ∨ w.heap.size ≤ l.block) : Sat W0 w' H (h' :: F) := by
  have e := s.each h (List.mem_cons_self ..)
  have ap := List.pairwise_cons.1 s.apart
  have keep : ∀ k : Hp, Dj h k → Holds w k → Holds w' k := fun k d hk l c hl => by
    refine hrest l c ?_ (hk l c hl)
    rcases d l with h1 | h1
    · exact h1
    · rw [hl] at h1; cases h1
  have dj : ∀ k : Hp, Dj h k → Holds w k → Dj h' k := fun k d hk l => by
    rcases hc : h' l with _ | c
    · exact .inl rfl
    · refine .inr ?_
      rcases hdom l c hc with h1 | h1
      · rcases d l with h2 | h2
        · exact absurd h2 h1
        · exact h2
      · rcases hk' : k l with _ | c'
        · rfl
        · have := look_lt (hk l c' hk'); omega
  refine ⟨⟨hos.trans s.below.os, htape.trans s.below.tape, hout.trans s.below.output, Nat.le_trans s.below.size hsize, fun k hk => (hold k hk).trans (s.below.block k hk)⟩,
    keep H e.2 s.ro, s.old, List.pairwise_cons.2 ⟨fun k hk => dj k (ap.1 k hk) (s.each k (List.mem_cons_of_mem _ hk)).1, ap.2⟩, fun k hk => ?_⟩
  rcases List.mem_cons.1 hk with rfl | hk
  · exact ⟨hh, dj H e.2 s.ro⟩
  · exact ⟨keep k (ap.1 k hk) (s.each k (List.mem_cons_of_mem _ hk)).1, (s.each k (List.mem_cons_of_mem _ hk)).2⟩

/-- Two pieces in one. -/
theorem Sat.merge {h k : Hp} (s : Sat W0 w H (h :: k :: F)) : Sat W0 w H (un h k :: F) := by
  have e1 := s.each h (List.mem_cons_self ..)
  have e2 := s.each k (List.mem_cons_of_mem _ (List.mem_cons_self ..))
  obtain ⟨p1, p2⟩ := List.pairwise_cons.1 s.apart
  obtain ⟨p3, p4⟩ := List.pairwise_cons.1 p2
  have dj : ∀ g : Hp, Dj h g → Dj k g → Dj (un h k) g := fun g d1 d2 l => by
    rcases d1 l with h1 | h1
    · rcases d2 l with h2 | h2
      · exact .inl (by simp [un, h1, h2])
      · exact .inr h2
    · exact .inr h1
  refine ⟨s.below, s.ro, s.old, List.pairwise_cons.2 ⟨fun g hg => dj g (p1 g (List.mem_cons_of_mem _ hg)) (p3 g hg), p4⟩, fun g hg => ?_⟩
  rcases List.mem_cons.1 hg with rfl | hg
  · refine ⟨fun l c hl => ?_, dj H e1.2 e2.2⟩
    rcases hh : h l with _ | c'
    · simp [un, hh] at hl; exact e2.1 l c hl
    · simp [un, hh] at hl; exact e1.1 l c (by rw [hh, hl])
  · exact s.each g (List.mem_cons_of_mem _ (List.mem_cons_of_mem _ hg))

/-- One cell of a piece turns. -/
def upH (h : Hp) (b o : Nat) (v : Value) : Hp := fun l => if l = .cell b o then some (.val v false) else h l

theorem Sat.set {h : Hp} (s : Sat W0 w H (h :: F)) {b o : Nat} {u : Value} (hc : h (.cell b o) = some (.val u false)) (v : Value) : Sat W0 (w.setCell ⟨b, o, none⟩ v) H (upH h b o v :: F) := by
  have e := s.each h (List.mem_cons_self ..)
  have hge := s.ge (List.mem_cons_self ..) hc
  refine s.step rfl rfl rfl (by simp [World.setCell]) (fun k hk => Below.heap_setCell _ _ _ _ (by simp only [Loc.block] at hge; show k ≠ b; omega)) (fun l c hn hl => ?_) (fun l c hl => ?_) (fun l c hl => ?_)
  · rw [look_setCell_ne _ _ _ _ (by rintro rfl; rw [hc] at hn; cases hn)]; exact hl
  · by_cases hlb : l = .cell b o
    · subst hlb
      simp [upH] at hl
      subst hl
      exact look_setCell_eq (e.1 _ _ hc)
    · simp [upH, hlb] at hl
      rw [look_setCell_ne _ _ _ _ hlb]; exact e.1 _ _ hl
  · left
    by_cases hlb : l = .cell b o
    · subst hlb; rw [hc]; simp
    · simp [upH, hlb] at hl; rw [hl]; simp

theorem Sat.setO {h h' : Hp} (s : Sat W0 w H (h :: F)) {r : Nat} {o o' : Obj} (hc : h = fun l => if l = .obj r then some (.obj o) else none) (hno : ∀ c t f, o' ≠ .cells c t f)
    (hc' : h' = fun l => if l = .obj r then some (.obj o') else none) : Sat W0 (setO w r o') H (h' :: F) := by
  have e := s.each h (List.mem_cons_self ..)
  have hr : h (.obj r) = some (.obj o) := by simp [hc]
  have hge := s.ge (List.mem_cons_self ..) hr
  have hlk := e.1 _ _ hr
  have hlt := look_lt hlk
  simp only [Loc.block] at hge hlt
  have hnc : ∀ i, look w (.cell r i) = none := fun i => by
    have := look_obj hlk
    simp only [look, World.cell?, this]
    cases o <;> first | rfl | (simp [look, lookO, this] at hlk)
  refine s.step rfl rfl rfl (by simp [Go.Proofs.Ytiibiamobkhlbaa.setO]) (fun k hk => by simp only [Go.Proofs.Ytiibiamobkhlbaa.setO]; rw [Array.getElem?_setIfInBounds, if_neg (by omega)]) (fun l c hn hl => ?_) (fun l c hl => ?_) (fun l c hl => ?_)
  · rw [look_setO_ne _ _ _ ?_]
    · exact hl
    · intro hb
      cases l with
      | cell b i => simp only [Loc.block] at hb; subst hb; rw [hnc] at hl; cases hl
      | obj b => simp only [Loc.block] at hb; subst hb; rw [hr] at hn; cases hn
  · rw [hc'] at hl
    by_cases hlb : l = .obj r
    · subst hlb
      simp at hl
      subst hl
      have : (Go.Proofs.Ytiibiamobkhlbaa.setO w r o').heap[r]? = some o' := by simp [Go.Proofs.Ytiibiamobkhlbaa.setO, hlt]
      simp only [look, lookO, this]
      all_goals (cases o' <;> first | rfl | exact absurd rfl (hno _ _ _))
    · simp only [if_neg hlb] at hl; cases hl
  · left
    rw [hc'] at hl
    by_cases hlb : l = .obj r
    · subst hlb; rw [hr]; simp
    · simp [hlb] at hl
end

/-! ### Cells in a row -/

/-- The cells vs, one behind the other, from a place on; none frozen. -/
def cellsH (a : Addr) (vs : List Value) : Hp
  | .cell b o => if b = a.block ∧ a.off ≤ o then (vs[o - a.off]?).map fun v => .val v false else none
  | .obj _ => none

def objH (b : Nat) (o : Obj) : Hp := fun l => if l = .obj b then some (.obj o) else none

theorem cellsH_at {a : Addr} {vs : List Value} {i : Nat} {v : Value} (h : vs[i]? = some v) : cellsH a vs (.cell a.block (a.off + i)) = some (.val v false) := by
  simp [cellsH, h]

theorem upH_cellsH {a : Addr} {vs : List Value} {i : Nat} (v : Value) (h : i < vs.length) : upH (cellsH a vs) a.block (a.off + i) v = cellsH a (vs.set i v) := by
  funext l
  cases l with
  | obj b => simp [upH, cellsH]
  | cell b o =>
    by_cases hb : b = a.block ∧ o = a.off + i
    · obtain ⟨rfl, rfl⟩ := hb
      simp [upH, cellsH, h]
    · have hne : ¬ (Loc.cell b o = Loc.cell a.block (a.off + i)) := by intro e; injection e with e1 e2; exact hb ⟨e1, e2⟩
      simp only [upH, if_neg hne, cellsH]
      by_cases hc : b = a.block ∧ a.off ≤ o
      · rw [if_pos hc, if_pos hc, List.getElem?_set_ne]
        intro e; exact hb ⟨hc.1, by omega⟩
      · rw [if_neg hc, if_neg hc]

section
variable {W0 w w' : World} {H : Hp} {A B F : List Hp}

/-- What the world says of the cells of a piece. -/
theorem Sat.cells {a : Addr} {vs : List Value} (s : Sat W0 w H A) (hm : cellsH a vs ∈ A) {i : Nat} {v : Value} (h : vs[i]? = some v) :
    w.cell? ⟨a.block, a.off + i, none⟩ = some v ∧ w.frozen? ⟨a.block, a.off + i, none⟩ = false :=
  look_cell ((s.each _ hm).1 _ _ (cellsH_at h))

theorem Sat.obj {b : Nat} {o : Obj} (s : Sat W0 w H A) (hm : objH b o ∈ A) : w.heap[b]? = some o :=
  look_obj ((s.each _ hm).1 (.obj b) (.obj o) (by simp [objH]))

theorem Sat.alloc {c : List Value} {t : TypeId} (s : Sat W0 w H A) : Sat W0 (w.alloc (.cells c.toArray t)) H (cellsH ⟨w.heap.size, 0, none⟩ c :: A) :=
  s.growBy ((Below.refl _ _).alloc (Nat.le_refl _) _) (fun l k hl => by
    cases l with
    | obj b => simp [cellsH] at hl
    | cell b o =>
      simp only [cellsH] at hl
      by_cases hb : b = w.heap.size ∧ 0 ≤ o
      · rw [if_pos hb] at hl
        obtain ⟨rfl, _⟩ := hb
        simp only [Nat.sub_zero] at hl
        rcases hc : c[o]? with _ | v
        · simp [hc] at hl
        · simp [hc] at hl
          subst hl
          exact look_cell_mk (by simp [hc]) (by simp)
      · rw [if_neg hb] at hl; cases hl) (fun l k hl => by
    cases l with
    | obj b => simp [cellsH] at hl
    | cell b o =>
      simp only [cellsH] at hl
      by_cases hb : b = w.heap.size ∧ 0 ≤ o
      · simp [Loc.block, hb.1]
      · rw [if_neg hb] at hl; cases hl)

theorem Sat.allocO {o : Obj} (s : Sat W0 w H A) (hno : ∀ c t f, o ≠ .cells c t f) : Sat W0 (w.alloc o) H (objH w.heap.size o :: A) :=
  s.growBy ((Below.refl _ _).alloc (Nat.le_refl _) _) (fun l k hl => by
    by_cases hb : l = .obj w.heap.size
    · subst hb
      simp [objH] at hl
      subst hl
      have : (w.alloc o).heap[w.heap.size]? = some o := by show (w.heap.push o)[w.heap.size]? = some o; simp
      simp only [look, lookO, this]
      all_goals (cases o <;> first | rfl | exact absurd rfl (hno _ _ _))
    · simp only [objH, if_neg hb] at hl; cases hl) (fun l k hl => by
    by_cases hb : l = .obj w.heap.size
    · subst hb; simp [Loc.block]
    · simp [objH, hb] at hl)

theorem Sat.setAt {a : Addr} {vs : List Value} (s : Sat W0 w H (cellsH a vs :: F)) {i : Nat} (h : i < vs.length) (v : Value) :
    Sat W0 (w.setCell ⟨a.block, a.off + i, none⟩ v) H (cellsH a (vs.set i v) :: F) := by
  rw [← upH_cellsH v h]
  exact s.set (u := vs[i]) (cellsH_at (by simp [h])) v
end

theorem pairwise_get {α : Type} {R : α → α → Prop} (hs : ∀ a b, R a b → R b a) : ∀ {L : List α}, L.Pairwise R → ∀ (i j : Nat) (a b : α), i ≠ j → L[i]? = some a → L[j]? = some b → R a b
  | [], _, i, j, a, b, _, ha, _ => by simp at ha
  | x :: L, hp, i, j, a, b, hne, ha, hb => by
    obtain ⟨h1, h2⟩ := List.pairwise_cons.1 hp
    cases i with
    | zero =>
      cases j with
      | zero => exact absurd rfl hne
      | succ j =>
        simp at ha hb
        subst ha
        exact h1 b (List.mem_of_getElem? hb)
    | succ i =>
      cases j with
      | zero =>
        simp at ha hb
        subst hb
        exact hs _ _ (h1 a (List.mem_of_getElem? ha))
      | succ j =>
        simp at ha hb
        exact pairwise_get hs h2 i j a b (by omega) ha hb

theorem pairwise_sel {α : Type} {R : α → α → Prop} (hs : ∀ a b, R a b → R b a) {L : List α} (hp : L.Pairwise R) : ∀ {is : List Nat}, is.Nodup → (is.filterMap fun i => L[i]?).Pairwise R
  | [], _ => by simp
  | i :: is, hn => by
    obtain ⟨h1, h2⟩ := List.nodup_cons.1 hn
    have ih := pairwise_sel hs hp h2
    simp only [List.filterMap_cons]
    cases hi : L[i]? with
    | none => exact ih
    | some a =>
      refine List.pairwise_cons.2 ⟨fun b hb => ?_, ih⟩
      obtain ⟨j, hj, hjb⟩ := List.mem_filterMap.1 hb
      exact pairwise_get hs hp i j a b (by rintro rfl; exact h1 hj) hi hjb

/-- Some of the first pieces, in another order. -/
theorem Sat.sel {W0 w : World} {H : Hp} {L F : List Hp} (s : Sat W0 w H (L ++ F)) (is : List Nat) (hn : is.Nodup) : Sat W0 w H ((is.filterMap fun i => L[i]?) ++ F) := by
  have hmem : ∀ h, h ∈ (is.filterMap fun i => L[i]?) → h ∈ L := fun h hh => by
    obtain ⟨j, _, hj⟩ := List.mem_filterMap.1 hh
    exact List.mem_of_getElem? hj
  obtain ⟨p1, p2, p3⟩ := List.pairwise_append.1 s.apart
  refine ⟨s.below, s.ro, s.old, List.pairwise_append.2 ⟨pairwise_sel (fun a b => Dj.symm) p1 hn, p2, fun a ha b hb => p3 a (hmem a ha) b hb⟩, fun h hh => s.each h ?_⟩
  rcases List.mem_append.1 hh with h1 | h1
  · exact List.mem_append_left _ (hmem h h1)
  · exact List.mem_append_right _ h1

/-! ### Which piece stands where: found by Lean's own search over the list -/
class FrK {κ : Type} {ρ : κ → Type} (mk : (k : κ) → ρ k → List Hp) (k : κ) (A : List Hp) (r : outParam (ρ k)) (F : outParam (List Hp)) : Prop where
  perm : A.Perm (mk k r ++ F)

instance FrK.head {κ : Type} {ρ : κ → Type} (mk : (k : κ) → ρ k → List Hp) (k : κ) (r : ρ k) (F : List Hp) : FrK mk k (mk k r ++ F) r F := ⟨List.Perm.refl _⟩
instance FrK.next {κ : Type} {ρ : κ → Type} (mk : (k : κ) → ρ k → List Hp) (k : κ) (X A : List Hp) (r : ρ k) (F : List Hp) [h : FrK mk k A r F] : FrK mk k (X ++ A) r (X ++ F) :=
  ⟨by
    have h1 : (X ++ A).Perm (X ++ (mk k r ++ F)) := List.Perm.append_left X h.perm
    refine h1.trans ?_
    rw [← List.append_assoc, ← List.append_assoc]
    exact List.Perm.append_right F List.perm_append_comm⟩

instance FrK.cons {κ : Type} {ρ : κ → Type} (mk : (k : κ) → ρ k → List Hp) (k : κ) (x : Hp) (A : List Hp) (r : ρ k) (F : List Hp) [h : FrK mk k A r F] : FrK mk k (x :: A) r (x :: F) :=
  ⟨(List.Perm.cons x h.perm).trans (List.perm_middle (a := x) (l₁ := mk k r) (l₂ := F)).symm⟩

theorem Sat.front {κ : Type} {ρ : κ → Type} {mk : (k : κ) → ρ k → List Hp} {k : κ} {W0 w : World} {H : Hp} {A F : List Hp} {r : ρ k} (s : Sat W0 w H A) [h : FrK mk k A r F] : Sat W0 w H (mk k r ++ F) :=
  s.perm h.perm

/-- a piece is found in the list -/
class FrH (h : Hp) (A : List Hp) (F : outParam (List Hp)) : Prop where
  perm : A.Perm (h :: F)
instance (priority := high) FrH.head (h : Hp) (F : List Hp) : FrH h (h :: F) F := ⟨List.Perm.refl _⟩
instance FrH.next (h x : Hp) (A F : List Hp) [e : FrH h A F] : FrH h (x :: A) (x :: F) := ⟨(List.Perm.cons x e.perm).trans (List.Perm.swap h x F)⟩
instance FrH.app (h : Hp) (X A F : List Hp) [e : FrH h A F] : FrH h (X ++ A) (X ++ F) := ⟨(List.Perm.append_left X e.perm).trans List.perm_middle⟩

theorem Sat.pull {W0 w : World} {H h : Hp} {A F : List Hp} (s : Sat W0 w H A) [e : FrH h A F] : Sat W0 w H (h :: F) := s.perm e.perm

/-- a piece of cells is found by its place -/
class HasC (A : List Hp) (a : Addr) (vs : outParam (List Value)) : Prop where
  mem : cellsH a vs ∈ A
instance (priority := high) HasC.head (a : Addr) (vs : List Value) (F : List Hp) : HasC (cellsH a vs :: F) a vs := ⟨List.mem_cons_self ..⟩
instance HasC.next (a : Addr) (vs : List Value) (x : Hp) (F : List Hp) [e : HasC F a vs] : HasC (x :: F) a vs := ⟨List.mem_cons_of_mem _ e.mem⟩
instance HasC.app (a : Addr) (vs : List Value) (X F : List Hp) [e : HasC F a vs] : HasC (X ++ F) a vs := ⟨List.mem_append_right _ e.mem⟩

theorem Sat.cel {W0 w : World} {H : Hp} {A : List Hp} (s : Sat W0 w H A) (b o : Nat) {vs : List Value} [e : HasC A ⟨b, o, none⟩ vs] (i : Nat) {v : Value} (h : vs[i]? = some v) :
    w.cell? ⟨b, o + i, none⟩ = some v ∧ w.frozen? ⟨b, o + i, none⟩ = false := s.cells e.mem h

/-- a group of pieces is found in the list -/
class FrL (L A : List Hp) (F : outParam (List Hp)) : Prop where
  perm : A.Perm (L ++ F)
instance (priority := high) FrL.head (L F : List Hp) : FrL L (L ++ F) F := ⟨List.Perm.refl _⟩
instance FrL.next (L : List Hp) (x : Hp) (A F : List Hp) [e : FrL L A F] : FrL L (x :: A) (x :: F) := ⟨(List.Perm.cons x e.perm).trans List.perm_middle.symm⟩
instance FrL.app (L X A F : List Hp) [e : FrL L A F] : FrL L (X ++ A) (X ++ F) :=
  ⟨by
    refine (List.Perm.append_left X e.perm).trans ?_
    rw [← List.append_assoc, ← List.append_assoc]
    exact List.Perm.append_right F List.perm_append_comm⟩

/-- fewer pieces, in whatever order -/
class Sub (A B : List Hp) : Prop where
  rest : ∃ C, B.Perm (A ++ C)
instance (priority := high) Sub.refl (A : List Hp) : Sub A A := ⟨[], by simp⟩
instance Sub.take (a : Hp) (A B F : List Hp) [e : FrH a B F] [g : Sub A F] : Sub (a :: A) B := ⟨let ⟨C, h⟩ := g.rest; ⟨C, e.perm.trans (List.Perm.cons a h)⟩⟩
instance Sub.takeL (L A B F : List Hp) [e : FrL L B F] [g : Sub A F] : Sub (L ++ A) B := ⟨let ⟨C, h⟩ := g.rest; ⟨C, by rw [List.append_assoc]; exact e.perm.trans (List.Perm.append_left L h)⟩⟩
instance (priority := low) Sub.drop (x : Hp) (A B : List Hp) [g : Sub A B] : Sub A (x :: B) := ⟨let ⟨C, h⟩ := g.rest; ⟨x :: C, (List.Perm.cons x h).trans List.perm_middle.symm⟩⟩
instance (priority := low) Sub.dropL (X A B : List Hp) [g : Sub A B] : Sub A (X ++ B) := ⟨let ⟨C, h⟩ := g.rest; ⟨X ++ C, by
  refine (List.Perm.append_left X h).trans ?_
  rw [← List.append_assoc, ← List.append_assoc]
  exact List.Perm.append_right C List.perm_append_comm⟩⟩

theorem Sat.wk {W0 w : World} {H : Hp} {A B : List Hp} (s : Sat W0 w H B) [e : Sub A B] : Sat W0 w H A :=
  let ⟨C, h⟩ := e.rest
  (s.perm h).sub (List.sublist_append_left A C)

end Go.Proofs.Ytiibiamobkhlbaa

namespace Go.Proofs.Ytiibiamobkhlbaa
open Go.RowKit

class FrC (A : List Hp) (a : Addr) (vs : outParam (List Value)) (F : outParam (List Hp)) : Prop where
  perm : A.Perm (cellsH a vs :: F)
instance (priority := high) FrC.head (a : Addr) (vs : List Value) (F : List Hp) : FrC (cellsH a vs :: F) a vs F := ⟨List.Perm.refl _⟩
instance FrC.next (a : Addr) (vs : List Value) (x : Hp) (A F : List Hp) [e : FrC A a vs F] : FrC (x :: A) a vs (x :: F) := ⟨(List.Perm.cons x e.perm).trans (List.Perm.swap _ x F)⟩
instance FrC.app (a : Addr) (vs : List Value) (X A F : List Hp) [e : FrC A a vs F] : FrC (X ++ A) a vs (X ++ F) := ⟨(List.Perm.append_left X e.perm).trans List.perm_middle⟩

theorem Sat.pc {W0 w : World} {H : Hp} {A : List Hp} (s : Sat W0 w H A) (b o : Nat) {vs : List Value} {F : List Hp} [e : FrC A ⟨b, o, none⟩ vs F] : Sat W0 w H (cellsH ⟨b, o, none⟩ vs :: F) := s.perm e.perm

/-- what the world says of the cells of a piece, wherever it stands -/
theorem Sat.cof {W0 w : World} {H : Hp} {A : List Hp} (s : Sat W0 w H A) (b o : Nat) {vs : List Value} [e : HasC A ⟨b, o, none⟩ vs] (i n : Nat) {v : Value} (hn : o + i = n) (h : vs[i]? = some v) :
    w.cell? ⟨b, n, none⟩ = some v ∧ w.frozen? ⟨b, n, none⟩ = false := hn ▸ s.cel b o i h
end Go.Proofs.Ytiibiamobkhlbaa

namespace Go.Proofs.Ytiibiamobkhlbaa
open Go.RowKit

/-- how an element lies in its cells -/
abbrev El (α : Type) := Hp → α → List Value → Prop

def u8E : El Int := fun _ x vs => vs = [.int .u8 x] ∧ 0 ≤ x ∧ x ≤ 255
def intE : El Int := fun _ x vs => vs = [.int .i64 x] ∧ -9223372036854775808 ≤ x ∧ x ≤ 9223372036854775807
def u64E : El Int := fun _ x vs => vs = [.int .u64 x] ∧ 0 ≤ x ∧ x ≤ 18446744073709551615
def u16E : El Int := fun _ x vs => vs = [.int .u16 x] ∧ 0 ≤ x ∧ x ≤ 65535

def u32E : El Int := fun _ x vs => vs = [.int .u32 x] ∧ 0 ≤ x ∧ x ≤ 4294967295

def Rd {α : Type} (E : El α) (size : Nat) (h : Hp) (v : Value) (xs : List α) : Prop :=
  ∃ A c, v = .slice A xs.length c ∧ xs.length ≤ c ∧ c ≤ 9223372036854775807 ∧ ∀ i x, xs[i]? = some x → ∃ b o vs, A = some ⟨b, o, none⟩ ∧ E h x vs ∧ vs.length = size ∧
    ∀ j u, vs[j]? = some u → ∃ fr, h (.cell b (o + i * size + j)) = some (.val u fr)

section
variable {α : Type} {E : El α} {size : Nat} {h k : Hp} {v : Value} {xs : List α} {w : World}

/-- a relation that holds in more memory too -/
def ElMono (E : El α) : Prop := ∀ h k x vs, (∀ l c, h l = some c → k l = some c) → E h x vs → E k x vs

theorem Rd.mono (hE : ElMono E) (r : Rd E size h v xs) (le : ∀ l c, h l = some c → k l = some c) : Rd E size k v xs := by
  obtain ⟨A, c, hv, hc, hc2, hat⟩ := r
  refine ⟨A, c, hv, hc, hc2, fun i x hx => ?_⟩
  obtain ⟨b, o, vs, hA, he, hl, hcell⟩ := hat i x hx
  exact ⟨b, o, vs, hA, hE _ _ _ _ le he, hl, fun j u hu => (hcell j u hu).imp fun fr hf => le _ _ hf⟩

theorem Rd.nil : Rd E size h (.slice none 0 0) ([] : List α) := ⟨none, 0, rfl, by simp, by simp, fun i x hx => by simp at hx⟩

theorem u8E_mono : ElMono u8E := fun _ _ _ _ _ e => e
theorem intE_mono : ElMono intE := fun _ _ _ _ _ e => e
theorem u64E_mono : ElMono u64E := fun _ _ _ _ _ e => e
theorem u16E_mono : ElMono u16E := fun _ _ _ _ _ e => e

/-- bytes: at a place -/
theorem Rd.u8 {A : Option Addr} {n c : Nat} {xs : List Int} (r : Rd u8E 1 h (.slice A n c) xs) : n = xs.length ∧ n ≤ c ∧ c ≤ 9223372036854775807 ∧
    ∀ i (hi : i < xs.length), ∃ b o, A = some ⟨b, o, none⟩ ∧ (∃ fr, h (.cell b (o + i)) = some (.val (.int .u8 xs[i]) fr)) ∧ 0 ≤ xs[i] ∧ xs[i] ≤ 255 := by
  obtain ⟨A', c', hv, hc, hc2, hat⟩ := r
  injection hv with e1 e2 e3
  subst e1 e2 e3
  refine ⟨rfl, hc, hc2, fun i hi => ?_⟩
  obtain ⟨b, o, vs, hA, ⟨rfl, h0, h1⟩, _, hcell⟩ := hat i xs[i] (by simp [hi])
  exact ⟨b, o, hA, by simpa using hcell 0 _ rfl, h0, h1⟩
end

theorem Holds.cell {w : World} {h : Hp} (H : Holds w h) {b o : Nat} {v : Value} (e : ∃ fr, h (.cell b o) = some (.val v fr)) : w.cell? ⟨b, o, none⟩ = some v :=
  let ⟨_, hf⟩ := e
  (look_cell (H _ _ hf)).1

/-- the row of a slice: a letter for the value -/
theorem Rd.open_ {α : Type} {E : El α} {size : Nat} {h : Hp} {v : Value} {xs : List α} (r : Rd E size h v xs) : ∃ A c, v = .slice A xs.length c ∧ Rd E size h (.slice A xs.length c) xs := by
  obtain ⟨A, c, rfl, r'⟩ := r
  exact ⟨A, c, rfl, ⟨A, c, rfl, r'⟩⟩

theorem aside {p : Prop} (h : p) : Aside p := h
theorem ret_b {R : Ending → World → Prop} {w : World} {p q : Bool} (k : R (.returned (.bool p)) w) (h : p = q) : R (.returned (.bool q)) w := h ▸ k
theorem ret_cast {R : Ending → World → Prop} {w w' : World} {v v' : Value} (k : R (.returned v) w) (hv : v = v') (hw : w = w') : R (.returned v') w' := hv ▸ hw ▸ k
theorem wrap_u64 (n : Int) : IntKind.u64.wrap n = n % 18446744073709551616 := by simp [IntKind.wrap, IntKind.bits, IntKind.signed]
theorem wrap_u32 (n : Int) : IntKind.u32.wrap n = n % 4294967296 := by simp [IntKind.wrap, IntKind.bits, IntKind.signed]
theorem wrap_u16 (n : Int) : IntKind.u16.wrap n = n % 65536 := by simp [IntKind.wrap, IntKind.bits, IntKind.signed]
theorem wrap_u8 (n : Int) : IntKind.u8.wrap n = n % 256 := by simp [IntKind.wrap, IntKind.bits, IntKind.signed]
theorem ret_v {R : Ending → World → Prop} {w : World} {p q : Value} (k : R (.returned p) w) (h : p = q) : R (.returned q) w := h ▸ k

end Go.Proofs.Ytiibiamobkhlbaa

namespace Go.Proofs.Ytiibiamobkhlbaa
open Go.RowKit Go.WideShapes Go.ChangeShapes Go.ChangeAt

theorem len1 {α : Type} {cs : List α} (h : cs.length = 1) : ∃ a, cs = [a] := by
  match cs, h with
  | [a], _ => exact ⟨a, rfl⟩
theorem len2 {α : Type} {cs : List α} (h : cs.length = 2) : ∃ a b, cs = [a, b] := by
  cases cs with
  | nil => simp at h
  | cons a t => obtain ⟨b, rfl⟩ := len1 (cs := t) (by simpa using h); exact ⟨a, b, rfl⟩
theorem len3 {α : Type} {cs : List α} (h : cs.length = 3) : ∃ a b c, cs = [a, b, c] := by
  cases cs with
  | nil => simp at h
  | cons a t => obtain ⟨b, c, rfl⟩ := len2 (cs := t) (by simpa using h); exact ⟨a, b, c, rfl⟩
theorem len4 {α : Type} {cs : List α} (h : cs.length = 4) : ∃ a b c d, cs = [a, b, c, d] := by
  cases cs with
  | nil => simp at h
  | cons a t => obtain ⟨b, c, d, rfl⟩ := len3 (cs := t) (by simpa using h); exact ⟨a, b, c, d, rfl⟩
theorem len5 {α : Type} {cs : List α} (h : cs.length = 5) : ∃ a b c d e, cs = [a, b, c, d, e] := by
  cases cs with
  | nil => simp at h
  | cons a t => obtain ⟨b, c, d, e, rfl⟩ := len4 (cs := t) (by simpa using h); exact ⟨a, b, c, d, e, rfl⟩
theorem len6 {α : Type} {cs : List α} (h : cs.length = 6) : ∃ a b c d e f, cs = [a, b, c, d, e, f] := by
  cases cs with
  | nil => simp at h
  | cons a t => obtain ⟨b, c, d, e, f, rfl⟩ := len5 (cs := t) (by simpa using h); exact ⟨a, b, c, d, e, f, rfl⟩
theorem len7 {α : Type} {cs : List α} (h : cs.length = 7) : ∃ a b c d e f g, cs = [a, b, c, d, e, f, g] := by
  cases cs with
  | nil => simp at h
  | cons a t => obtain ⟨b, c, d, e, f, g, rfl⟩ := len6 (cs := t) (by simpa using h); exact ⟨a, b, c, d, e, f, g, rfl⟩
theorem len8 {α : Type} {cs : List α} (h : cs.length = 8) : ∃ a b c d e f g i, cs = [a, b, c, d, e, f, g, i] := by
  cases cs with
  | nil => simp at h
  | cons a t => obtain ⟨b, c, d, e, f, g, i, rfl⟩ := len7 (cs := t) (by simpa using h); exact ⟨a, b, c, d, e, f, g, i, rfl⟩

section
variable {H : Type} {enc : TypeId × Value → H} {P : Program}

theorem post_of_below {f : Func} {s : ChangeSpec} {apart fresh handsOn again : Bool} {W W' : World} {args : Array Value} {v : Value} {ds gs : List (DataW H)} {before pa pv : List MemPlace}
    (hW : DataW.Whole enc P f.params.toList s.vars apart W args.toList ds gs before)
    (hres : ∀ (b : Nat) (sp : Nat → Bool) (hd : Bool), DataW.TrodAll enc P W' b sp hd f.resultTypes.toList (v.resultList f.resultTypes.size) (s.fn H (ds ++ gs)).results [])
    (hargs : ∀ sp : Nat → Bool, (∀ p ∈ before, sp p.block = true) → DataW.TrodAll enc P W' 0 sp true f.params.toList args.toList (s.fn H (ds ++ gs)).args pa)
    (hvars : ∀ sp : Nat → Bool, (∀ p ∈ before, sp p.block = true) → DataW.TrodVars enc P W' sp s.vars (s.fn H (ds ++ gs)).vars pv)
    (hps : before = pa ++ pv) (hb : Below W.heap.size W W')
    (hok : ∀ (j : Nat) (t : TypeId) (r : Value), f.resultTypes[j]? = some t → (v.resultList f.resultTypes.size)[j]? = some r → Value.okWide P W' .any 0 t r) :
    s.post enc P f apart fresh handsOn again W args v W' := by
  have hlt : ∀ p ∈ before, p.block < W.heap.size := fun p hp => hW.lt p hp
  have hold : ∀ p ∈ before, (fun b => decide (b < W.heap.size)) p.block = true := fun p hp => by simpa using hlt p hp
  refine ⟨ds, gs, before, [], pa, pv, hW, hres _ _ _, hargs _ hold, hvars _ hold, World.keptBut_mono (fun p hp => ⟨hp, ?_⟩) (hb.frame (· ∈ before)), fun _ => ?_⟩
  · rw [hps, List.mem_append] at hp
    exact Or.inr hp
  · obtain ⟨_, _, _, _, _, hz, hn⟩ := hW
    refine ⟨hok, _, _, ([] ++ pa) ++ pv, ⟨[] ++ pa, pv, trodAll_append (hargs _ (fun _ _ => rfl)) (hres _ _ _), hvars _ (fun _ _ => rfl), rfl, ?_, ?_⟩, ?_⟩
    · intro b off hp
      have hin : MemPlace.cell b off ∈ before := by rw [hps]; simpa using hp
      rw [hb.frozen (hlt _ hin)]
      exact hz b off hin
    · intro ha
      have := hn ha
      rw [hps] at this
      simpa using this
    · intro p hp _
      rw [hps]
      simpa using hp

theorem trodAll_below (hl : laidOutB P = true) {W W' : World} (hb : Below W.heap.size W W') {sp : Nat → Bool} : ∀ {ts : List TypeId} {vs : List Value} {ds : List (DataW H)} {ps : List MemPlace},
    (∀ t ∈ ts, P.readableRec t = true ∧ t < P.types.size) → DataW.TrodAll enc P W 0 (fun _ => true) true ts vs ds ps → (∀ p ∈ ps, p.block < W.heap.size) → (∀ p ∈ ps, sp p.block = true) →
    DataW.TrodAll enc P W' 0 sp true ts vs ds ps
  | [], [], [], _, _, h, _, _ => h
  | t :: ts, v :: vs, d :: ds, ps, hts, ⟨p, q, h1, h2, e⟩, hlt, hs => by
    subst e
    have ht := hts t (List.mem_cons_self ..)
    exact ⟨p, q, WideElems.Trod_stays hl ht.1 ht.2 h1 (fun x hx => hb.same (hlt x (List.mem_append_left _ hx))) (fun x hx => hs x (List.mem_append_left _ hx)),
      trodAll_below hl hb (fun t ht => hts t (List.mem_cons_of_mem _ ht)) h2 (fun x hx => hlt x (List.mem_append_right _ hx)) (fun x hx => hs x (List.mem_append_right _ hx)), rfl⟩
  | [], _ :: _, _, _, _, h, _, _ => h.elim
  | [], [], _ :: _, _, _, h, _, _ => h.elim
  | _ :: _, [], _, _, _, h, _, _ => h.elim
  | _ :: _, _ :: _, [], _, _, h, _, _ => h.elim

/-- a law's post: it has returned true, the old memory is as it was -/
theorem law_post {f : Func} {s : ChangeSpec} {tb : TypeId} {W W' : World} {args : Array Value} {ds gs : List (DataW H)} {before : List MemPlace}
    (hW : DataW.Whole enc P f.params.toList s.vars false W args.toList ds gs before) (hv : s.vars = []) (hr : f.resultTypes = #[tb]) (hb : P.underlying tb = some .bool)
    (hs : s.fn H (ds ++ gs) = { results := [.lit (.bool true)], args := ds }) (hl : laidOutB P = true) (hread : ∀ t ∈ f.params.toList, P.readableRec t = true ∧ t < P.types.size)
    (hg : Below W.heap.size W W') : s.post enc P f false true false false W args (.bool true) W' := by
  have hlt : ∀ p ∈ before, p.block < W.heap.size := fun p hp => hW.lt p hp
  obtain ⟨p, q, hA, hV, e, hz, hn⟩ := id hW
  rw [hv] at hV
  cases gs with
  | cons g gs => exact hV.elim
  | nil =>
    obtain rfl : q = [] := hV
    rw [List.append_nil] at e
    subst e
    refine post_of_below (pa := before) (pv := []) hW ?_ ?_ ?_ (by simp) hg ?_
    · intro b sp hd
      rw [hs, hr]
      exact trodAll_cons_mk (shut_bool hb _) trodAll_mk0
    · intro sp hsp
      rw [hs]
      exact trodAll_below hl hg hread hA hlt hsp
    · intro sp hsp
      rw [hs, hv]
      rfl
    · intro j t r hj hrr
      rw [hr] at hj hrr
      match j, hj, hrr with
      | 0, hj, hrr =>
        simp [Value.resultList] at hj hrr
        subst hj; subst hrr
        exact okWide_bool_mk hb _

/-! ### Arguments opened: 'Opn': what can be read at a type stands by an element's relation -/
def Opn (P : Program) (t : TypeId) {α : Type} (E : El α) : Prop :=
  ∀ (H : Type) (enc : TypeId × Value → H) (w : World) (fuel : Nat) (cs : List Value) (d : DataW H) (ps : List MemPlace), DataW.trod enc P w 0 (fun _ => true) true fuel t cs = some (d, ps) → ∃ x, E (look w) x cs

theorem opn_int {t : TypeId} {k : IntKind} (h : P.underlying t = some (.int k)) {E : El Int} (hE : ∀ hp n, (Lit.int k n).wf = true → E hp n [.int k n]) : Opn P t E := by
  intro H enc w fuel cs d ps hd
  cases fuel with
  | zero => simp [DataW.trod] at hd
  | succ fuel =>
    simp only [DataW.trod, h] at hd
    split at hd <;> simp_all
    obtain ⟨⟨rfl, hw⟩, _⟩ := hd
    exact ⟨_, hE _ _ hw⟩

def boolE : El Bool := fun _ b vs => vs = [.bool b]
def strE : El ByteArray := fun _ s vs => vs = [.string s] ∧ s.size ≤ 9223372036854775807

theorem opn_bool {t : TypeId} (h : P.underlying t = some .bool) : Opn P t boolE := by
  intro H enc w fuel cs d ps hd
  cases fuel with
  | zero => simp [DataW.trod] at hd
  | succ fuel =>
    simp only [DataW.trod, h] at hd
    split at hd
    all_goals try (simp_all; done)
    exact ⟨_, rfl⟩

theorem opn_string {t : TypeId} (h : P.underlying t = some .string) : Opn P t strE := by
  intro H enc w fuel cs d ps hd
  cases fuel with
  | zero => simp [DataW.trod] at hd
  | succ fuel =>
    simp only [DataW.trod, h] at hd
    split at hd
    all_goals try (simp_all; done)
    split at hd
    case isFalse => cases hd
    case isTrue hs => exact ⟨_, rfl, by have := hs; unfold maxLen at this; omega⟩

def sliceE {α : Type} (E : El α) (size : Nat) : El (List α) := fun h xs vs => ∃ v, vs = [v] ∧ Rd E size h v xs

theorem mapM_get {α β : Type} {f : α → Option β} : ∀ {l : List α} {r : List β}, l.mapM f = some r → ∀ (i : Nat) (a : α), l[i]? = some a → ∃ b, f a = some b ∧ r[i]? = some b
  | [], _, _, i, a, ha => by simp at ha
  | x :: l, r, h, i, a, ha => by
    rw [List.mapM_cons] at h
    cases hx : f x with
    | none => simp [hx] at h
    | some y =>
      cases hl : l.mapM f with
      | none => simp [hx, hl] at h
      | some ys =>
        simp [hx, hl] at h
        subst h
        cases i with
        | zero => simp at ha; subst ha; exact ⟨y, hx, rfl⟩
        | succ i =>
          simp only [List.getElem?_cons_succ] at ha ⊢
          exact mapM_get hl i a ha

theorem mapM_len {α β : Type} {f : α → Option β} : ∀ {l : List α} {r : List β}, l.mapM f = some r → r.length = l.length
  | [], r, h => by simp at h; subst h; rfl
  | x :: l, r, h => by
    rw [List.mapM_cons] at h
    cases hx : f x with
    | none => simp [hx] at h
    | some y =>
      cases hl : l.mapM f with
      | none => simp [hx, hl] at h
      | some ys =>
        simp [hx, hl] at h
        subst h
        simp [mapM_len hl]

theorem choose_list {α : Type} {n : Nat} {R : Nat → α → Prop} (h : ∀ i, i < n → ∃ x, R i x) : ∃ l : List α, l.length = n ∧ ∀ (i : Nat) (x : α), l[i]? = some x → R i x := by
  induction n with
  | zero => exact ⟨[], rfl, fun i x hx => by simp at hx⟩
  | succ n ih =>
    obtain ⟨l, hl, hr⟩ := ih (fun i hi => h i (by omega))
    obtain ⟨x, hx⟩ := h n (by omega)
    refine ⟨l ++ [x], by simp [hl], fun i y hy => ?_⟩
    by_cases hi : i < n
    · rw [List.getElem?_append_left (by omega)] at hy; exact hr i y hy
    · rw [List.getElem?_append_right (by omega)] at hy
      have : i - l.length = 0 := by
        rcases Nat.eq_zero_or_pos (i - l.length) with h0 | h0
        · exact h0
        · rw [List.getElem?_eq_none (by simp; omega)] at hy; cases hy
      rw [this] at hy
      simp at hy
      subst hy
      obtain rfl : i = n := by omega
      exact hx

theorem cells?_get {w : World} {a : Addr} {n : Nat} {cs : List Value} (h : w.cells? 0 a n = some cs) : cs.length = n ∧ ∀ (j : Nat) (u : Value), cs[j]? = some u → w.cell? (a.add j) = some u := by
  unfold World.cells? at h
  rw [if_pos (Nat.zero_le _)] at h
  refine ⟨by rw [mapM_len h]; simp, fun j u hu => ?_⟩
  have hj : j < n := by
    rcases Nat.lt_or_ge j n with h1 | h1
    · exact h1
    · rw [List.getElem?_eq_none (by rw [mapM_len h]; simpa using h1)] at hu; cases hu
  obtain ⟨b, hb, hr⟩ := mapM_get h j j (by simp [hj])
  rw [hr] at hu
  rw [hb]; exact hu

theorem cell?_spot {w : World} {a : Addr} {v : Value} (h : w.cell? a = some v) : a.spot = none := by
  unfold World.cell? at h
  split at h
  · cases hs : a.spot with
    | none => rfl
    | some x => simp [hs] at h
  · cases h

theorem opn_slice {t e : TypeId} {α : Type} {E : El α} {size : Nat} (h : P.underlying t = some (.slice e)) (hc : P.cellsOf e = size) (hpos : 0 < size) (he : Opn P e E) : Opn P t (sliceE E size) := by
  intro H enc w fuel cs d ps hd
  cases fuel with
  | zero => simp [DataW.trod] at hd
  | succ fuel =>
    simp only [DataW.trod, h] at hd
    split at hd
    all_goals try (simp_all; done)
    · exact ⟨[], _, rfl, Rd.nil⟩
    · rename_i e' a len cap hty
      have hee : e = e' := by simp_all
      subst hee
      rw [hc] at hd
      split at hd
      case isFalse => cases hd
      case isTrue hb =>
      cases hm : ((List.range len).mapM fun i => (w.cells? 0 (a.add (i * size)) size).bind (DataW.trod enc P w 0 (fun _ => true) true fuel e)) with
      | none => simp [hm] at hd
      | some elems =>
        obtain ⟨_, hlc, hcm⟩ := hb
        have hat : ∀ i, i < len → ∃ x, (∃ vs, a.spot = none ∧ E (look w) x vs ∧ vs.length = size ∧ ∀ j u, vs[j]? = some u → ∃ fr, look w (.cell a.block (a.off + i * size + j)) = some (.val u fr)) := by
          intro i hi
          obtain ⟨y, hy, _⟩ := mapM_get hm i i (by simp [hi])
          cases hcs : w.cells? 0 (a.add (i * size)) size with
          | none => simp [hcs] at hy
          | some vs =>
            rw [hcs] at hy
            obtain ⟨x, hx⟩ := he H enc w fuel vs y.1 y.2 hy
            obtain ⟨hl, hg⟩ := cells?_get hcs
            have hsp : a.spot = none := by
              by_cases h0 : i * size = 0
              · have := hg 0 vs[0] (by simp)
                have := cell?_spot this
                simpa [Addr.add, h0] using this
              · -- the element 0 stands there too
                obtain ⟨y0, hy0, _⟩ := mapM_get hm 0 0 (List.getElem?_range (by omega))
                cases hcs0 : w.cells? 0 (a.add (0 * size)) size with
                | none => simp only [hcs0] at hy0; cases hy0
                | some vs0 =>
                  obtain ⟨hl0, hg0⟩ := cells?_get hcs0
                  have := hg0 0 vs0[0] (by simp)
                  have := cell?_spot this
                  simpa [Addr.add] using this
            refine ⟨x, vs, hsp, hx, hl, fun j u hu => ?_⟩
            have hcell := hg j u hu
            have hadd : (a.add (i * size)).add j = ⟨a.block, a.off + i * size + j, none⟩ := by
              cases a with
              | mk b o sp =>
                have hsp' : sp = none := hsp
                subst hsp'
                unfold Addr.add
                by_cases h1 : i * size = 0 <;> by_cases h2 : j = 0 <;> simp [h1, h2]
            rw [hadd] at hcell
            exact ⟨_, look_cell_mk hcell rfl⟩
        obtain ⟨l, hl, hr⟩ := choose_list hat
        refine ⟨l, _, rfl, some a, cap, by rw [hl], by omega, by unfold maxLen at hcm; omega, fun i x hx => ?_⟩
        obtain ⟨vs, hsp, hx', hlen, hcell⟩ := hr i x hx
        refine ⟨a.block, a.off, vs, ?_, hx', hlen, hcell⟩
        cases a with
        | mk b o sp => have hsp' : sp = none := hsp; subst hsp'; rfl

/-- a struct: each field reads where it stands -/
theorem opn_struct {t : TypeId} {fs : Array Field} (h : P.underlying t = some (.struct fs)) {α : Type} {E : El α} 
    (hE : ∀ (H : Type) (enc : TypeId × Value → H) (w : World) (fuel : Nat) (cs : List Value), cs.length = P.cellsOf t →
      (∀ (i : Nat) (f : Field), fs.toList[i]? = some f → ∃ y, DataW.trod enc P w 0 (fun _ => true) true fuel f.type ((cs.drop f.offset).take (P.cellsOf f.type)) = some y) → ∃ x, E (look w) x cs) : Opn P t E := by
  intro H enc w fuel cs d ps hd
  cases fuel with
  | zero => simp [DataW.trod] at hd
  | succ fuel =>
    simp only [DataW.trod, h] at hd
    by_cases hlen : cs.length = P.cellsOf t
    · rw [if_pos hlen] at hd
      cases hm : (fs.toList.mapM fun f => DataW.trod enc P w 0 (fun _ => true) true fuel f.type ((cs.drop f.offset).take (P.cellsOf f.type))) with
      | none => simp [hm] at hd
      | some ys => exact hE H enc w fuel cs hlen fun i f hf => let ⟨b, hb, _⟩ := mapM_get hm i f hf; ⟨b, hb⟩
    · rw [if_neg hlen] at hd; cases hd

theorem Opn.at {t : TypeId} {α : Type} {E : El α} (o : Opn P t E) {H : Type} {enc : TypeId × Value → H} {w : World} {v : Value} {d : DataW H} {ps : List MemPlace} (h : DataW.Trod enc P w 0 (fun _ => true) true t v d ps) :
    ∃ x, E (look w) x v.cells.toList := let ⟨fuel, hf⟩ := h; o H enc w fuel _ d ps hf

theorem okWide_plain {t : TypeId} {d : TypeDesc} {v : Value} {W : World} {r : Reach} {b : Nat} (h : P.underlying t = some d) (h1 : ∀ fs, d ≠ .struct fs) (h2 : ∀ n e, d ≠ .array n e)
    (hval : Value.okWide P W r b t v) : v.cells.toList = [v] := by
  cases v with
  | agg cs =>
    exfalso
    unfold Value.okWide at hval
    rw [h] at hval
    cases d <;> simp_all [Cell.okWide, Cell.ok]
  | _ => rfl

theorem okWide_struct {t : TypeId} {fs : Array Field} {v : Value} {W : World} {r : Reach} {b : Nat} (h : P.underlying t = some (.struct fs)) (hval : Value.okWide P W r b t v) : ∃ cs, v = .agg cs := by
  unfold Value.okWide at hval
  rw [h] at hval
  exact let ⟨cs, hv, _⟩ := hval; ⟨cs, hv⟩

theorem okWide_array {t : TypeId} {n : Nat} {e : TypeId} {v : Value} {W : World} {r : Reach} {b : Nat} (h : P.underlying t = some (.array n e)) (hval : Value.okWide P W r b t v) : ∃ cs, v = .agg cs := by
  unfold Value.okWide at hval
  rw [h] at hval
  exact let ⟨cs, hv, _⟩ := hval; ⟨cs, hv⟩

theorem opn_u8 {t : TypeId} (h : P.underlying t = some (.int .u8)) : Opn P t u8E := opn_int h fun hp n hw => ⟨rfl, by simpa [Lit.wf, IntKind.min, IntKind.max, IntKind.signed, IntKind.bits] using hw⟩
theorem opn_u16 {t : TypeId} (h : P.underlying t = some (.int .u16)) : Opn P t u16E := opn_int h fun hp n hw => ⟨rfl, by simpa [Lit.wf, IntKind.min, IntKind.max, IntKind.signed, IntKind.bits] using hw⟩
theorem opn_u32 {t : TypeId} (h : P.underlying t = some (.int .u32)) : Opn P t u32E := opn_int h fun hp n hw => ⟨rfl, by simpa [Lit.wf, IntKind.min, IntKind.max, IntKind.signed, IntKind.bits] using hw⟩
theorem opn_u64 {t : TypeId} (h : P.underlying t = some (.int .u64)) : Opn P t u64E := opn_int h fun hp n hw => ⟨rfl, by simpa [Lit.wf, IntKind.min, IntKind.max, IntKind.signed, IntKind.bits] using hw⟩
theorem opn_i64 {t : TypeId} (h : P.underlying t = some (.int .i64)) : Opn P t intE := opn_int h fun hp n hw => ⟨rfl, by simpa [Lit.wf, IntKind.min, IntKind.max, IntKind.signed, IntKind.bits] using hw⟩
end
end Go.Proofs.Ytiibiamobkhlbaa

namespace Go.Proofs.Ytiibiamobkhlbaa
open Go.RowKit

def empH : Hp := fun _ => none

def rowH (A : Option Addr) (vs : List Value) : Hp := match A with | some a => cellsH a vs | none => empH

/-- an owned slice: n elements in the cells vs, then spare ones up to the capacity -/
def OwnS (size : Nat) (v : Value) (n : Nat) (vs : List Value) (h : Hp) : Prop :=
  ∃ A cap spare, v = .slice A n cap ∧ n ≤ cap ∧ cap ≤ 9223372036854775807 ∧ vs.length = n * size ∧ spare.length = (cap - n) * size ∧ (0 < cap → ∃ b o, A = some ⟨b, o, none⟩) ∧ h = rowH A (vs ++ spare)

theorem OwnS.nil (size : Nat) : OwnS size (.slice none 0 0) 0 [] empH := ⟨none, 0, [], rfl, Nat.le_refl _, by omega, by simp, by simp, fun h => absurd h (by omega), rfl⟩
theorem cellsH_nil (a : Addr) : cellsH a [] = empH := by
  funext l; cases l <;> simp [cellsH, empH]
theorem OwnS.zero (size : Nat) (A : Option Addr) : OwnS size (.slice A 0 0) 0 [] empH := ⟨A, 0, [], rfl, Nat.le_refl _, by omega, by simp, by simp, fun h => absurd h (by omega), by cases A <;> simp [rowH, cellsH_nil]⟩

section
variable {W0 w w' : World} {H : Hp} {A B F : List Hp}

theorem Sat.emp (s : Sat W0 w H F) : Sat W0 w H (empH :: F) :=
  ⟨s.below, s.ro, s.old, List.pairwise_cons.2 ⟨fun _ _ _ => .inl rfl, s.apart⟩, fun h hm => by
    rcases List.mem_cons.1 hm with rfl | hm
    · exact ⟨fun _ _ e => by simp [empH] at e, fun _ => .inl rfl⟩
    · exact s.each h hm⟩

/-- cells that are read in the world, in a row -/
def RowR (w : World) (a : Option Addr) (us : List Value) : Prop := us ≠ [] → ∃ b o, a = some ⟨b, o, none⟩ ∧ ∀ (j : Nat) u, us[j]? = some u → w.cell? ⟨b, o + j, none⟩ = some u

theorem RowR.add {a : Addr} {us : List Value} (h : RowR w (some a) us) : ∀ (j : Nat) u, us[j]? = some u → w.cell? (a.add j) = some u := by
  intro j u hu
  have hne : us ≠ [] := by rintro rfl; simp at hu
  obtain ⟨b, o, e, hc⟩ := h hne
  injection e with e
  subst e
  have := hc j u hu
  unfold Addr.add
  by_cases hj : j = 0
  · subst hj; simpa using this
  · simpa [hj] using this

/-- storing one cell after the other into a piece -/
theorem run_store_row (P : Program) {a : Addr} (ha : a.spot = none) : ∀ (us : List Value) (i k : Nat) (vs : List Value) (w : World), Sat W0 w H (cellsH a vs :: F) → i + k + us.length ≤ vs.length → (∀ u ∈ us, u.oneCell' = true) →
    ∃ w', (storeCells (⟨a.block, a.off + i, none⟩ : Addr) us k).run P w = .ok () w' ∧ Sat W0 w' H (cellsH a (vs.take (i + k) ++ us ++ vs.drop (i + k + us.length)) :: F)
  | [], i, k, vs, w, s, _, _ => ⟨w, by simp [storeCells], by simpa using s⟩
  | u :: us, i, k, vs, w, s, hl, h1 => by
    simp only [List.length_cons] at hl
    have hi : i + k < vs.length := by omega
    have hc := s.cells (List.mem_cons_self ..) (i := i + k) (v := vs[i + k]) (by simp [hi])
    have s' := s.setAt hi u
    have hadd : (⟨a.block, a.off + i, none⟩ : Addr).add k = ⟨a.block, a.off + (i + k), none⟩ := by
      unfold Addr.add
      by_cases hk : k = 0
      · subst hk; simp
      · simp [hk, Nat.add_assoc]
    obtain ⟨w', hr, hs⟩ := run_store_row P ha us i (k + 1) (vs.set (i + k) u) _ s' (by simp; omega) (fun x hx => h1 x (List.mem_cons_of_mem _ hx))
    refine ⟨w', ?_, ?_⟩
    · have hst := run_store P w ⟨a.block, a.off + (i + k), none⟩ u .plain (h1 u (List.mem_cons_self ..))
      rw [hc.1] at hst
      simp only [hc.2] at hst
      simp only [storeCells, hadd]
      simp [hst]
      exact hr
    · have e : (vs.set (i + k) u).take (i + (k + 1)) ++ us ++ (vs.set (i + k) u).drop (i + (k + 1) + us.length) = vs.take (i + k) ++ u :: us ++ vs.drop (i + k + (u :: us).length) := by
        simp only [List.length_cons]
        apply List.ext_getElem?
        intro j
        simp only [List.getElem?_append, List.length_append, List.length_take, List.length_set, List.length_cons, List.getElem?_take, List.getElem?_set, List.getElem?_drop, List.getElem?_cons]
        have e1 : min (i + (k + 1)) vs.length = i + k + 1 := by omega
        have e2 : min (i + k) vs.length = i + k := by omega
        rw [e1, e2]
        by_cases c1 : j < i + k
        · simp [show j < i + k + 1 + us.length by omega, show j < i + k + 1 by omega, c1, show j < i + k + (us.length + 1) by omega, show ¬ i + k = j by omega]; omega
        · by_cases c2 : j = i + k
          · subst c2; simp [show i + k < i + k + 1 + us.length by omega]; omega
          · by_cases c3 : j < i + k + 1 + us.length
            · simp [c3, show ¬ j < i + k + 1 by omega, c1, show j < i + k + (us.length + 1) by omega, show ¬ j - (i + k) = 0 by omega, show j - (i + k + 1) = j - (i + k) - 1 by omega]
            · simp [c3, show ¬ j < i + k + (us.length + 1) by omega, show ¬ i + k = i + (k + 1) + us.length + (j - (i + k + 1 + us.length)) by omega]
              congr 1; omega
      rw [← e]; exact hs

/-- append: onto an owned slice, from cells that are read -/
theorem run_append_sat {P : Program} (t u ty e : TypeId) (i : TypeInfo) (z : Value) (size bytes : Nat) (ht : P.underlying t = some (.slice e)) (hu : P.underlying u = some (.slice e)) (hi : P.info? e = some i) (hz : i.zero = some z)
    (hsize : i.size = size) (hby : i.bytes = bytes) (hzs : z.cells.size = size) (hsz : 0 < size)
    {v : Value} {n : Nat} {vs : List Value} {h : Hp} (own : OwnS size v n vs h) (s : Sat W0 w H (h :: F)) (X : Option Addr) (m c : Nat) (us : List Value) (hl : us.length = m * size) (hus : RowR w X us)
    (h1 : ∀ x ∈ us, x.oneCell' = true) (h63 : n + m ≤ 9223372036854775807) (hb : (n + m) * bytes ≤ 140737488355328) :
    ∃ v' w' h', (Builtin.append_ #[t, u] ty #[v, .slice X m c]).run P w = .ok v' w' ∧ OwnS size v' (n + m) (vs ++ us) h' ∧ Sat W0 w' H (h' :: F) := by
  subst hsize
  obtain ⟨A, cap, spare, rfl, hnc, hcm, hlv, hls, hA, rfl⟩ := own
  have hu' : (∀ k, P.underlying u ≠ some (.int k)) := by intro k; rw [hu]; simp
  by_cases hroom : n + m ≤ cap
  · -- there is room
    by_cases hm : m = 0
    · subst hm
      have : us = [] := by simpa using hl
      subst this
      refine ⟨.slice A n cap, w, _, ?_, ⟨A, cap, spare, rfl, hnc, hcm, by simpa using hlv, hls, hA, rfl⟩, by simpa using s⟩
      cases A with
      | none =>
        cases X <;> simp [Builtin.append_, run_underlying ht, run_underlying hu, sizeOf, typeInfo, hi, Builtin.lenOf, hnc, Builtin.firstCells, loadCells, loadCellsFrom]
      | some a =>
        cases X <;> simp [Builtin.append_, run_underlying ht, run_underlying hu, sizeOf, typeInfo, hi, Builtin.lenOf, hnc, Builtin.firstCells, loadCells, loadCellsFrom, storeCells]
    · obtain ⟨b, o, rfl⟩ := hA (by omega)
      have hne : us ≠ [] := by rintro rfl; have := Nat.mul_pos (show 0 < m by omega) hsz; simp at hl; omega
      obtain ⟨b', o', rfl, _⟩ := hus hne
      have hf := run_firstCells_some (P := P) w i.size m ⟨b', o', none⟩ m c us hl hus.add
      obtain ⟨w', hr, hs⟩ := run_store_row P (a := ⟨b, o, none⟩) rfl us (n * i.size) 0 (vs ++ spare) w s (by
        rw [List.length_append, hlv, hls, hl]
        have : n * i.size + m * i.size ≤ n * i.size + (cap - n) * i.size := Nat.add_le_add_left (Nat.mul_le_mul_right _ (by omega)) _
        omega) h1
      refine ⟨.slice (some ⟨b, o, none⟩) (n + m) cap, w', _, ?_, ⟨some ⟨b, o, none⟩, cap, spare.drop us.length, rfl, hroom, hcm, by rw [List.length_append, hlv, hl, Nat.add_mul], ?_, hA, rfl⟩, ?_⟩
      · have hadd : (⟨b, o, none⟩ : Addr).add (n * i.size) = ⟨b, o + n * i.size, none⟩ := by
          unfold Addr.add
          by_cases h0 : n * i.size = 0
          · simp [h0]
          · simp [h0]
        simp [Builtin.append_, run_underlying ht, run_underlying hu, sizeOf, typeInfo, hi, Builtin.lenOf, hroom, hf, hadd, hr]
      · rw [List.length_drop, hls, hl, ← Nat.sub_mul]; congr 1; omega
      · have e : (vs ++ spare).take (n * i.size + 0) ++ us ++ (vs ++ spare).drop (n * i.size + 0 + us.length) = vs ++ us ++ spare.drop us.length := by
          rw [Nat.add_zero, ← hlv, List.take_left, List.drop_append, List.drop_eq_nil_of_le (by omega : vs.length ≤ vs.length + us.length)]
          simp
        rw [e] at hs
        exact hs
  · -- a new row
    have hfit : Builtin.nextslicecap (n + m) cap * i.bytes ≤ 281474976710656 := growslice_fits (by omega) (by rw [hby]; exact hb)
    have hm : m ≠ 0 := by omega
    have hne : us ≠ [] := by rintro rfl; have := Nat.mul_pos (show 0 < m by omega) hsz; simp at hl; omega
    obtain ⟨b', o', rfl, _⟩ := hus hne
    have hgc := grownCap_ge w (n + m) cap e
    have hgm := grownCap_le_maxLen w (n + m) cap e (by unfold maxLen; omega)
    have hf := run_firstCells_some (P := P) w.drew i.size m ⟨b', o', none⟩ m c us hl (by simpa using hus.add)
    have h63' : ¬ (9223372036854775807 < ((n : Int) + (m : Int))) := by omega
    have h48' : ¬ (281474976710656 < Builtin.nextslicecap (n + m) cap * i.bytes) := by omega
    have hold : (Builtin.firstCells i.size n (.slice A n cap)).run P w.drew = .ok vs.toArray w.drew := by
      cases A with
      | none =>
        have : n = 0 := by
          rcases Nat.eq_zero_or_pos cap with h0 | h0
          · omega
          · obtain ⟨_, _, e⟩ := hA h0; cases e
        subst this
        have : vs = [] := by simpa using hlv
        subst this
        simp [Builtin.firstCells]
      | some a =>
        refine run_firstCells_some (P := P) w.drew i.size n a n cap vs hlv ?_
        intro j x hx
        have hj : j < vs.length := by
          rcases Nat.lt_or_ge j vs.length with h0 | h0
          · exact h0
          · rw [List.getElem?_eq_none h0] at hx; cases hx
        have hcap : 0 < cap := by
          rcases Nat.eq_zero_or_pos cap with h0 | h0
          · have : n = 0 := by omega
            subst this; simp at hlv; subst hlv; simp at hj
          · exact h0
        obtain ⟨b, o, e⟩ := hA hcap
        injection e with e
        subst e
        have hc := s.cells (a := ⟨b, o, none⟩) (List.mem_cons_self ..) (i := j) (v := x) (by rw [List.getElem?_append_left hj]; exact hx)
        unfold Addr.add
        by_cases h0 : j = 0
        · subst h0; simpa using hc.1
        · simpa [h0] using hc.1
    have hnr : ¬ (n + m ≤ cap) := hroom
    refine ⟨.slice (some ⟨w.heap.size, 0, none⟩) (n + m) (grownCap w (n + m) cap e),
      w.drew.alloc (.cells (vs ++ us ++ (Builtin.zeroCells z.cells (grownCap w (n + m) cap e - (n + m))).toList).toArray e), _, ?_,
      ⟨some ⟨w.heap.size, 0, none⟩, grownCap w (n + m) cap e, (Builtin.zeroCells z.cells (grownCap w (n + m) cap e - (n + m))).toList, rfl, hgc, by unfold maxLen at hgm; omega, by rw [List.length_append, hlv, hl, Nat.add_mul], ?_, fun _ => ⟨_, _, rfl⟩, rfl⟩, ?_⟩
    · simp [Builtin.append_, run_underlying ht, run_underlying hu, sizeOf, typeInfo, zeroValue, hi, hz, Builtin.lenOf, hnr, h63', h48', Question.forced, hf, hold, newRow, grownCap]
      congr 2
      apply Array.ext'
      simp
    · simp [size_zeroCells, hzs]
    · exact (s.tail1.drew).alloc
end

theorem OwnS.row {w : World} {size : Nat} {A : Option Addr} {n cap : Nat} {vs : List Value} {h : Hp} (own : OwnS size (.slice A n cap) n vs h) (hh : Holds w h) (i m : Nat) :
    (vs.drop i).take m ≠ [] → ∃ b o, A = some ⟨b, o, none⟩ ∧ ∀ (j : Nat) u, ((vs.drop i).take m)[j]? = some u → w.cell? ⟨b, o + i + j, none⟩ = some u := by
  obtain ⟨A', cap', spare, e, hnc, hcm, hlv, hls, hA, rfl⟩ := own
  injection e with e1 e2 e3
  subst e1 e3
  intro hne
  have hcap : 0 < cap := by
    rcases Nat.eq_zero_or_pos cap with h0 | h0
    · have : n = 0 := by omega
      subst this
      simp at hlv
      subst hlv
      simp at hne
    · exact h0
  obtain ⟨b, o, rfl⟩ := hA hcap
  refine ⟨b, o, rfl, fun j u hu => ?_⟩
  rw [List.getElem?_take] at hu
  split at hu
  case isFalse => cases hu
  case isTrue hj =>
    rw [List.getElem?_drop] at hu
    have hlt : i + j < vs.length := by
      rcases Nat.lt_or_ge (i + j) vs.length with h0 | h0
      · exact h0
      · rw [List.getElem?_eq_none h0] at hu; cases hu
    have := hh (.cell b (o + i + j)) (.val u false) (by
      have h1 : (vs ++ spare)[i + j]? = some u := by rw [List.getElem?_append_left hlt]; exact hu
      have h2 := cellsH_at (a := ⟨b, o, none⟩) h1
      simpa [rowH, Nat.add_assoc] using h2)
    exact (look_cell this).1

theorem OwnS.row0 {w : World} {size : Nat} {A : Option Addr} {n cap : Nat} {vs : List Value} {h : Hp} (own : OwnS size (.slice A n cap) n vs h) (hh : Holds w h) (m : Nat) : RowR w A (vs.take m) := by
  intro hne
  obtain ⟨b, o, e, g⟩ := own.row hh 0 m (by simpa using hne)
  exact ⟨b, o, e, fun j u hu => by simpa using g j u (by simpa using hu)⟩

/-- a row cut at i: where the cut leads -/
theorem OwnS.rowAt {w : World} {A : Option Addr} {n cap : Nat} {vs : List Value} {h : Hp} (own : OwnS 1 (.slice A n cap) n vs h) (hh : Holds w h) (i m : Nat) : RowR w (A.map (·.add i)) ((vs.drop i).take m) := by
  intro hne
  obtain ⟨b, o, rfl, g⟩ := own.row hh i m hne
  refine ⟨b, o + i, ?_, g⟩
  unfold Addr.add
  by_cases h0 : i = 0
  · simp [h0]
  · simp [h0]

theorem OwnS.rowCut {w : World} {A : Option Addr} {n cap : Nat} {vs : List Value} {h : Hp} (own : OwnS 1 (.slice A n cap) n vs h) (hh : Holds w h) (i : Nat) : RowR w (if cap = i then A else A.map (·.add i)) ((vs.drop i).take (n - i)) := by
  by_cases hc : cap = i
  · obtain ⟨A', cap', spare, e, hnc, _⟩ := own
    injection e with e1 e2 e3
    intro hne
    refine absurd (List.eq_nil_of_length_eq_zero ?_) hne
    rw [List.length_take]
    omega
  · rw [if_neg hc]; exact own.rowAt hh i _
theorem rowR_nil {w : World} {X : Option Addr} {us : List Value} (h : us.length = 0) : RowR w X us := fun hne => absurd (List.eq_nil_of_length_eq_zero h) hne
theorem rowR_old {w : World} {A : Option Addr} {f : Nat → List Value} (h : ∀ m, RowR w A (f m)) (m : Nat) (o : Obj) : RowR (w.alloc o) A (f m) := by
  intro hne
  obtain ⟨b, i, e, g⟩ := h m hne
  exact ⟨b, i, e, fun j u hu => by
    have := g j u hu
    rw [World.cell?_alloc_lt _ _ _ (World.block_lt_of_cell? _ _ this)]
    exact this⟩

theorem OwnS.made {size b o n c : Nat} {vs : List Value} (spare : List Value) (hn : n ≤ c) (hc : c ≤ 9223372036854775807) (hv : vs.length = n * size) (hs : spare.length = (c - n) * size) :
    OwnS size (.slice (some ⟨b, o, none⟩) n c) n vs (cellsH ⟨b, o, none⟩ (vs ++ spare)) :=
  ⟨_, c, spare, rfl, hn, hc, hv, hs, fun _ => ⟨b, o, rfl⟩, rfl⟩

/-- an owned slice of bytes is read -/
theorem OwnS.rd {v : Value} {n : Nat} {xs : List Int} {h : Hp} (own : OwnS 1 v n (xs.map (Value.int .u8)) h) (hx : ∀ x ∈ xs, 0 ≤ x ∧ x ≤ 255) : Rd u8E 1 h v xs := by
  obtain ⟨A, c, spare, rfl, hnc, hcm, hlv, hls, hA, rfl⟩ := own
  simp at hlv
  subst hlv
  refine ⟨A, c, rfl, hnc, hcm, fun i x hi => ?_⟩
  have hlt : i < xs.length := by
    rcases Nat.lt_or_ge i xs.length with h0 | h0
    · exact h0
    · rw [List.getElem?_eq_none h0] at hi; cases hi
  obtain ⟨b, o, rfl⟩ := hA (by omega)
  refine ⟨b, o, [.int .u8 x], rfl, ⟨rfl, hx x (List.mem_of_getElem? hi)⟩, rfl, fun j u hu => ⟨false, ?_⟩⟩
  cases j with
  | succ j => simp at hu
  | zero =>
    simp at hu
    subst hu
    have := cellsH_at (a := ⟨b, o, none⟩) (vs := xs.map (Value.int .u8) ++ spare) (i := i) (v := .int .u8 x) (by rw [List.getElem?_append_left (by simpa using hlt)]; simp [hi])
    simpa [rowH] using this

/-- a slice of bytes over cells that are owned -/
theorem Rd.ofCells {b o c : Nat} {xs : List Int} (more : List Value) (hx : ∀ x ∈ xs, 0 ≤ x ∧ x ≤ 255) (hc : xs.length ≤ c) (hc2 : c ≤ 9223372036854775807) :
    Rd u8E 1 (cellsH ⟨b, o, none⟩ (xs.map (Value.int .u8) ++ more)) (.slice (some ⟨b, o, none⟩) xs.length c) xs := by
  refine ⟨_, _, rfl, hc, hc2, fun i x hi => ⟨b, o, [.int .u8 x], rfl, ⟨rfl, hx x (List.mem_of_getElem? hi)⟩, rfl, fun j u hu => ⟨false, ?_⟩⟩⟩
  cases j with
  | succ j => simp at hu
  | zero =>
    simp at hu
    subst hu
    have hlt : i < xs.length := by
      rcases Nat.lt_or_ge i xs.length with h0 | h0
      · exact h0
      · rw [List.getElem?_eq_none h0] at hi; cases hi
    have := cellsH_at (a := ⟨b, o, none⟩) (vs := xs.map (Value.int .u8) ++ more) (i := i) (v := .int .u8 x) (by rw [List.getElem?_append_left (by simpa using hlt)]; simp [hi])
    simpa using this

/-- an operation whose run is known -/
theorem wpList_run {P : Program} {ops : Array Oper} {rest : List Oper} {o : Oper} {a : Act} {w w' : World} {Q : Exit → Act → World → Prop} {v : Value} (hg : o.guard = none)
    (hr : (execOp a.eval o).run P w = .ok (.value v) w') (k : wpList P ops Q rest (a.put o.dst v) w') : wpList P ops Q (o :: rest) a w := by
  refine wpList_plain hg fun K hK => ?_
  unfold Oper.wp
  rw [hr]
  exact hK _ _ k

theorem wpList_append {P : Program} {ops : Array Oper} {rest : List Oper} {o : Oper} {a : Act} {Q : Exit → Act → World → Prop} {W0 w : World} {H : Hp} {F : List Hp}
    (hg : o.guard = none) (sx xx : Operand) (t u e : TypeId) (hop : o.op = .call { callee := .builtin .append, args := #[sx, xx], argTypes := #[t, u] })
    (i : TypeInfo) (z : Value) (size bytes : Nat) (ht : P.underlying t = some (.slice e)) (hu : P.underlying u = some (.slice e)) (hi : P.info? e = some i) (hz : i.zero = some z)
    (hsize : i.size = size) (hby : i.bytes = bytes) (hzs : z.cells.size = size) (hsz : 0 < size)
    {v : Value} {n : Nat} {vs : List Value} {h : Hp} (hv : a.eval sx = v) (own : OwnS size v n vs h) (s : Sat W0 w H (h :: F)) {X : Option Addr} {m c : Nat} {us : List Value} (hx : a.eval xx = .slice X m c) (hl : us.length = m * size) (hus : RowR w X us)
    (h1 : ∀ x ∈ us, x.oneCell' = true) (h63 : n + m ≤ 9223372036854775807) (hb : (n + m) * bytes ≤ 140737488355328)
    (k : ∀ A' cap' w' h', OwnS size (.slice A' (n + m) cap') (n + m) (vs ++ us) h' → Sat W0 w' H (h' :: F) → wpList P ops Q rest (a.put o.dst (.slice A' (n + m) cap')) w') : wpList P ops Q (o :: rest) a w := by
  obtain ⟨v', w', h', hr, ho, hs⟩ := run_append_sat (P := P) t u o.type e i z size bytes ht hu hi hz hsize hby hzs hsz own s X m c us hl hus h1 h63 hb
  obtain ⟨A', cap', sp', rfl, ho'⟩ := id ho
  refine wpList_run hg (v := .slice A' (n + m) cap') (w' := w') ?_ (k A' cap' w' h' ho hs)
  unfold execOp
  rw [hop]
  simp only [resolve, invoke]
  simp [builtin, hv, hx, hr]

/-- append as one step of a region that draws its order -/
theorem step_append {P : Program} {ops : Array Oper} {o : Oper} {a : Act} {K : Act → World → Prop} {Q : Exit → Act → World → Prop} {E : Prop} {W0 w : World} {H : Hp} {F : List Hp}
    (hg : o.guard = none) (sx xx : Operand) (t u e : TypeId) (hop : o.op = .call { callee := .builtin .append, args := #[sx, xx], argTypes := #[t, u] })
    (i : TypeInfo) (z : Value) (size bytes : Nat) (ht : P.underlying t = some (.slice e)) (hu : P.underlying u = some (.slice e)) (hi : P.info? e = some i) (hz : i.zero = some z)
    (hsize : i.size = size) (hby : i.bytes = bytes) (hzs : z.cells.size = size) (hsz : 0 < size)
    {v : Value} {n : Nat} {vs : List Value} {h : Hp} (hv : a.eval sx = v) (own : OwnS size v n vs h) (s : Sat W0 w H (h :: F)) {X : Option Addr} {m c : Nat} {us : List Value} (hx : a.eval xx = .slice X m c) (hl : us.length = m * size) (hus : RowR w X us)
    (h1 : ∀ x ∈ us, x.oneCell' = true) (h63 : n + m ≤ 9223372036854775807) (hb : (n + m) * bytes ≤ 140737488355328)
    (k : ∀ A' cap' w' h', OwnS size (.slice A' (n + m) cap') (n + m) (vs ++ us) h' → Sat W0 w' H (h' :: F) → K (a.put o.dst (.slice A' (n + m) cap')) w') : if Region.wanted o (yielded ops a.tmps) = true then Oper.wp P o a w K Q else E := by
  obtain ⟨v', w', h', hr, ho, hs⟩ := run_append_sat (P := P) t u o.type e i z size bytes ht hu hi hz hsize hby hzs hsz own s X m c us hl hus h1 h63 hb
  obtain ⟨A', cap', sp', rfl, ho'⟩ := id ho
  rw [if_pos (by simp [Region.wanted, hg])]
  have he : (execOp a.eval o).run P w = .ok (.value (.slice A' (n + m) cap')) w' := by
    unfold execOp
    rw [hop]
    simp only [resolve, invoke]
    simp [builtin, hv, hx, hr]
  unfold Oper.wp
  rw [he]
  exact k A' cap' w' h' ho hs

/-- the cells of a piece that stands first -/
theorem Sat.c {W0 w : World} {H : Hp} {F : List Hp} {b o : Nat} {vs : List Value} (s : Sat W0 w H (cellsH ⟨b, o, none⟩ vs :: F)) (i : Nat) {v : Value} (h : vs[i]? = some v) : w.cell? ⟨b, o + i, none⟩ = some v ∧ w.frozen? ⟨b, o + i, none⟩ = false :=
  s.cells (List.mem_cons_self ..) h
theorem Sat.c0 {W0 w : World} {H : Hp} {F : List Hp} {b o : Nat} {v : Value} {vs : List Value} (s : Sat W0 w H (cellsH ⟨b, o, none⟩ (v :: vs) :: F)) : w.cell? ⟨b, o, none⟩ = some v ∧ w.frozen? ⟨b, o, none⟩ = false :=
  s.c 0 rfl
theorem Sat.s {W0 w : World} {H : Hp} {F : List Hp} {b o : Nat} {vs : List Value} (s : Sat W0 w H (cellsH ⟨b, o, none⟩ vs :: F)) (i : Nat) (h : i < vs.length) (v : Value) : Sat W0 (w.setCell ⟨b, o + i, none⟩ v) H (cellsH ⟨b, o, none⟩ (vs.set i v) :: F) :=
  s.setAt h v
theorem Sat.s0 {W0 w : World} {H : Hp} {F : List Hp} {b o : Nat} {u : Value} {vs : List Value} (s : Sat W0 w H (cellsH ⟨b, o, none⟩ (u :: vs) :: F)) (v : Value) : Sat W0 (w.setCell ⟨b, o, none⟩ v) H (cellsH ⟨b, o, none⟩ (v :: vs) :: F) :=
  s.s 0 (by simp) v
theorem Sat.blt {W0 w : World} {H : Hp} {F : List Hp} {b o : Nat} {v : Value} {vs : List Value} (s : Sat W0 w H (cellsH ⟨b, o, none⟩ (v :: vs) :: F)) : b < w.heap.size :=
  World.block_lt_of_cell? _ _ s.c0.1
theorem Sat.head {W0 w : World} {H h : Hp} {F : List Hp} (s : Sat W0 w H (h :: F)) : Holds w h := (s.each h (List.mem_cons_self ..)).1
theorem Sat.swap {W0 w : World} {H : Hp} {F : List Hp} {h k : Hp} (s : Sat W0 w H (h :: k :: F)) : Sat W0 w H (k :: h :: F) := s.perm (List.Perm.swap ..)

end Go.Proofs.Ytiibiamobkhlbaa

namespace Go.Proofs.Ytiibiamobkhlbaa
open Go.RowKit
set_option linter.unusedVariables false

theorem info_u8 : ∃ i, Try.prog.info? 5 = some i ∧ i.zero = some (.int .u8 0) ∧ i.size = 1 ∧ i.bytes = 1 := by
  have h : (Try.prog.info? 5).map (fun i => (i.zero, i.size, i.bytes)) = some (some (.int .u8 0), 1, 1) := by kernel_rfl
  cases hi : Try.prog.info? 5 with
  | none => simp [hi] at h
  | some i => simp [hi] at h; exact ⟨i, rfl, h⟩

theorem Rd.bytes {hp : Hp} {v : Value} {xs : List Int} (r : Rd u8E 1 hp v xs) : ∀ x ∈ xs, 0 ≤ x ∧ x ≤ 255 := by
  obtain ⟨A, c, rfl, r⟩ := r.open_
  obtain ⟨_, _, _, g⟩ := r.u8
  intro x hx
  obtain ⟨i, hi, rfl⟩ := List.mem_iff_getElem.1 hx
  exact (g i hi).choose_spec.choose_spec.2.2

/-- bytes that are read, as a row of cells -/
theorem Rd.row {w : World} {hp : Hp} {A : Option Addr} {n c : Nat} {xs : List Int} (hh : Holds w hp) (r : Rd u8E 1 hp (.slice A n c) xs) (m : Nat) : RowR w A ((xs.take m).map (Value.int .u8)) := by
  intro hne
  obtain ⟨rfl, hc, hc2, g⟩ := r.u8
  have hpos : 0 < xs.length := by
    rcases Nat.eq_zero_or_pos xs.length with h0 | h0
    · have : xs = [] := List.eq_nil_of_length_eq_zero h0
      subst this; simp at hne
    · exact h0
  obtain ⟨b, o, rfl, _⟩ := g 0 hpos
  refine ⟨b, o, rfl, fun j u hu => ?_⟩
  simp only [List.getElem?_map, List.getElem?_take] at hu
  by_cases hj : j < m
  · rw [if_pos hj] at hu
    rcases Nat.lt_or_ge j xs.length with h1 | h1
    · rw [List.getElem?_eq_getElem h1] at hu
      simp at hu
      subst hu
      obtain ⟨b', o', e, hcell, _⟩ := g j h1
      injection e with e
      injection e with e1 e2
      subst e1 e2
      exact hh.cell hcell
    · rw [List.getElem?_eq_none h1] at hu; simp at hu
  · rw [if_neg hj] at hu; simp at hu

theorem oneCell_cut (l : List Int) (i j : Nat) : ∀ x ∈ ((l.map (Value.int .u8)).drop i).take j, x.oneCell' = true := by
  intro x hx
  obtain ⟨y, _, rfl⟩ := List.mem_map.1 (List.mem_of_mem_drop (List.mem_of_mem_take hx))
  rfl
theorem oneCell_u8 (l : List Int) : ∀ x ∈ l.map (Value.int .u8), x.oneCell' = true := by
  intro x hx
  obtain ⟨y, _, rfl⟩ := List.mem_map.1 hx
  rfl



/-- append of bytes -/
theorem append8 {ops : Array Oper} {rest : List Oper} {o : Oper} {a : Act} {Q : Exit → Act → World → Prop} {W0 w : World} {H : Hp} {A F : List Hp}
    (hg : o.guard = none) (sx xx : Operand) (hop : o.op = .call { callee := .builtin .append, args := #[sx, xx], argTypes := #[57, 57] })
    {v : Value} {n : Nat} {vs : List Value} {h : Hp} (hv : a.eval sx = v) (own : OwnS 1 v n vs h) (s : Sat W0 w H A) [fr : FrH h A F] {X : Option Addr} {m c : Nat} (hx : a.eval xx = .slice X m c) (ds : List Int) (hl : ds.length = m) (hus : RowR w X (ds.map (Value.int .u8)))
    (hb : n + m ≤ 140737488355328)
    (k : ∀ A' cap' w' h', OwnS 1 (.slice A' (n + m) cap') (n + m) (vs ++ ds.map (Value.int .u8)) h' → Sat W0 w' H (h' :: F) → wpList Try.prog ops Q rest (a.put o.dst (.slice A' (n + m) cap')) w') : wpList Try.prog ops Q (o :: rest) a w := by
  obtain ⟨i0, hi, hz, hs1, hb1⟩ := info_u8
  exact wpList_append hg sx xx _ _ _ hop i0 (.int .u8 0) 1 1 Try.underlying57 Try.underlying57 hi hz hs1 hb1 rfl (by decide) hv own s.pull hx (by simp [hl]) hus (oneCell_u8 _) (by omega) (by omega) k

theorem step8 {ops : Array Oper} {o : Oper} {a : Act} {K : Act → World → Prop} {Q : Exit → Act → World → Prop} {E : Prop} {W0 w : World} {H : Hp} {A F : List Hp}
    (hg : o.guard = none) (sx xx : Operand) (hop : o.op = .call { callee := .builtin .append, args := #[sx, xx], argTypes := #[57, 57] })
    {v : Value} {n : Nat} {vs : List Value} {h : Hp} (hv : a.eval sx = v) (own : OwnS 1 v n vs h) (s : Sat W0 w H A) [fr : FrH h A F] {X : Option Addr} {m c : Nat} (hx : a.eval xx = .slice X m c) (ds : List Int) (hl : ds.length = m) (hus : RowR w X (ds.map (Value.int .u8)))
    (hb : n + m ≤ 140737488355328)
    (k : ∀ A' cap' w' h', OwnS 1 (.slice A' (n + m) cap') (n + m) (vs ++ ds.map (Value.int .u8)) h' → Sat W0 w' H (h' :: F) → K (a.put o.dst (.slice A' (n + m) cap')) w') : if Region.wanted o (yielded ops a.tmps) = true then Oper.wp Try.prog o a w K Q else E := by
  obtain ⟨i0, hi, hz, hs1, hb1⟩ := info_u8
  exact step_append hg sx xx _ _ _ hop i0 (.int .u8 0) 1 1 Try.underlying57 Try.underlying57 hi hz hs1 hb1 rfl (by decide) hv own s.pull hx (by simp [hl]) hus (oneCell_u8 _) (by omega) (by omega) k

/-- a literal of bytes that the call has just laid -/
theorem row_lit {w : World} {ds : List Int} {t : TypeId} : RowR (w.alloc (.cells (ds.map (Value.int .u8)).toArray t)) (some ⟨w.heap.size, 0, none⟩) (ds.map (Value.int .u8)) := by
  intro _
  exact ⟨_, _, rfl, fun j u hu => by rw [Nat.zero_add]; simp [hu]⟩

/-- make of bytes -/
theorem made8 (n : Nat) : madeCells #[Value.int .u8 0] n = (List.replicate n (Value.int .u8 0)).toArray := by
  apply Array.ext
  · simp [madeCells]
  · intro i h1 h2
    simp [madeCells, Nat.mod_one]

theorem run_make8 (kl kc : IntKind) (l c : Int) (h0 : 0 ≤ l) (hlc : l ≤ c) (hc : c ≤ 140737488355328) (w : World) :
    (Instr.makeSlice 57 (.int kl l) (.int kc c)).run Try.prog w = .ok (.slice (some ⟨w.heap.size, 0, none⟩) l.toNat c.toNat) (w.alloc (.cells (List.replicate c.toNat (Value.int .u8 0)).toArray 5)) := by
  obtain ⟨i0, hi, hz, hs1, hb1⟩ := info_u8
  rw [run_make (P := Try.prog) w 57 5 i0 (.int .u8 0) Try.underlying57 hi hz kl kc l c h0 hlc (by rw [hb1]; omega) (by omega), hs1, Nat.mul_one]
  have e : (Value.int IntKind.u8 0).cells = #[Value.int .u8 0] := rfl
  rw [e, made8]

/-- the low n bytes -/
def leb (x : Int) : Nat → List Int
  | 0 => []
  | n + 1 => x % 256 :: leb (x / 256) n
def shb (x : Int) : Nat → Int
  | 0 => x
  | n + 1 => shb x n / 256
theorem leb_len (x : Int) (n : Nat) : (leb x n).length = n := by induction n generalizing x with | zero => rfl | succ n ih => simp [leb, ih]
theorem shb_left (x : Int) (n : Nat) : shb (x / 256) n = shb x n / 256 := by induction n with | zero => rfl | succ n ih => simp [shb, ih]
theorem leb_snoc (x : Int) (n : Nat) : leb x (n + 1) = leb x n ++ [shb x n % 256] := by
  induction n generalizing x with
  | zero => rfl
  | succ n ih => rw [leb, ih, leb]; simp [shb, shb_left]
theorem shb_bd {x : Int} (h : 0 ≤ x ∧ x ≤ 18446744073709551615) (n : Nat) : 0 ≤ shb x n ∧ shb x n ≤ 18446744073709551615 := by
  induction n with
  | zero => exact h
  | succ n ih => simp only [shb]; omega
theorem leb_bd (x : Int) (n : Nat) : ∀ y ∈ leb x n, 0 ≤ y ∧ y ≤ 255 := by
  induction n generalizing x with
  | zero => intro y hy; simp [leb] at hy
  | succ n ih =>
    intro y hy
    simp only [leb, List.mem_cons] at hy
    rcases hy with rfl | hy
    · omega
    · exact ih _ y hy

section
variable {R : Ending → World → Prop} {W0 w : World} {H : Hp} {A : List Hp}

set_option maxRecDepth 100000 in
set_option maxHeartbeats 2000000 in
theorem c_refBytesOf (s : Sat W0 w H A) (x : Int) (hx : 0 ≤ x ∧ x ≤ 18446744073709551615) (z : Int) (n : Nat) (hz : z = n) (hn : n ≤ 4096)
    (k : ∀ w' v h', OwnS 1 v n ((leb x n).map (Value.int .u8)) h' → Sat W0 w' H (h' :: A) → R (.returned v) w') : Calls Try.prog 135 #[.int .u64 x, .int .i64 z] w R := by
  subst hz
  go_enter Try.func135, Try.ntmps135
  go_wp2
  go_loopg [0, 5, 6] n (fun m v0 v5 v6 w' => ∃ (i : Nat) (h' : Hp), m + i = n ∧ v6 = .int .i64 i ∧ v0 = .int .u64 (shb x i) ∧ OwnS 1 v5 i ((leb x i).map (Value.int .u8)) h' ∧ Sat W0 w' H (h' :: A))
  case atStart => exact ⟨0, empH, by simp, rfl, rfl, OwnS.nil 1, s.emp⟩
  case round =>
    obtain ⟨i, h', hm, rfl, rfl, own, s'⟩ := hrel
    have hb := shb_bd hx i
    obtain ⟨A1, c1, sp1, rfl, _⟩ := id own
    by_cases hi : i < n
    · have hi2 : i < 4096 := by omega
      go_wp2_with (at_builtin; refine append8 rfl (.tmp 16) (.tmp 20) rfl rfl own s'.alloc rfl [shb x i % 256] rfl row_lit (by omega) ?_; intro A2 cap2 w2 h2 ho hs)
      go_roundg (gk - 1)
      case measure => omega
      case rel => exact ⟨i + 1, h2, by omega, by go_num, rfl, by rw [leb_snoc, List.map_append]; exact ho, hs.wk⟩
    · obtain rfl : i = n := by omega
      go_wp2
      exact k _ _ h' own s'

set_option maxRecDepth 100000 in
set_option maxHeartbeats 4000000 in
theorem c_wordBytes (s : Sat W0 w H A) (x : Int) (hx : 0 ≤ x ∧ x ≤ 18446744073709551615) (z : Int) (n : Nat) (hz : z = n) (hn : n ≤ 4096)
    (k : ∀ w' v h', OwnS 1 v n ((leb x n).map (Value.int .u8)) h' → Sat W0 w' H (h' :: A) → R (.returned v) w') : Calls Try.prog 72 #[.int .u64 x, .int .i64 z] w R := by
  subst hz
  have hmk : ∀ W, (Instr.makeSlice 57 (.int .i64 0) (.int .i64 8)).run Try.prog W = .ok (.slice (some ⟨W.heap.size, 0, none⟩) 0 8) (W.alloc (.cells (List.replicate 8 (Value.int .u8 0)).toArray 5)) := fun W => run_make8 .i64 .i64 0 8 (by omega) (by omega) (by omega) W
  have hn0 : 0 ≤ n := Nat.zero_le _
  go_enter Try.func72, Try.ntmps72
  go_wp2
  go_loopg [0, 5, 10] n (fun m v0 v5 v6 w' => ∃ (i : Nat) (h' : Hp), m + i = n ∧ v6 = .int .i64 i ∧ v0 = .int .u64 (shb x i) ∧ OwnS 1 v5 i ((leb x i).map (Value.int .u8)) h' ∧ Sat W0 w' H (h' :: A))
  case atStart => exact ⟨0, _, by simp, rfl, rfl, OwnS.made (n := 0) (c := 8) (vs := []) (List.replicate 8 (.int .u8 0)) (by omega) (by omega) rfl rfl, s.alloc⟩
  case round =>
    obtain ⟨i, h', hm, rfl, rfl, own, s'⟩ := hrel
    have hb := shb_bd hx i
    obtain ⟨A1, c1, sp1, rfl, _⟩ := id own
    by_cases hi : i < n
    · have hi2 : i < 4096 := by omega
      go_wp2_with (at_builtin; refine append8 rfl (.tmp 12) (.tmp 15) rfl rfl own s'.alloc rfl [shb x i % 256] rfl row_lit (by omega) ?_; intro A2 cap2 w2 h2 ho hs)
      go_roundg (gk - 1)
      case measure => omega
      case rel => exact ⟨i + 1, h2, by omega, by go_num, rfl, by rw [leb_snoc, List.map_append]; exact ho, hs.wk⟩
    · obtain rfl : i = n := by omega
      go_wp2
      exact k _ _ h' own s'

/-! are two slices of bytes alike? (the document's own) -/
set_option maxRecDepth 100000 in
set_option maxHeartbeats 4000000 in
theorem c_Bytes {h1 h2 : Hp} {a b : Value} {xs ys : List Int} (H1 : Holds w h1) (H2 : Holds w h2) (r1 : Rd u8E 1 h1 a xs) (r2 : Rd u8E 1 h2 b ys)
    (k : ∀ n, R (.returned (.bool (decide (xs = ys)))) (w.drewN n)) :
    Calls Try.prog 104 #[a, b] w R := by
  obtain ⟨A, c, rfl, r1⟩ := r1.open_
  obtain ⟨B, d, rfl, r2⟩ := r2.open_
  obtain ⟨_, hc, hc2, g1⟩ := r1.u8
  obtain ⟨_, hd, hd2, g2⟩ := r2.u8
  clear r1 r2
  by_cases hl : xs.length = ys.length
  · have e1 : ((xs.length : Int) != (ys.length : Int)) = false := by simp [hl]
    have HL := aside hl
    clear hl
    go_enter Try.func104, Try.ntmps104
    go_wp2
    go_loopg [5] xs.length (fun m v w' => ∃ (i n : Nat), m + i = xs.length ∧ v = .int .i64 i ∧ w' = w.drewN n ∧ Aside (xs.take i = ys.take i))
    case atStart => exact ⟨0, 0, by simp, rfl, rfl, by simp [Aside]⟩
    case round =>
      obtain ⟨i, n, hm, rfl, rfl, ht⟩ := hrel
      by_cases hi : i < xs.length
      · have hi2 : i < ys.length := by have := HL.out; omega
        obtain ⟨ba, oa, rfl, hca, _, _⟩ := g1 i hi
        obtain ⟨bb, ob, rfl, hcb, _, _⟩ := g2 i hi2
        have ca := H1.cell hca
        have cb := H2.cell hcb
        clear hca hcb g1 g2
        by_cases he : xs[i] = ys[i]
        · have e2 : (xs[i] != ys[i]) = false := by simp [he]
          have ht' : Aside (xs.take (i + 1) = ys.take (i + 1)) := by
            have := ht.out
            show _ = _
            rw [List.take_succ_eq_append_getElem hi, List.take_succ_eq_append_getElem hi2, he, this]
          clear he
          go_wp2
          go_quiet (fail)
          go_wp2
          go_roundg (gk - 1)
          case measure => omega
          case rel => exact ⟨i + 1, n + nq, by omega, by go_num, rfl, ht'⟩
        · have e2 : (xs[i] != ys[i]) = true := by simp [he]
          have ne : decide (xs = ys) = false := by simp; rintro rfl; exact he rfl
          clear he
          go_wp2
          go_quiet (fail)
          go_wp2
          (simp only [World.drewN_drewN]; exact ret_b (k _) ne)
      · have eq : decide (xs = ys) = true := by
          have := ht.out
          have hl := HL.out
          rw [List.take_of_length_le (by omega), List.take_of_length_le (by omega)] at this
          simp [this]
        go_wp2
        exact ret_b (k _) eq
  · have e1 : ((xs.length : Int) != (ys.length : Int)) = true := by simp; omega
    have ne : decide (xs = ys) = false := by simp; rintro rfl; exact hl rfl
    go_enter Try.func104, Try.ntmps104
    go_wp2
    exact ret_b (k 0) ne
end

end Go.Proofs.Ytiibiamobkhlbaa

namespace Go.Proofs.Ytiibiamobkhlbaa
open Go.RowKit
set_option linter.unusedVariables false

theorem run_copy_sat {P : Program} {W0 w : World} {H : Hp} {F : List Hp} (dT sT ty elem : TypeId) (hu : P.underlying dT = some (.slice elem)) (hz : (P.info? elem).map (·.size) = some 1)
    {D : Option Addr} {n cap : Nat} {vs : List Value} {h : Hp} (own : OwnS 1 (.slice D n cap) n vs h) (s : Sat W0 w H (h :: F)) (X : Option Addr) (m c : Nat) (us : List Value) (hl : us.length = m) (hm : m ≤ n) (hus : RowR w X us)
    (h1 : ∀ x ∈ us, x.oneCell' = true) :
    ∃ w' h', (Builtin.copy_ #[dT, sT] ty #[.slice D n cap, .slice X m c]).run P w = .ok (goInt m) w' ∧ OwnS 1 (.slice D n cap) n (us ++ vs.drop m) h' ∧ Sat W0 w' H (h' :: F) := by
  by_cases h0 : m = 0
  · subst h0
    obtain rfl : us = [] := List.eq_nil_of_length_eq_zero hl
    exact ⟨w, h, run_copy_none w dT sT ty elem _ _ _ _ _ _ hu hz (by simp), by simpa using own, s⟩
  · obtain ⟨A', cap', spare, e, hnc, hcm, hlv, hls, hA, rfl⟩ := own
    injection e with e1 e2 e3
    subst e1 e3
    obtain ⟨b, o, rfl⟩ := hA (by omega)
    have hne : us ≠ [] := by rintro rfl; simp at hl; omega
    obtain ⟨b', o', rfl, _⟩ := hus hne
    have hlo := run_loadCells_list (P := P) w ⟨b', o', none⟩ us hus.add
    obtain ⟨w', hr, hs⟩ := run_store_row P (a := ⟨b, o, none⟩) rfl us 0 0 (vs ++ spare) w s (by rw [List.length_append, hlv, hl]; omega) h1
    refine ⟨w', _, ?_, ⟨_, cap, spare, rfl, hnc, hcm, by rw [List.length_append, List.length_drop, hlv, hl]; omega, hls, fun _ => ⟨b, o, rfl⟩, rfl⟩, ?_⟩
    · cases hq : P.info? elem with
      | none => simp [hq] at hz
      | some i =>
        have hi : i.size = 1 := by simpa [hq] using hz
        have hmn : min m n = m := by omega
        rw [hl] at hlo
        simp only [Nat.add_zero] at hr
        simp [Builtin.copy_, run_underlying hu, Builtin.lenOf, Builtin.firstCells, sizeOf, typeInfo, hq, hi, hmn, hlo, hr]
    · have e : (vs ++ spare).take (0 + 0) ++ us ++ (vs ++ spare).drop (0 + 0 + us.length) = us ++ vs.drop m ++ spare := by
        rw [hl, Nat.zero_add, Nat.zero_add, List.drop_append_of_le_length (by omega)]
        simp
      rw [e] at hs
      exact hs

theorem wpList_copy {P : Program} {ops : Array Oper} {rest : List Oper} {o : Oper} {a : Act} {Q : Exit → Act → World → Prop} {W0 w : World} {H : Hp} {A F : List Hp} (hgd : o.guard = none) (d s : Operand) (dT sT elem : TypeId)
    (ho : o.op = .call { callee := .builtin .copy, args := #[d, s], argTypes := #[dT, sT] }) (hu : P.underlying dT = some (.slice elem)) (hz : (P.info? elem).map (·.size) = some 1)
    {D : Option Addr} {n cap : Nat} {vs : List Value} {h : Hp} (hd : a.eval d = .slice D n cap) (own : OwnS 1 (.slice D n cap) n vs h) (st : Sat W0 w H A) [fr : FrH h A F] {X : Option Addr} {m c : Nat} {us : List Value} (hx : a.eval s = .slice X m c) (hl : us.length = m) (hm : m ≤ n) (hus : RowR w X us)
    (h1 : ∀ x ∈ us, x.oneCell' = true)
    (k : ∀ w' h', OwnS 1 (.slice D n cap) n (us ++ vs.drop m) h' → Sat W0 w' H (h' :: F) → wpList P ops Q rest (a.put o.dst (goInt m)) w') : wpList P ops Q (o :: rest) a w := by
  obtain ⟨w', h', hr, ho', hs'⟩ := run_copy_sat (P := P) dT sT o.type elem hu hz own st.pull X m c us hl hm hus h1
  refine wpList_run hgd (v := goInt m) (w' := w') ?_ (k w' h' ho' hs')
  unfold execOp
  rw [ho]
  simp only [resolve, invoke]
  simp [builtin, hd, hx, hr]
end Go.Proofs.Ytiibiamobkhlbaa

namespace Go.Proofs.Ytiibiamobkhlbaa
open Go.RowKit
set_option linter.unusedVariables false

/-! ### word.Aligned, word.Within -/
section
variable {R : Ending → World → Prop} {w : World}

theorem c_Within (a n b s : Int) (h0 : 0 ≤ a ∧ a ≤ 18446744073709551615) (h1 : 0 ≤ n ∧ n ≤ 18446744073709551615) (h2 : 0 ≤ b ∧ b ≤ 18446744073709551615) (h3 : 0 ≤ s ∧ s ≤ 18446744073709551615)
    (k : R (.returned (.bool (decide (b ≤ a ∧ n ≤ s ∧ a - b ≤ s - n)))) w) : Calls Try.prog 126 #[.int .u64 a, .int .u64 n, .int .u64 b, .int .u64 s] w R := by
  by_cases c1 : a < b
  · go_enter Try.func126, Try.ntmps126
    go_wp2
    exact ret_b k (by simp; omega)
  · by_cases c2 : s < n
    · have c3 : b ≤ a := by omega
      clear c1
      go_enter Try.func126, Try.ntmps126
      go_wp2
      exact ret_b k (by simp; omega)
    · have c3 : b ≤ a := by omega
      have c4 : n ≤ s := by omega
      clear c1 c2
      go_enter Try.func126, Try.ntmps126
      go_wp2
      exact ret_b k (by simp [c3, c4])

theorem and_pow (x : Int) (k : Nat) (hk : k ≤ 63) (h0 : 0 ≤ x ∧ x ≤ 18446744073709551615) : bits .and .u64 x ((2 : Int) ^ k - 1) = x % (2 : Int) ^ k := by
  obtain ⟨m, rfl⟩ := Int.eq_ofNat_of_zero_le h0.1
  have h2 : (2 : Nat) ^ k ≤ 2 ^ 63 := Nat.pow_le_pow_right (by omega) hk
  have hp : 0 < (2 : Nat) ^ k := Nat.two_pow_pos k
  have e : ((2 : Int) ^ k - 1) = ((2 ^ k - 1 : Nat) : Int) := by
    rw [Int.ofNat_sub hp]
    simp
  have e2 : ((2 : Int) ^ k) = ((2 ^ k : Nat) : Int) := by simp
  rw [e, e2, ← Int.natCast_emod]
  show IntKind.u64.wrap ((BitVec.ofInt 64 (m : Int) &&& BitVec.ofInt 64 ((2 ^ k - 1 : Nat) : Int)).toNat : Int) = _
  rw [BitVec.ofInt_natCast, BitVec.ofInt_natCast, BitVec.toNat_and, BitVec.toNat_ofNat, BitVec.toNat_ofNat, Nat.mod_eq_of_lt (by omega), Nat.mod_eq_of_lt (by omega), Nat.and_two_pow_sub_one_eq_mod, wrap_u64]
  have : m % 2 ^ k ≤ m := Nat.mod_le _ _
  omega

theorem c_Aligned (x y : Int) (k : Nat) (hy : y = (2 : Int) ^ k) (hk : k ≤ 63) (h0 : 0 ≤ x ∧ x ≤ 18446744073709551615)
    (kk : R (.returned (.bool (decide (x % y = 0)))) w) : Calls Try.prog 106 #[.int .u64 x, .int .u64 y] w R := by
  have h2 : (2 : Nat) ^ k ≤ 2 ^ 63 := Nat.pow_le_pow_right (by omega) hk
  have hp : 0 < (2 : Nat) ^ k := Nat.two_pow_pos k
  have e2 : ((2 : Int) ^ k) = ((2 ^ k : Nat) : Int) := by simp
  have hy1 : 1 ≤ y := by omega
  have hy2 : y ≤ 9223372036854775808 := by omega
  have hy3 : (y == 0) = false := by rw [beq_eq_false_iff_ne]; omega
  have ha := and_pow x k hk h0
  rw [← hy] at ha
  have K : (bits .and .u64 x (y - 1) == 0) = decide (x % y = 0) := by rw [ha]; rfl
  have HK := aside K
  clear ha hy e2 K
  go_enter Try.func106, Try.ntmps106
  go_wp2
  exact ret_b kk HK.out.symm
end
end Go.Proofs.Ytiibiamobkhlbaa

namespace Go.Proofs.Ytiibiamobkhlbaa
open Go.RowKit
set_option linter.unusedVariables false

structure Ent where
  key : Nat
  blk : Nat
  born : Nat

def Ent.me (e : Ent) : MapEntry := { key := .int .u64 e.key, val := .pointer (some ⟨e.blk, 0, none⟩), born := e.born }

/-- the pages' bytes: 'base' the address of page 0, 'sz' a page's bytes -/
def pagesH (base sz : Nat) (ents : List Ent) (mem : Int → Int) : Hp
  | .cell b o => match ents.find? (fun e => e.blk == b) with
    | some e => if o < sz then some (.val (.int .u8 (mem ((base + sz * e.key + o : Nat) : Int))) false) else none
    | none => none
  | .obj _ => none

def updM (m : Int → Int) (a b : Int) : Int → Int := fun x => if x = a then b else m x

theorem find_blk {ents : List Ent} (hb : ents.Pairwise (·.blk ≠ ·.blk)) {e : Ent} (he : e ∈ ents) : ents.find? (fun x => x.blk == e.blk) = some e := by
  induction ents with
  | nil => cases he
  | cons x xs ih =>
    obtain ⟨h1, h2⟩ := List.pairwise_cons.1 hb
    rw [List.find?_cons]
    rcases List.mem_cons.1 he with rfl | he
    · simp
    · have : (x.blk == e.blk) = false := by simp [h1 e he]
      rw [this]; exact ih h2 he

theorem pagesH_at {base sz : Nat} {ents : List Ent} {mem : Int → Int} (hb : ents.Pairwise (·.blk ≠ ·.blk)) {e : Ent} (he : e ∈ ents) {o : Nat} (ho : o < sz) :
    pagesH base sz ents mem (.cell e.blk o) = some (.val (.int .u8 (mem ((base + sz * e.key + o : Nat) : Int))) false) := by
  simp [pagesH, find_blk hb he, ho]

theorem mul_place {sz k k' o o' : Nat} (ho : o < sz) (ho' : o' < sz) (h : sz * k + o = sz * k' + o') : k = k' ∧ o = o' := by
  have h1 : (sz * k + o) / sz = k := by rw [Nat.mul_add_div (by omega), Nat.div_eq_of_lt ho, Nat.add_zero]
  have h2 : (sz * k' + o') / sz = k' := by rw [Nat.mul_add_div (by omega), Nat.div_eq_of_lt ho', Nat.add_zero]
  have : k = k' := by rw [← h1, h, h2]
  subst this
  exact ⟨rfl, by omega⟩

/-- a byte stored into a page -/
theorem upH_pages {base sz : Nat} {ents : List Ent} {mem : Int → Int} (hb : ents.Pairwise (·.blk ≠ ·.blk)) (hk : ents.Pairwise (·.key ≠ ·.key)) {e : Ent} (he : e ∈ ents) {o : Nat} (ho : o < sz) (v : Int) :
    upH (pagesH base sz ents mem) e.blk o (.int .u8 v) = pagesH base sz ents (updM mem ((base + sz * e.key + o : Nat) : Int) v) := by
  funext l
  cases l with
  | obj b => simp [upH, pagesH]
  | cell b i =>
    by_cases hl : b = e.blk ∧ i = o
    · obtain ⟨rfl, rfl⟩ := hl
      simp [upH, pagesH, find_blk hb he, ho, updM]
    · have hne : ¬ (Loc.cell b i = Loc.cell e.blk o) := by intro h; injection h with h1 h2; exact hl ⟨h1, h2⟩
      simp only [upH, if_neg hne, pagesH]
      cases hf : ents.find? (fun x => x.blk == b) with
      | none => rfl
      | some x =>
        have hx := List.mem_of_find?_eq_some hf
        have hxb : x.blk = b := by simpa using List.find?_some hf
        by_cases hi : i < sz
        · simp only [if_pos hi]
          have : ((base + sz * x.key + i : Nat) : Int) ≠ ((base + sz * e.key + o : Nat) : Int) := by
            intro h
            have h' : sz * x.key + i = sz * e.key + o := by omega
            obtain ⟨h1, h2⟩ := mul_place hi ho h'
            -- one key, one entry
            have hxe : x = e := by
              obtain ⟨n, hn⟩ := List.getElem?_of_mem hx
              obtain ⟨m, hm⟩ := List.getElem?_of_mem he
              rcases Nat.decEq n m with hnm | hnm
              · exact absurd h1 (pairwise_get (R := fun a b : Ent => a.key ≠ b.key) (fun a b h => h.symm) hk n m x e hnm hn hm)
              · subst hnm; rw [hn] at hm; injection hm
            exact hl ⟨by rw [← hxb, hxe], h2⟩
          simp only [updM, if_neg this]
        · simp only [if_neg hi]

/-- a new page of zeros -/
theorem pages_new {base sz : Nat} {ents : List Ent} {mem : Int → Int} {e : Ent} (hfresh : ∀ x ∈ ents, x.blk ≠ e.blk) (hz : ∀ o, o < sz → mem ((base + sz * e.key + o : Nat) : Int) = 0) :
    un (pagesH base sz ents mem) (cellsH ⟨e.blk, 0, none⟩ (List.replicate sz (.int .u8 0))) = pagesH base sz (ents ++ [e]) mem := by
  funext l
  cases l with
  | obj b => simp [un, pagesH, cellsH]
  | cell b i =>
    simp only [un, pagesH, cellsH, List.find?_append, List.find?_cons, List.find?_nil]
    cases hf : ents.find? (fun x => x.blk == b) with
    | some x =>
      have hx := List.mem_of_find?_eq_some hf
      have hxb : x.blk = b := by simpa using List.find?_some hf
      have hne : ¬ (b = e.blk) := by rintro rfl; exact hfresh x hx hxb
      by_cases hi : i < sz <;> simp [hi, hne]
    | none =>
      by_cases hb : b = e.blk
      · subst hb
        by_cases hi : i < sz
        · have := hz i hi
          simp only [Int.natCast_add, Int.natCast_mul] at this
          simp [hi, this]
        · simp [hi]
      · have hbe : (e.blk == b) = false := by simp; exact fun h => hb h.symm
        simp [hb, hbe]

/-! ### A look into the map -/
theorem findNow_me (ents : List Ent) (k : Nat) : ∀ i, Instr.findNow (.int .u64) (.int .u64 (k : Int)) (ents.map Ent.me) i = some ((ents.zipIdx i).find? (fun x => x.1.key == k) |>.map fun x => (x.2, (Value.pointer (some ⟨x.1.blk, 0, none⟩)))) := by
  induction ents with
  | nil => intro i; rfl
  | cons e es ih =>
    intro i
    simp only [List.map_cons, Instr.findNow, Ent.me, Instr.sameNow, if_true, List.zipIdx_cons, List.find?_cons]
    by_cases h : e.key = k
    · subst h; simp
    · have h1 : (((k : Int)) == ((e.key : Nat) : Int)) = false := by simp; omega
      have h2 : (e.key == k) = false := by simp [h]
      rw [h1, h2]
      exact ih (i + 1)

theorem findNow_some {ents : List Ent} (hk : ents.Pairwise (·.key ≠ ·.key)) {e : Ent} (he : e ∈ ents) : ∃ j, Instr.findNow (.int .u64) (.int .u64 (e.key : Int)) (ents.map Ent.me) 0 = some (some (j, .pointer (some ⟨e.blk, 0, none⟩))) := by
  rw [findNow_me]
  cases hf : (ents.zipIdx 0).find? (fun x => x.1.key == e.key) with
  | none =>
    exfalso
    rw [List.find?_eq_none] at hf
    obtain ⟨n, hn⟩ := List.getElem?_of_mem he
    exact hf (e, n) (List.mem_zipIdx_iff_getElem?.2 (by simpa using hn)) (by simp)
  | some x =>
    obtain ⟨y, j⟩ := x
    have hx := List.mem_of_find?_eq_some hf
    have hxk : y.key = e.key := by simpa using List.find?_some hf
    have hy : ents[j]? = some y := by simpa using List.mem_zipIdx_iff_getElem?.1 hx
    obtain ⟨m, hm⟩ := List.getElem?_of_mem he
    have : y = e := by
      rcases Nat.decEq j m with hnm | hnm
      · exact absurd hxk (pairwise_get (R := fun a b : Ent => a.key ≠ b.key) (fun a b h => h.symm) hk j m y e hnm hy hm)
      · subst hnm; rw [hy] at hm; injection hm
    subst this
    exact ⟨j, rfl⟩

theorem findNow_none {ents : List Ent} {k : Nat} (h : ∀ e ∈ ents, e.key ≠ k) : Instr.findNow (.int .u64) (.int .u64 (k : Int)) (ents.map Ent.me) 0 = some none := by
  rw [findNow_me]
  have : (ents.zipIdx 0).find? (fun x => x.1.key == k) = none := by
    rw [List.find?_eq_none]
    rintro ⟨y, j⟩ hx
    have hy : ents[j]? = some y := by simpa using List.mem_zipIdx_iff_getElem?.1 hx
    simp [h y (List.mem_of_getElem? hy)]
  rw [this]; rfl

section
variable {P : Program} {w : World} {mt kt vt : TypeId} {mb ck : Nat} {ents : List Ent}

theorem run_checkKey (hk : P.underlying kt = some (.int .u64)) (b : Bool) (n : Nat) (v : Value) : (Instr.checkKey b (n + 1) kt v).run P w = .ok () w := by
  simp [Instr.checkKey, run_underlying hk]

theorem run_lookup_yes (hm : P.underlying mt = some (.map kt vt)) (hk : P.underlying kt = some (.int .u64)) (ho : w.heap[mb]? = some (.map (ents.map Ent.me).toArray ck)) (hp : ents.Pairwise (·.key ≠ ·.key)) {e : Ent} (he : e ∈ ents) :
    (Instr.lookup mt (.map (some mb)) (.int .u64 (e.key : Int)) true).run P w = .ok (.tuple #[.pointer (some ⟨e.blk, 0, none⟩), .bool true]) w := by
  obtain ⟨j, hj⟩ := findNow_some hp he
  simp [Instr.lookup, run_underlying hm, MapKept.run_getObj_map ho, run_checkKey hk, Instr.findKey, run_underlying hk, hj]

theorem run_lookup_no {z : Value} (hm : P.underlying mt = some (.map kt vt)) (hk : P.underlying kt = some (.int .u64)) (ho : w.heap[mb]? = some (.map (ents.map Ent.me).toArray ck)) {k : Nat} (hn : ∀ e ∈ ents, e.key ≠ k)
    (hz : (zeroValue vt).run P w = .ok z w) : (Instr.lookup mt (.map (some mb)) (.int .u64 (k : Int)) true).run P w = .ok (.tuple #[z, .bool false]) w := by
  simp [Instr.lookup, run_underlying hm, MapKept.run_getObj_map ho, run_checkKey hk, Instr.findKey, run_underlying hk, findNow_none hn, hz]

theorem run_mapNew (hm : P.underlying mt = some (.map kt vt)) (hk : P.underlying kt = some (.int .u64)) (ho : w.heap[mb]? = some (.map (ents.map Ent.me).toArray ck)) {k : Nat} (hn : ∀ e ∈ ents, e.key ≠ k) (blk : Nat) :
    (Instr.mapUpdate mt (.map (some mb)) (.int .u64 (k : Int)) (.pointer (some ⟨blk, 0, none⟩))).run P w = .ok () (setO w mb (.map ((ents ++ [Ent.mk k blk ck]).map Ent.me).toArray (ck + 1))) := by
  simp [Instr.mapUpdate, run_underlying hm, MapKept.run_getObj_map ho, run_checkKey hk, Instr.findKey, run_underlying hk, findNow_none hn, MapKept.run_setObj_map _ ho, setO, Ent.me]
end

/-! ### The object -/
structure RamG where
  size : Int
  mb : Nat
  ck : Nat
  ents : List Ent
  mem : Int → Int
  hsize : size % 4096 = 0 ∧ 4096 ≤ size ∧ size ≤ 268435456
  hkey : ents.Pairwise (·.key ≠ ·.key)
  hblk : ents.Pairwise (·.blk ≠ ·.blk)
  hborn : ents.Pairwise (·.born ≠ ·.born) ∧ ∀ e ∈ ents, e.born < ck
  hin : ∀ e ∈ ents, ((4096 * e.key : Nat) : Int) < size
  hmem : ∀ a, 0 ≤ mem a ∧ mem a ≤ 255
  hzero : ∀ k : Nat, (∀ e ∈ ents, e.key ≠ k) → ∀ o, o < 4096 → mem ((2147483648 + 4096 * k + o : Nat) : Int) = 0
  hlow : ∀ a : Int, a < 2147483648 → mem a = 0

/-- what a log holds -/
structure LogG where
  pb : Nat
  po : Nat
  wsl : Value
  wbk : Hp
  ws : List (Int × Int)
  rsl : Value
  rbk : Hp
  rs : List (Int × Int)
  hw : OwnS 2 wsl ws.length (ws.flatMap fun x => [.int .u64 x.1, .int .u64 x.2]) wbk
  hr : OwnS 2 rsl rs.length (rs.flatMap fun x => [.int .u64 x.1, .int .u64 x.2]) rbk

def logL : Option LogG → List Hp
  | none => []
  | some l => [cellsH ⟨l.pb, l.po, none⟩ [l.wsl, l.rsl], l.wbk, l.rbk]

/-- a memory's pieces, but for the log's -/
def ramL (p : Addr) (x : RamG × Option LogG) : List Hp :=
  cellsH p [.int .u64 x.1.size, .map (some x.1.mb), .pointer (x.2.map fun l => ⟨l.pb, l.po, none⟩)] :: objH x.1.mb (.map (x.1.ents.map Ent.me).toArray x.1.ck) :: pagesH 2147483648 4096 x.1.ents x.1.mem :: logL x.2

def RamG.has (r : RamG) (a n : Int) : Prop := 2147483648 ≤ a ∧ n ≤ r.size ∧ a - 2147483648 ≤ r.size - n
instance (r : RamG) (a n : Int) : Decidable (r.has a n) := by unfold RamG.has; infer_instance

def pageZ : Array Value := (List.replicate 4096 (.int .u8 0)).toArray
theorem info_page : ∃ i, Try.prog.info? 182 = some i ∧ i.zero = some (.agg pageZ) := by
  have h : (Try.prog.info? 182).map (fun i => i.zero) = some (some (.agg pageZ)) := by kernel_rfl
  cases hi : Try.prog.info? 182 with
  | none => simp [hi] at h
  | some i => simp [hi] at h; exact ⟨i, rfl, h⟩
theorem info_u8s : ∃ i, Try.prog.info? 5 = some i ∧ i.size = 1 := by
  have h : (Try.prog.info? 5).map (fun i => i.size) = some 1 := by kernel_rfl
  cases hi : Try.prog.info? 5 with
  | none => simp [hi] at h
  | some i => simp [hi] at h; exact ⟨i, rfl, h⟩
theorem run_pageBuild (w : World) : (Instr.build 182 #[]).run Try.prog w = .ok (.agg pageZ) w := by
  obtain ⟨i, hi, hz⟩ := info_page
  obtain ⟨j, hj, hs⟩ := info_u8s
  simp [Instr.build, zeroValue, typeInfo, hi, hz, run_underlying Try.underlying182, sizeOf, hj, Instr.fill, Value.cells]
theorem page_zero : pageZ = Try.zeroCells182 := by kernel_rfl
theorem zero_page (w : World) : (zeroValue 180).run Try.prog w = .ok (.pointer none) w := by kernel_rfl

section
variable {R : Ending → World → Prop} {W0 w : World} {H : Hp} {A F : List Hp} {b o : Nat} {r : RamG} {l : Option LogG}

theorem c_ramHas (s : Sat W0 w H A) [fr : FrK (κ := Addr) (ρ := fun _ => RamG × Option LogG) ramL ⟨b, o, none⟩ A (r, l) F] (a n : Int) (h0 : 0 ≤ a ∧ a ≤ 18446744073709551615) (h1 : 0 ≤ n ∧ n ≤ 18446744073709551615)
    (k : R (.returned (.bool (decide (r.has a n)))) w) : Calls Try.prog 63 #[.pointer (some ⟨b, o, none⟩), .int .u64 a, .int .u64 n] w R := by
  have s1 := s.front (mk := ramL) (k := ⟨b, o, none⟩)
  have c0 := s1.c0
  have hs := r.hsize
  clear s fr s1
  go_enter Try.func63, Try.ntmps63
  go_wp2_with (go_at_call 126; refine c_Within _ _ _ _ h0 h1 (by omega) (by omega) ?_)
  exact ret_b k (by rw [Bool.eq_iff_iff]; simp [RamG.has]; exact decide_eq_true_iff)

/-- a place of the memory, as a page and a place in it -/
theorem place_of {a size : Int} (h0 : 2147483648 ≤ a) (h1 : a - 2147483648 < size) : ∃ k j : Nat, j < 4096 ∧ (a - 2147483648) / 4096 = k ∧ (a - 2147483648) % 4096 = j ∧ a = ((2147483648 + 4096 * k + j : Nat) : Int) := by
  refine ⟨((a - 2147483648) / 4096).toNat, ((a - 2147483648) % 4096).toNat, by omega, by omega, by omega, by omega⟩

theorem c_ramGet (s : Sat W0 w H A) [fr : FrK (κ := Addr) (ρ := fun _ => RamG × Option LogG) ramL ⟨b, o, none⟩ A (r, l) F] (a : Int) (h0 : 2147483648 ≤ a) (h1 : a - 2147483648 < r.size)
    (k : R (.returned (.int .u8 (r.mem a))) w) : Calls Try.prog 64 #[.pointer (some ⟨b, o, none⟩), .int .u64 a] w R := by
  have s1 := s.front (mk := ramL) (k := ⟨b, o, none⟩)
  have c1 := s1.c 1 rfl
  have hs := r.hsize
  obtain ⟨kk, j, hj, e1, e2, e3⟩ := place_of h0 h1
  have ho := s1.obj (b := r.mb) (o := .map (r.ents.map Ent.me).toArray r.ck) (by simp [ramL])
  have hle : a ≤ 2415919104 := by omega
  by_cases he : ∃ e ∈ r.ents, e.key = kk
  · obtain ⟨e, hm, rfl⟩ := he
    have hl := run_lookup_yes (w := w) Try.underlying176 Try.underlying23 ho r.hkey hm
    have hcell := look_cell ((s1.each (pagesH 2147483648 4096 r.ents r.mem) (by simp [ramL])).1 _ _ (pagesH_at r.hblk hm hj))
    rw [← e3] at hcell
    rw [← e1] at hl
    have hjj : ((a - 2147483648) % 4096).toNat = j := by omega
    rw [← hjj] at hcell
    have hc := hcell.1
    have E3 := aside e3
    clear s fr s1 hcell e1 e2 e3 ho hjj
    go_enter Try.func64, Try.ntmps64
    go_wp2
    exact k
  · have hn : ∀ e ∈ r.ents, e.key ≠ kk := fun e hm h => he ⟨e, hm, h⟩
    have hz : r.mem a = 0 := by rw [e3]; exact r.hzero kk hn j hj
    have hl := run_lookup_no (w := w) (z := .pointer none) Try.underlying176 Try.underlying23 ho hn (zero_page w)
    rw [← e1] at hl
    rw [hz] at k
    clear s fr s1 e1 e2 e3 ho he hn hz
    go_enter Try.func64, Try.ntmps64
    go_wp2
    exact k

set_option maxRecDepth 100000 in
set_option maxHeartbeats 4000000 in
theorem c_ramSet (s : Sat W0 w H A) [fr : FrK (κ := Addr) (ρ := fun _ => RamG × Option LogG) ramL ⟨b, o, none⟩ A (r, l) F] (a v : Int) (h0 : 2147483648 ≤ a) (h1 : a - 2147483648 < r.size) (hv : 0 ≤ v ∧ v ≤ 255)
    (k : ∀ w' (r' : RamG), r'.mem = updM r.mem a v → r'.size = r.size → Sat W0 w' H (ramL ⟨b, o, none⟩ (r', l) ++ F) → R (.returned (.tuple #[])) w') :
    Calls Try.prog 117 #[.pointer (some ⟨b, o, none⟩), .int .u64 a, .int .u8 v] w R := by
  have s1 := s.front (mk := ramL) (k := ⟨b, o, none⟩)
  have c1 := s1.c 1 rfl
  have hs := r.hsize
  obtain ⟨kk, j, hj, e1, e2, e3⟩ := place_of h0 h1
  have ho := s1.obj (b := r.mb) (o := .map (r.ents.map Ent.me).toArray r.ck) (by simp [ramL])
  have hle : a ≤ 2415919104 := by omega
  have hjj : ((a - 2147483648) % 4096).toNat = j := by omega
  have hbd : ∀ x, 0 ≤ updM r.mem a v x ∧ updM r.mem a v x ≤ 255 := fun x => by unfold updM; split; exact hv; exact r.hmem x
  have hlo := aside (show ∀ x : Int, x < 2147483648 → updM r.mem a v x = 0 from fun x hx => by unfold updM; rw [if_neg (by omega)]; exact r.hlow x hx)
  by_cases he : ∃ e ∈ r.ents, e.key = kk
  · obtain ⟨e, hm, rfl⟩ := he
    have hl := run_lookup_yes (w := w) Try.underlying176 Try.underlying23 ho r.hkey hm
    have hat := pagesH_at (base := 2147483648) (mem := r.mem) r.hblk hm hj
    have hcell := look_cell ((s1.each (pagesH 2147483648 4096 r.ents r.mem) (by simp [ramL])).1 _ _ hat)
    have s2 : Sat W0 (w.setCell ⟨e.blk, j, none⟩ (.int .u8 v)) H (ramL ⟨b, o, none⟩ (⟨r.size, r.mb, r.ck, r.ents, updM r.mem a v, r.hsize, r.hkey, r.hblk, r.hborn, r.hin, hbd, fun k hk i hi => by
        have := r.hzero k hk i hi
        have hne : ((2147483648 + 4096 * k + i : Nat) : Int) ≠ a := by
          rw [e3]; intro h
          have h' : 4096 * k + i = 4096 * e.key + j := by omega
          exact hk e hm (mul_place hi hj h').1.symm
        unfold updM; rw [if_neg hne]; exact this, hlo⟩, l) ++ F) := by
      have s3 := (Sat.pull (h := pagesH 2147483648 4096 r.ents r.mem) (by simpa only [ramL, List.cons_append] using s1)).set hat (.int .u8 v)
      rw [upH_pages r.hblk r.hkey hm hj, ← e3] at s3
      simp only [ramL, List.cons_append]
      exact s3.wk
    rw [← e1] at hl
    have K := k _ _ (by exact rfl) (by exact rfl) s2
    rw [← hjj] at hcell K
    clear s2 s fr s1 e1 e2 e3 ho hjj hat k
    by_cases hv0 : v = 0
    all_goals
      have hvb : (v == 0) = decide (v = 0) := rfl
      go_enter Try.func117, Try.ntmps117
      go_wp2
      go_end0
      first | exact K | (subst hv0; exact K)
  · have hn : ∀ e ∈ r.ents, e.key ≠ kk := fun e hm h => he ⟨e, hm, h⟩
    have hz : r.mem a = 0 := by rw [e3]; exact r.hzero kk hn j hj
    have hl := run_lookup_no (w := w) (z := .pointer none) Try.underlying176 Try.underlying23 ho hn (zero_page w)
    rw [← e1] at hl
    by_cases hv0 : v = 0
    · subst hv0
      have hm : r.mem = updM r.mem a 0 := by
        funext x
        unfold updM
        by_cases hx : x = a
        · rw [if_pos hx, hx]; exact hz
        · rw [if_neg hx]
      have K := k _ r hm rfl s1
      clear s fr s1 e1 e2 e3 ho he hn hz hbd k hm
      go_enter Try.func117, Try.ntmps117
      go_wp2
      refine bodyPost_ret (results_none rfl _ _ _) rfl ?_
      exact K
    · have hvb : (v == 0) = false := by simp [hv0]
      have hpb := run_pageBuild
      -- the world with the new page, and the map with its entry
      have hblt : r.mb < w.heap.size := by
        have := Array.getElem?_eq_some_iff.1 ho
        exact this.1
      have ho2 : (w.alloc (.cells pageZ 182)).heap[r.mb]? = some (.map (r.ents.map Ent.me).toArray r.ck) := (Below.heap_alloc _ _ _ hblt).trans ho
      have hmu := run_mapNew Try.underlying176 Try.underlying23 ho2 hn w.heap.size
      rw [← e1] at hmu
      have s2 : Sat W0 (w.alloc (.cells pageZ 182)) H (cellsH ⟨w.heap.size, 0, none⟩ (List.replicate 4096 (.int .u8 0)) :: (ramL ⟨b, o, none⟩ (r, l) ++ F)) := s1.alloc
      have hfresh : ∀ x ∈ r.ents, x.blk ≠ w.heap.size := fun x hx => by
        have := look_lt ((s1.each (pagesH 2147483648 4096 r.ents r.mem) (by simp [ramL])).1 _ _ (pagesH_at (base := 2147483648) (mem := r.mem) (o := 0) r.hblk hx (by omega)))
        simp only [Loc.block] at this
        omega
      have hkey' : (r.ents ++ [Ent.mk kk w.heap.size r.ck]).Pairwise (fun x y => x.key ≠ y.key) := List.pairwise_append.2 ⟨r.hkey, by simp, fun x hx y hy => by simp at hy; subst hy; exact hn x hx⟩
      have hblk' : (r.ents ++ [Ent.mk kk w.heap.size r.ck]).Pairwise (fun x y => x.blk ≠ y.blk) := List.pairwise_append.2 ⟨r.hblk, by simp, fun x hx y hy => by simp at hy; subst hy; exact hfresh x hx⟩
      have hborn' : (r.ents ++ [Ent.mk kk w.heap.size r.ck]).Pairwise (fun x y => x.born ≠ y.born) := List.pairwise_append.2 ⟨r.hborn.1, by simp, fun x hx y hy => by simp at hy; subst hy; have := r.hborn.2 x hx; simp only; omega⟩
      have hmem' : Ent.mk kk w.heap.size r.ck ∈ r.ents ++ [Ent.mk kk w.heap.size r.ck] := by simp
      simp only [ramL, List.cons_append] at s2
      have s3 := (Sat.pull (h := objH r.mb (.map (r.ents.map Ent.me).toArray r.ck)) s2).setO (o' := .map ((r.ents ++ [Ent.mk kk w.heap.size r.ck]).map Ent.me).toArray (r.ck + 1)) (h' := objH r.mb (.map ((r.ents ++ [Ent.mk kk w.heap.size r.ck]).map Ent.me).toArray (r.ck + 1))) rfl (by intro c t f h; cases h) rfl
      have s4 := (Sat.pull (h := pagesH 2147483648 4096 r.ents r.mem) (Sat.pull (h := cellsH ⟨w.heap.size, 0, none⟩ (List.replicate 4096 (.int .u8 0))) s3)).merge
      rw [pages_new (e := Ent.mk kk w.heap.size r.ck) hfresh (fun o ho => r.hzero kk hn o ho)] at s4
      have hat := pagesH_at (base := 2147483648) (mem := r.mem) hblk' hmem' hj
      have hcell := look_cell ((s4.each _ (List.mem_cons_self ..)).1 _ _ hat)
      have s5 := s4.set hat (.int .u8 v)
      have e3' : a = ((2147483648 + 4096 * (Ent.mk kk w.heap.size r.ck).key + j : Nat) : Int) := e3
      rw [upH_pages hblk' hkey' hmem' hj, ← e3'] at s5
      have s6 : Sat W0 ((setO (w.alloc (.cells pageZ 182)) r.mb (.map ((r.ents ++ [Ent.mk kk w.heap.size r.ck]).map Ent.me).toArray (r.ck + 1))).setCell ⟨w.heap.size, j, none⟩ (.int .u8 v)) H (ramL ⟨b, o, none⟩ (⟨r.size, r.mb, r.ck + 1, r.ents ++ [Ent.mk kk w.heap.size r.ck], updM r.mem a v, r.hsize, hkey', hblk', ⟨hborn', fun e he => by
          rcases List.mem_append.1 he with h | h
          · have := r.hborn.2 e h; omega
          · simp at h; subst h; simp⟩, fun e he => by
          rcases List.mem_append.1 he with h | h
          · exact r.hin e h
          · simp at h; subst h; simp only; omega, hbd, fun k hk i hi => by
          have h1 := r.hzero k (fun e he => hk e (List.mem_append_left _ he)) i hi
          have hne : ((2147483648 + 4096 * k + i : Nat) : Int) ≠ a := by
            rw [e3]; intro h
            have h' : 4096 * k + i = 4096 * kk + j := by omega
            exact hk _ hmem' (mul_place hi hj h').1.symm
          unfold updM; rw [if_neg hne]; exact h1, hlo⟩, l) ++ F) := by
        simp only [ramL, List.cons_append]
        exact s5.wk
      have K := k _ _ (by exact rfl) (by exact rfl) s6
      have c2 := s2.cel b o 1 rfl
      simp only [] at hcell K
      rw [← hjj] at hcell K
      rw [page_zero] at hmu hcell K c2
      generalize Obj.map ((r.ents ++ [Ent.mk kk w.heap.size r.ck]).map Ent.me).toArray (r.ck + 1) = ob at hmu hcell K
      clear s2 s3 s4 s5 s6 s fr s1 e1 e2 e3 e3' ho ho2 hjj hat k
      go_enter Try.func117, Try.ntmps117
      go_wp2
      go_end0
      exact K
end

end Go.Proofs.Ytiibiamobkhlbaa

namespace Go.Proofs.Ytiibiamobkhlbaa
open Go.RowKit
set_option linter.unusedVariables false

/-- n bytes from a place on -/
def rdB (m : Int → Int) (a : Int) : Nat → List Int
  | 0 => []
  | n + 1 => rdB m a n ++ [m (a + n)]
theorem rdB_len (m : Int → Int) (a : Int) (n : Nat) : (rdB m a n).length = n := by induction n with | zero => rfl | succ n ih => simp [rdB, ih]
theorem rdB_get (m : Int → Int) (a : Int) (n i : Nat) (h : i < n) : (rdB m a n)[i]? = some (m (a + i)) := by
  induction n with
  | zero => omega
  | succ n ih =>
    rw [rdB]
    by_cases hi : i < n
    · rw [List.getElem?_append_left (by rw [rdB_len]; exact hi)]; exact ih hi
    · obtain rfl : i = n := by omega
      rw [List.getElem?_append_right (by rw [rdB_len]; omega), rdB_len]; simp

/-- bytes as a word, the lowest first -/
def ofB : List Int → Int
  | [] => 0
  | b :: bs => b + 256 * ofB bs
theorem ofB_snoc (l : List Int) (x : Int) : ofB (l ++ [x]) = ofB l + 256 ^ l.length * x := by
  induction l with
  | nil => simp [ofB]
  | cons b bs ih => simp only [List.cons_append, ofB, ih, List.length_cons, Int.pow_succ]; rw [Int.mul_add, Int.add_assoc, Int.mul_comm (256 ^ bs.length) 256, Int.mul_assoc]
theorem ofB_bd {l : List Int} (h : ∀ x ∈ l, 0 ≤ x ∧ x ≤ 255) : 0 ≤ ofB l ∧ ofB l < 256 ^ l.length := by
  induction l with
  | nil => simp [ofB]
  | cons b bs ih =>
    have h1 := ih (fun x hx => h x (List.mem_cons_of_mem _ hx))
    have h2 := h b (List.mem_cons_self ..)
    simp only [ofB, List.length_cons, Int.pow_succ]
    omega
theorem rdB_bd {m : Int → Int} (hm : ∀ a, 0 ≤ m a ∧ m a ≤ 255) (a : Int) (n : Nat) : ∀ x ∈ rdB m a n, 0 ≤ x ∧ x ≤ 255 := by
  induction n with
  | zero => simp [rdB]
  | succ n ih =>
    intro x hx
    rw [rdB] at hx
    rcases List.mem_append.1 hx with h | h
    · exact ih x h
    · simp at h; subst h; exact hm _

/-- bytes put at a place -/
def putB (m : Int → Int) (a : Int) (bs : List Int) : Int → Int := fun x => if a ≤ x then (bs[(x - a).toNat]?).getD (m x) else m x
theorem putB_nil (m : Int → Int) (a : Int) : putB m a [] = m := by funext x; simp [putB]
theorem putB_snoc (m : Int → Int) (a : Int) (bs : List Int) (v : Int) : putB m a (bs ++ [v]) = updM (putB m a bs) (a + bs.length) v := by
  funext x
  unfold putB updM
  by_cases h : a ≤ x
  · simp only [if_pos h]
    by_cases h2 : x = a + bs.length
    · subst h2
      have : (a + (bs.length : Int) - a).toNat = bs.length := by omega
      rw [if_pos rfl, this, List.getElem?_append_right (Nat.le_refl _)]; simp
    · rw [if_neg h2]
      rcases Nat.lt_or_ge (x - a).toNat bs.length with h3 | h3
      · rw [List.getElem?_append_left h3]
      · rw [List.getElem?_append_right h3, List.getElem?_eq_none (l := bs) h3, List.getElem?_eq_none (by simp; omega)]
  · have : x ≠ a + bs.length := by omega
    simp only [if_neg h, if_neg this]

section
variable {R : Ending → World → Prop} {W0 w : World} {H : Hp} {A F : List Hp} {b o : Nat} {r : RamG} {l : Option LogG}

def sizedP (n : Int) : Prop := n = 1 ∨ n = 2 ∨ n = 4 ∨ n = 8
instance (n : Int) : Decidable (sizedP n) := by unfold sizedP; infer_instance

set_option maxRecDepth 100000 in
set_option maxHeartbeats 4000000 in
theorem c_ramSized (n : Int) (k : R (.returned (.bool (decide (sizedP n)))) w) : Calls Try.prog 62 #[.int .i64 n] w R := by
  by_cases h1 : n = 1
  · subst h1
    go_enter Try.func62, Try.ntmps62
    go_wp2
    exact k
  by_cases h2 : n = 2
  · subst h2
    go_enter Try.func62, Try.ntmps62
    go_wp2
    exact k
  by_cases h4 : n = 4
  · subst h4
    go_enter Try.func62, Try.ntmps62
    go_wp2
    exact k
  have e1 : (n == 1) = false := by simp [h1]
  have e2 : (n == 2) = false := by simp [h2]
  have e4 : (n == 4) = false := by simp [h4]
  go_enter Try.func62, Try.ntmps62
  go_wp2
  exact ret_b k (by rw [Bool.eq_iff_iff]; simp [sizedP, h1, h2, h4])

/-- a new memory -/
def RamG.new (size : Int) (mb : Nat) (h : size % 4096 = 0 ∧ 4096 ≤ size ∧ size ≤ 268435456) : RamG := ⟨size, mb, 0, [], fun _ => 0, h, by simp, by simp, ⟨by simp, by simp⟩, by simp, by simp, by simp, by simp⟩

theorem pagesH_none (base sz : Nat) (m : Int → Int) : pagesH base sz [] m = empH := by
  funext x; cases x <;> rfl

def rightP (n : Int) : Prop := n % 4096 = 0 ∧ 4096 ≤ n ∧ n ≤ 268435456
instance (n : Int) : Decidable (rightP n) := by unfold rightP; infer_instance

set_option maxRecDepth 100000 in
set_option maxHeartbeats 4000000 in
theorem c_ramNewBad (n : Int) (h0 : 0 ≤ n ∧ n ≤ 18446744073709551615) (hr : ¬ rightP n)
    (k : R (.returned (.tuple #[.pointer none, .int .i64 20])) w) : Calls Try.prog 49 #[.int .u64 n] w R := by
  unfold rightP at hr
  by_cases h1 : n < 4096
  · go_enter Try.func49, Try.ntmps49
    go_wp2
    exact k
  by_cases h2 : n > 268435456
  · go_enter Try.func49, Try.ntmps49
    go_wp2
    exact k
  have h3 : ¬ (n % 4096 = 0) := by omega
  go_enter Try.func49, Try.ntmps49
  go_wp2_with (go_at_call 106; refine c_Aligned _ _ 12 (by decide) (by omega) (by omega) ?_)
  exact k

set_option maxRecDepth 100000 in
set_option maxHeartbeats 4000000 in
theorem c_ramNew (s : Sat W0 w H A) (n : Int) (hr : n % 4096 = 0 ∧ 4096 ≤ n ∧ n ≤ 268435456)
    (k : ∀ w' b mb, Sat W0 w' H (ramL ⟨b, 0, none⟩ (RamG.new n mb hr, none) ++ A) → R (.returned (.tuple #[.pointer (some ⟨b, 0, none⟩), .int .i64 0])) w') : Calls Try.prog 49 #[.int .u64 n] w R := by
  have hmm : ∀ W, (Instr.makeMap 176 none).run Try.prog W = .ok (.map (some W.heap.size)) (W.alloc (.map #[] 0)) := fun W => run_makeMap _ W
  go_enter Try.func49, Try.ntmps49
  go_wp2_with (go_at_call 106; refine c_Aligned _ _ 12 (by decide) (by omega) (by omega) ?_)
  have s1 := ((s.allocO (o := .map #[] 0) (by intro c t f h; cases h)).alloc (c := [.int .u64 n, .map (some w.heap.size), .pointer none]) (t := 179)).emp
  rw [← pagesH_none 2147483648 4096 (fun _ => 0), World.size_alloc] at s1
  refine k _ _ w.heap.size ?_
  show Sat W0 _ H (cellsH ⟨w.heap.size + 1, 0, none⟩ [.int .u64 n, .map (some w.heap.size), .pointer none] :: objH w.heap.size (.map #[] 0) :: pagesH 2147483648 4096 [] (fun _ => 0) :: A)
  exact s1.wk

/-! ### Load -/
theorem or_step (x y : Int) (i : Nat) (hi : i < 8) (hx : 0 ≤ x ∧ x < 256 ^ i) (hy : 0 ≤ y ∧ y ≤ 255) : bits .or .u64 x (y * 256 ^ i) = x + 256 ^ i * y := by
  obtain ⟨x, rfl⟩ := Int.eq_ofNat_of_zero_le hx.1
  obtain ⟨y, rfl⟩ := Int.eq_ofNat_of_zero_le hy.1
  have h1 : x < 256 ^ i := by have := hx.2; rw [show (256 : Int) ^ i = ((256 ^ i : Nat) : Int) by simp] at this; omega
  have h2 : y * 256 ^ i < 18446744073709551616 := by
    have a1 : y * 256 ^ i ≤ 255 * 256 ^ i := Nat.mul_le_mul_right _ (by omega)
    have a2 : 256 ^ i ≤ 256 ^ 7 := Nat.pow_le_pow_right (by omega) (by omega)
    have a3 : (256 : Nat) ^ 7 = 72057594037927936 := by decide
    omega
  have h3 : (256 : Nat) ^ i ≤ 256 ^ 7 := Nat.pow_le_pow_right (by omega) (by omega)
  have h4 : (256 : Nat) ^ 7 = 72057594037927936 := by decide
  have e : ((y : Int) * 256 ^ i) = ((y * 256 ^ i : Nat) : Int) := by simp
  have hp : (256 : Nat) ^ i = 2 ^ (8 * i) := by rw [Nat.pow_mul]
  rw [e, u64_or_nat _ _ (by omega) h2, Nat.or_comm, nat_join (8 * i) _ _ (by rw [hp]; exact Nat.mul_mod_left _ _) (by rw [← hp]; exact h1)]
  simp
  rw [Int.add_comm, Int.mul_comm]

theorem or_step2 (x y : Int) (i : Nat) (hi : i < 8) (hx : 0 ≤ x ∧ x < 256 ^ i) (hy : 0 ≤ y ∧ y ≤ 255) : bits .or .u64 x (IntKind.u64.wrap (y * 2 ^ (8 * i))) = x + 256 ^ i * y := by
  have hp : (2 : Int) ^ (8 * i) = 256 ^ i := by rw [Int.pow_mul]; rfl
  have h3 : (256 : Nat) ^ i ≤ 256 ^ 7 := Nat.pow_le_pow_right (by omega) (by omega)
  have h4 : (256 : Nat) ^ 7 = 72057594037927936 := by decide
  have h5 : (256 : Int) ^ i = ((256 ^ i : Nat) : Int) := by simp
  have h6 : 0 ≤ y * (256 : Int) ^ i := Int.mul_nonneg hy.1 (by rw [h5]; omega)
  have h7 : y * (256 : Int) ^ i ≤ 255 * 72057594037927936 := Int.mul_le_mul hy.2 (by rw [h5]; omega) (by rw [h5]; omega) (by omega)
  rw [hp, wrap_u64, Int.emod_eq_of_lt h6 (by omega), or_step x y i hi hx hy]

set_option maxRecDepth 100000 in
set_option maxHeartbeats 4000000 in
theorem c_ramLoad (s : Sat W0 w H A) [fr : FrK (κ := Addr) (ρ := fun _ => RamG × Option LogG) ramL ⟨b, o, none⟩ A (r, l) F] (a n : Int) (h0 : 0 ≤ a ∧ a ≤ 18446744073709551615) (hn : -9223372036854775808 ≤ n ∧ n ≤ 9223372036854775807)
    (kb : ¬ (sizedP n ∧ r.has a n) → R (.returned (.tuple #[.int .u64 0, .bool false])) w)
    (k : (sizedP n ∧ r.has a n) → R (.returned (.tuple #[.int .u64 (ofB (rdB r.mem a n.toNat)), .bool true])) w) : Calls Try.prog 19 #[.pointer (some ⟨b, o, none⟩), .int .u64 a, .int .i64 n] w R := by
  by_cases hs : sizedP n
  · have hu : IntKind.u64.wrap n = n := by rw [wrap_u64]; unfold sizedP at hs; omega
    by_cases hh : r.has a n
    · have K := k ⟨hs, hh⟩
      have hz := r.hsize
      obtain ⟨m, rfl⟩ : ∃ m : Nat, n = m := ⟨n.toNat, by unfold sizedP at hs; omega⟩
      rw [Int.toNat_natCast] at K
      have h8 : m ≤ 8 := by unfold sizedP at hs; omega
      unfold RamG.has at hh
      go_enter Try.func19, Try.ntmps19
      go_wp2_with (first | (go_at_call 62; refine c_ramSized _ ?_; rw [decide_eq_true hs]) | (go_at_call 63; refine c_ramHas s _ _ h0 (by omega) ?_; rw [decide_eq_true (show r.has a m from hh)]))
      clear k kb
      go_loopg [8, 9, 22] m (fun q v8 v9 v22 w' => ∃ i : Nat, q + i = m ∧ w' = w ∧ v8 = .int .u64 (ofB (rdB r.mem a i)) ∧ v22 = .int .i64 i)
      case atStart => exact ⟨0, by simp, rfl, rfl, rfl⟩
      case round =>
        obtain ⟨i, hq, rfl, rfl, rfl⟩ := hrel
        by_cases hi : i < m
        · have hb := ofB_bd (rdB_bd r.hmem a i)
          rw [rdB_len] at hb
          have hy := r.hmem (a + i)
          have e1 : IntKind.u64.wrap (i : Int) = i := by rw [wrap_u64]; omega
          have e2 : IntKind.u64.wrap (a + i) = a + i := by rw [wrap_u64]; omega
          have hx : ofB (rdB r.mem a (i + 1)) = ofB (rdB r.mem a i) + 256 ^ i * r.mem (a + i) := by rw [rdB, ofB_snoc, rdB_len]
          have hg0 : 2147483648 ≤ a + i := by omega
          have hg1 : a + i - 2147483648 < r.size := by omega
          obtain ⟨Y, hY⟩ : ∃ Y, r.mem (a + i) = Y := ⟨_, rfl⟩
          obtain ⟨X, hX⟩ : ∃ X, ofB (rdB r.mem a i) = X := ⟨_, rfl⟩
          rw [hX, hY] at hx
          rw [hX] at hb
          rw [hY] at hy
          have hor := aside (or_step2 X Y i (by omega) hb hy)
          replace hx := aside hx
          replace hY := aside hY
          replace hb := aside hb
          rw [hX]
          replace hX := aside hX
          clear hz hn hs hu hh h0
          go_wp2_with (go_at_call 64; refine c_ramGet s _ hg0 hg1 ?_; rw [hY.out])
          go_roundg (gk - 1)
          case measure => omega
          case rel => exact ⟨i + 1, by omega, rfl, by rw [hx.out, hor.out], by go_num⟩
        · obtain rfl : i = m := by omega
          go_wp2
          exact K
    · go_enter Try.func19, Try.ntmps19
      go_wp2_with (first | (go_at_call 62; refine c_ramSized _ ?_; rw [decide_eq_true hs]) | (go_at_call 63; refine c_ramHas s _ _ h0 (by unfold sizedP at hs; omega) ?_; rw [decide_eq_false hh]))
      exact kb (fun h => hh h.2)
  · go_enter Try.func19, Try.ntmps19
    go_wp2_with (go_at_call 62; refine c_ramSized _ ?_; rw [decide_eq_false hs])
    exact kb (fun h => hs h.1)
end

end Go.Proofs.Ytiibiamobkhlbaa

namespace Go.Proofs.Ytiibiamobkhlbaa
open Go.RowKit
set_option linter.unusedVariables false

theorem ofB_leb (n : Nat) : ∀ (k : Nat), ofB (leb (k : Int) n) = ((k % 256 ^ n : Nat) : Int) := by
  induction n with
  | zero => intro k; simp [leb, ofB, Nat.mod_one]
  | succ n ih =>
    intro k
    have e : ((k : Int) / 256) = ((k / 256 : Nat) : Int) := by simp
    rw [leb, ofB, e, ih, Nat.pow_succ, Nat.mul_comm (256 ^ n) 256, Nat.mod_mul]
    simp

/-- a byte beside -/
theorem putB_out (m : Int → Int) (a : Int) (bs : List Int) (x : Int) (h : x < a ∨ a + bs.length ≤ x) : putB m a bs x = m x := by
  unfold putB
  by_cases h1 : a ≤ x
  · rw [if_pos h1, List.getElem?_eq_none (by omega)]; rfl
  · rw [if_neg h1]
end Go.Proofs.Ytiibiamobkhlbaa

namespace Go.Proofs.Ytiibiamobkhlbaa
open Go.RowKit
set_option linter.unusedVariables false

/-- the entries, where key k has the block P now -/
def putEnt (ents : List Ent) (k P ck : Nat) : List Ent :=
  if ∃ e ∈ ents, e.key = k then ents.map (fun x => if x.key = k then ⟨k, P, x.born⟩ else x) else ents ++ [⟨k, P, ck⟩]
def putCk (ents : List Ent) (k ck : Nat) : Nat := if ∃ e ∈ ents, e.key = k then ck else ck + 1

section
variable {P : Program} {w : World} {mt kt vt : TypeId} {mb ck : Nat} {ents : List Ent}

theorem findNow_old {ents : List Ent} (hk : ents.Pairwise (·.key ≠ ·.key)) {e : Ent} (he : e ∈ ents) : ∃ j, ents[j]? = some e ∧ Instr.findNow (.int .u64) (.int .u64 (e.key : Int)) (ents.map Ent.me) 0 = some (some (j, .pointer (some ⟨e.blk, 0, none⟩))) := by
  rw [findNow_me]
  cases hf : (ents.zipIdx 0).find? (fun x => x.1.key == e.key) with
  | none =>
    exfalso
    rw [List.find?_eq_none] at hf
    obtain ⟨n, hn⟩ := List.getElem?_of_mem he
    exact hf (e, n) (List.mem_zipIdx_iff_getElem?.2 (by simpa using hn)) (by simp)
  | some x =>
    obtain ⟨y, j⟩ := x
    have hx := List.mem_of_find?_eq_some hf
    have hxk : y.key = e.key := by simpa using List.find?_some hf
    have hy : ents[j]? = some y := by simpa using List.mem_zipIdx_iff_getElem?.1 hx
    obtain ⟨m, hm⟩ := List.getElem?_of_mem he
    have : y = e := by
      rcases Nat.decEq j m with hnm | hnm
      · exact absurd hxk (pairwise_get (R := fun a b : Ent => a.key ≠ b.key) (fun a b h => h.symm) hk j m y e hnm hy hm)
      · subst hnm; rw [hy] at hm; injection hm
    subst this
    exact ⟨j, hy, rfl⟩

theorem run_mapPut (hm : P.underlying mt = some (.map kt vt)) (hk : P.underlying kt = some (.int .u64)) (hp : ents.Pairwise (·.key ≠ ·.key)) (ho : w.heap[mb]? = some (.map (ents.map Ent.me).toArray ck)) (k blk : Nat) :
    (Instr.mapUpdate mt (.map (some mb)) (.int .u64 (k : Int)) (.pointer (some ⟨blk, 0, none⟩))).run P w = .ok () (setO w mb (.map ((putEnt ents k blk ck).map Ent.me).toArray (putCk ents k ck))) := by
  by_cases he : ∃ e ∈ ents, e.key = k
  · unfold putEnt putCk
    rw [if_pos he, if_pos he]
    obtain ⟨e, hmem, rfl⟩ := he
    obtain ⟨j, hj, hf⟩ := findNow_old hp hmem
    have hmod : (ents.map Ent.me).modify j (fun x => { x with key := .int .u64 (e.key : Int), val := .pointer (some ⟨blk, 0, none⟩) }) = (ents.map (fun x => if x.key = e.key then (⟨e.key, blk, x.born⟩ : Ent) else x)).map Ent.me := by
      apply List.ext_getElem?
      intro m
      rw [List.getElem?_modify, List.getElem?_map, List.getElem?_map, List.getElem?_map]
      by_cases hjm : j = m
      · subst hjm
        rw [hj]
        simp [Ent.me]
      · cases hem : ents[m]? with
        | none => simp [hjm]
        | some y =>
          have hne : ¬ y.key = e.key := fun h => pairwise_get (R := fun a b : Ent => a.key ≠ b.key) (fun a b h => h.symm) hp m j y e (Ne.symm hjm) hem hj h
          simp [hjm, hne]
    have hold : ((ents.map Ent.me).toArray[j]?).map (·.key) = some (.int .u64 (e.key : Int)) := by simp [hj, Ent.me]
    simp [Instr.mapUpdate, run_underlying hm, MapKept.run_getObj_map ho, run_checkKey hk, Instr.findKey, run_underlying hk, hf, Instr.keyThatStays, Instr.sameBits, MapKept.run_setObj_map _ ho, setO, hj, Ent.me, hmod]
    try (rw [← hmod]; simp [Ent.me])
  · unfold putEnt putCk
    rw [if_neg he, if_neg he]
    exact run_mapNew hm hk ho (fun e hm h => he ⟨e, hm, h⟩) blk
end

theorem Sat.shrink {W0 w : World} {H h h' : Hp} {F : List Hp} (s : Sat W0 w H (h :: F)) (le : ∀ l c, h' l = some c → h l = some c) : Sat W0 w H (h' :: F) := by
  have ap := List.pairwise_cons.1 s.apart
  have e := s.each h (List.mem_cons_self ..)
  have dj : ∀ k : Hp, Dj h k → Dj h' k := fun k d l => by
    rcases d l with h1 | h1
    · refine .inl ?_
      cases hh : h' l with
      | none => rfl
      | some c => rw [le l c hh] at h1; cases h1
    · exact .inr h1
  refine ⟨s.below, s.ro, s.old, List.pairwise_cons.2 ⟨fun k hk => dj k (ap.1 k hk), ap.2⟩, fun k hk => ?_⟩
  rcases List.mem_cons.1 hk with rfl | hk
  · exact ⟨fun l c hl => e.1 l c (le l c hl), dj H e.2⟩
  · exact s.each k (List.mem_cons_of_mem _ hk)

theorem find_none {ents : List Ent} {b : Nat} (h : ∀ x ∈ ents, x.blk ≠ b) : ents.find? (fun x => x.blk == b) = none := by
  rw [List.find?_eq_none]
  intro x hx
  simp [h x hx]

/-- the pages without a key's -/
theorem pages_less {ba sz : Nat} {ents : List Ent} {mem : Int → Int} (hb : ents.Pairwise (·.blk ≠ ·.blk)) (k : Nat) : ∀ l c, pagesH ba sz (ents.filter (fun x => x.key ≠ k)) mem l = some c → pagesH ba sz ents mem l = some c := by
  intro l c h
  cases l with
  | obj b => simp [pagesH] at h
  | cell b o =>
    by_cases hx : ∃ x ∈ ents.filter (fun x => x.key ≠ k), x.blk = b
    · obtain ⟨x, hx, rfl⟩ := hx
      have hb2 : (ents.filter (fun x => x.key ≠ k)).Pairwise (·.blk ≠ ·.blk) := hb.sublist (List.filter_sublist)
      simp only [pagesH, find_blk hb2 hx] at h
      simp only [pagesH, find_blk hb (List.mem_filter.1 hx).1]
      exact h
    · simp only [pagesH, find_none (fun x hm e => hx ⟨x, hm, e⟩)] at h
      cases h

theorem mem_putEnt {ents : List Ent} {k P ck : Nat} {x : Ent} (h : x ∈ putEnt ents k P ck) : (x ∈ ents ∧ x.key ≠ k) ∨ (x.key = k ∧ x.blk = P) := by
  unfold putEnt at h
  split at h
  · obtain ⟨y, hy, rfl⟩ := List.mem_map.1 h
    by_cases hk : y.key = k
    · right; simp [hk]
    · left; simp [hk, hy]
  · rename_i hn
    rcases List.mem_append.1 h with h | h
    · exact .inl ⟨h, fun e => hn ⟨x, h, e⟩⟩
    · simp at h; subst h; exact .inr ⟨rfl, rfl⟩
theorem putEnt_old {ents : List Ent} {k P ck : Nat} {x : Ent} (h : x ∈ ents) (hk : x.key ≠ k) : x ∈ putEnt ents k P ck := by
  unfold putEnt
  split
  · exact List.mem_map.2 ⟨x, h, by simp [hk]⟩
  · exact List.mem_append_left _ h
theorem putEnt_new {ents : List Ent} {k P ck : Nat} : ∃ x ∈ putEnt ents k P ck, x.key = k ∧ x.blk = P := by
  unfold putEnt
  split
  · rename_i h
    obtain ⟨e, he, hk⟩ := h
    exact ⟨⟨k, P, e.born⟩, List.mem_map.2 ⟨e, he, by simp [hk]⟩, rfl, rfl⟩
  · exact ⟨⟨k, P, ck⟩, by simp, rfl, rfl⟩
theorem putEnt_pw {ents : List Ent} {k P ck : Nat} (hk : ents.Pairwise (·.key ≠ ·.key)) (hb : ents.Pairwise (·.blk ≠ ·.blk)) (hborn : ents.Pairwise (·.born ≠ ·.born) ∧ ∀ e ∈ ents, e.born < ck) (hf : ∀ x ∈ ents, x.blk ≠ P) :
    (putEnt ents k P ck).Pairwise (·.key ≠ ·.key) ∧ (putEnt ents k P ck).Pairwise (·.blk ≠ ·.blk) ∧ ((putEnt ents k P ck).Pairwise (·.born ≠ ·.born) ∧ ∀ e ∈ putEnt ents k P ck, e.born < putCk ents k ck) := by
  unfold putEnt putCk
  split
  · refine ⟨?_, ?_, ?_, ?_⟩
    · rw [List.pairwise_map]
      exact hk.imp (fun {a b} h => by by_cases h1 : a.key = k <;> by_cases h2 : b.key = k <;> simp [h1, h2] <;> first | (rw [h1, h2] at h; exact h rfl) | (intro e; first | exact h2 e.symm | exact h1 e) | exact h)
    · rw [List.pairwise_map]
      refine (hk.and hb).imp_of_mem (fun {a b} ha hb' h => ?_)
      by_cases h1 : a.key = k <;> by_cases h2 : b.key = k <;> simp [h1, h2]
      · exact absurd (h1.trans h2.symm) h.1
      · exact fun e => hf b hb' e.symm
      · exact fun e => hf a ha e
      · exact h.2
    · rw [List.pairwise_map]
      exact hborn.1.imp (fun {a b} h => by by_cases h1 : a.key = k <;> by_cases h2 : b.key = k <;> simp [h1, h2] <;> exact h)
    · intro e he
      obtain ⟨y, hy, rfl⟩ := List.mem_map.1 he
      have := hborn.2 y hy
      by_cases h1 : y.key = k <;> simp [h1] <;> exact this
  · rename_i hn
    refine ⟨List.pairwise_append.2 ⟨hk, by simp, fun x hx y hy => by simp at hy; subst hy; exact fun e => hn ⟨x, hx, e⟩⟩, List.pairwise_append.2 ⟨hb, by simp, fun x hx y hy => by simp at hy; subst hy; exact hf x hx⟩, List.pairwise_append.2 ⟨hborn.1, by simp, fun x hx y hy => by simp at hy; subst hy; have := hborn.2 x hx; simp only; omega⟩, fun e he => ?_⟩
    rcases List.mem_append.1 he with h | h
    · have := hborn.2 e h; omega
    · simp at h; subst h; simp

theorem putB_bd {m : Int → Int} (hm : ∀ a, 0 ≤ m a ∧ m a ≤ 255) (A : Int) {bs : List Int} (hb : ∀ x ∈ bs, 0 ≤ x ∧ x ≤ 255) : ∀ a, 0 ≤ putB m A bs a ∧ putB m A bs a ≤ 255 := by
  intro x
  unfold putB
  split
  · cases h : bs[(x - A).toNat]? with
    | none => exact hm x
    | some y => exact hb y (List.mem_of_getElem? h)
  · exact hm x

theorem rdB_zero {m : Int → Int} {a : Int} : ∀ (n : Nat), (∀ i : Nat, i < n → m (a + i) = 0) → rdB m a n = List.replicate n 0
  | 0, _ => rfl
  | n + 1, h => by
    rw [rdB, rdB_zero n (fun i hi => h i (by omega)), h n (by omega), List.replicate_succ']

theorem rdB_same {m m' : Int → Int} (a : Int) : ∀ (n : Nat), (∀ i : Nat, i < n → m' (a + i) = m (a + i)) → rdB m' a n = rdB m a n
  | 0, _ => rfl
  | n + 1, h => by rw [rdB, rdB, rdB_same a n (fun i hi => h i (by omega)), h n (by omega)]

theorem Sat.frozenD {W0 w : World} {H h : Hp} {A : List Hp} (s : Sat W0 w H (h :: A)) : ∀ l c, h l = some c → un H h l = some c := by
  intro l c e
  rcases (s.each h (List.mem_cons_self ..)).2 l with h1 | h1
  · rw [e] at h1; cases h1
  · simp [un, h1, e]
theorem un_leftD {H h : Hp} : ∀ l c, H l = some c → un H h l = some c := by intro l c e; simp [un, e]


theorem Sat.setCells {W0 : World} {H : Hp} {F : List Hp} {b : Nat} : ∀ (us : List Value) (o : Nat) (w : World) (vs : List Value), Sat W0 w H (cellsH ⟨b, 0, none⟩ vs :: F) → o + us.length ≤ vs.length → Sat W0 (w.setCells b o us) H (cellsH ⟨b, 0, none⟩ (vs.take o ++ us ++ vs.drop (o + us.length)) :: F)
  | [], o, w, vs, s, _ => by simpa [World.setCells] using s
  | u :: us, o, w, vs, s, h => by
    simp only [List.length_cons] at h
    have s1 := s.setAt (i := o) (by omega) u
    simp only [Nat.zero_add] at s1
    have s2 := Sat.setCells (W0 := W0) us (o + 1) _ _ s1 (by rw [List.length_set]; omega)
    have e : (vs.set o u).take (o + 1) ++ us ++ (vs.set o u).drop (o + 1 + us.length) = vs.take o ++ (u :: us) ++ vs.drop (o + (u :: us).length) := by
      apply List.ext_getElem?
      intro j
      simp only [List.getElem?_append, List.length_append, List.length_take, List.length_set, List.length_cons, List.getElem?_take, List.getElem?_set, List.getElem?_drop, List.getElem?_cons]
      have e1 : min (o + 1) vs.length = o + 1 := by omega
      have e2 : min o vs.length = o := by omega
      rw [e1, e2]
      by_cases c1 : j < o
      · simp [show j < o + 1 + us.length by omega, show j < o + 1 by omega, c1, show j < o + (us.length + 1) by omega, show ¬ o = j by omega]
      · by_cases c2 : j = o
        · subst c2; simp [show j < j + 1 + us.length by omega]; omega
        · by_cases c3 : j < o + 1 + us.length
          · simp [c3, show ¬ j < o + 1 by omega, c1, show j < o + (us.length + 1) by omega, show ¬ j - o = 0 by omega, show j - (o + 1) = j - o - 1 by omega]
          · simp [c3, show ¬ j < o + (us.length + 1) by omega, show ¬ o = o + 1 + us.length + (j - (o + 1 + us.length)) by omega]
            congr 1; omega
    rw [e] at s2
    exact s2

theorem rdB_in (m : Int → Int) (a : Int) (n : Nat) (x : Int) (h : a ≤ x ∧ x < a + n) : putB (fun _ => 0) a (rdB m a n) x = m x := by
  unfold putB
  rw [if_pos h.1, rdB_get m a n (x - a).toNat (by omega)]
  simp
  congr 1
  omega

theorem putB_rdB (m2 m : Int → Int) (a : Int) (n : Nat) (x : Int) : putB m2 a (rdB m a n) x = if a ≤ x ∧ x < a + n then m x else m2 x := by
  unfold putB
  by_cases h : a ≤ x
  · rw [if_pos h]
    by_cases h2 : x < a + n
    · rw [if_pos ⟨h, h2⟩, rdB_get m a n (x - a).toNat (by omega)]
      simp
      congr 1
      omega
    · rw [if_neg (fun q => h2 q.2), List.getElem?_eq_none (by rw [rdB_len]; omega)]; rfl
  · rw [if_neg h, if_neg (fun q => h q.1)]

end Go.Proofs.Ytiibiamobkhlbaa

namespace Go.Proofs.Ytiibiamobkhlbaa
open Go.RowKit
set_option linter.unusedVariables false

structure LayM where
  n : Int
  d : Int
  a : Int
  u : Int
  hn : -9223372036854775808 ≤ n ∧ n ≤ 9223372036854775807
  hd : 0 ≤ d ∧ d ≤ 18446744073709551615
  ha : 0 ≤ a ∧ a ≤ 18446744073709551615
  hu : 0 ≤ u ∧ u ≤ 18446744073709551615
def LayM.vals (l : LayM) : List Value := [.int .i64 l.n, .int .u64 l.d, .int .u64 l.a, .int .u64 l.u]
def layE : El LayM := fun _ l vs => vs = l.vals

theorem opn_lay : Opn Try.prog 25 layE :=
  opn_struct Try.underlying25 fun H enc w fuel cs hlen hf => by
    obtain ⟨y0, h0⟩ := hf 0 _ rfl
    obtain ⟨y1, h1⟩ := hf 1 _ rfl
    obtain ⟨y2, h2⟩ := hf 2 _ rfl
    obtain ⟨y3, h3⟩ := hf 3 _ rfl
    obtain ⟨n, hn, hn1⟩ := opn_i64 Try.underlying3 H enc w fuel _ y0.1 y0.2 h0
    obtain ⟨d, hd, hd1⟩ := opn_u64 Try.underlying23 H enc w fuel _ y1.1 y1.2 h1
    obtain ⟨a, ha, ha1⟩ := opn_u64 Try.underlying23 H enc w fuel _ y2.1 y2.2 h2
    obtain ⟨u, hu, hu1⟩ := opn_u64 Try.underlying23 H enc w fuel _ y3.1 y3.2 h3
    have e : Try.prog.cellsOf 25 = 4 := by kernel_rfl
    have e1 : Try.prog.cellsOf 23 = 1 := by kernel_rfl
    have e2 : Try.prog.cellsOf 3 = 1 := by kernel_rfl
    rw [e] at hlen
    obtain ⟨c0, c1, c2, c3, rfl⟩ := len4 hlen
    rw [e2] at hn
    rw [e1] at hd ha hu
    obtain rfl : c0 = .int .i64 n := (List.cons.inj hn).1
    obtain rfl : c1 = .int .u64 d := (List.cons.inj hd).1
    obtain rfl : c2 = .int .u64 a := (List.cons.inj ha).1
    obtain rfl : c3 = .int .u64 u := (List.cons.inj hu).1
    exact ⟨⟨n, d, a, u, hn1, hd1, ha1, hu1⟩, rfl⟩
end Go.Proofs.Ytiibiamobkhlbaa

namespace Go.Proofs.Ytiibiamobkhlbaa
open Go.RowKit
set_option linter.unusedVariables false

section
variable {R : Ending → World → Prop} {W0 w : World} {H : Hp} {A : List Hp}

theorem c_Areas (s : Sat W0 w H A) (n d a u : Int) (h : 0 ≤ n ∧ n ≤ 1048576)
    (k : ∀ w', Sat W0 w' H A → R (.returned (.agg #[.int .u64 d, .int .u64 (16*n), .int .u64 a, .int .u64 (2*n+6), .int .u64 u, .int .u64 (8*n+6)])) w') :
    Calls Try.prog 157 #[.agg #[.int .i64 n, .int .u64 d, .int .u64 a, .int .u64 u]] w R := by
  go_enter Try.func157, Try.ntmps157
  go_wp2
  refine bodyPost_ret (v := .agg #[.int .u64 d, .int .u64 (16*n), .int .u64 a, .int .u64 (2*n+6), .int .u64 u, .int .u64 (8*n+6)]) (by simp [results, Try.results157, go_sem]; omega) rfl (k _ ?_)
  exact ((s.grow ((Below.refl _ _).alloc (Nat.le_refl _) _)).grow ((Below.refl _ _).alloc (Nat.le_refl _) _))

theorem c_Power4 (k : R (.returned (.bool true)) w) : Calls Try.prog 156 #[.int .i64 4] w R := by
  go_enter Try.func156, Try.ntmps156
  go_wp2
  exact k
end

structure DescM where
  addr : Int
  len : Int
  flags : Int
  next : Int
  ha : 0 ≤ addr ∧ addr ≤ 18446744073709551615
  hl : 0 ≤ len ∧ len ≤ 4294967295
  hf : 0 ≤ flags ∧ flags ≤ 65535
  hn : 0 ≤ next ∧ next ≤ 65535
def DescM.vals (d : DescM) : List Value := [.int .u64 d.addr, .int .u32 d.len, .int .u16 d.flags, .int .u16 d.next]
def DescM.bytes (d : DescM) : List Int := leb d.addr 8 ++ leb d.len 4 ++ leb d.flags 2 ++ leb d.next 2
theorem DescM.bytes_bd (d : DescM) : ∀ y ∈ d.bytes, 0 ≤ y ∧ y ≤ 255 := by
  intro y hy
  simp only [DescM.bytes, List.mem_append] at hy
  rcases hy with ((h | h) | h) | h <;> exact leb_bd _ _ y h
def descE : El DescM := fun _ d vs => vs = d.vals

section
variable {R : Ending → World → Prop} {W0 w : World} {H : Hp} {A : List Hp}

theorem rowR_owned {w : World} {W0 : World} {H : Hp} {A F : List Hp} {X : Option Addr} {n cap : Nat} {xs : List Int} {h : Hp} (own : OwnS 1 (.slice X n cap) n (xs.map (Value.int .u8)) h) (s : Sat W0 w H A) [fr : FrH h A F] : RowR w X (xs.map (Value.int .u8)) := by
  have := own.row0 (s.pull.each h (List.mem_cons_self ..)).1 n
  obtain ⟨_, _, _, e, _, _, hl, _⟩ := own
  injection e with _ e1
  rw [List.take_of_length_le (by simpa using Nat.le_of_eq hl)] at this
  exact this
end
end Go.Proofs.Ytiibiamobkhlbaa
