/-
  DISK: a sector put, as the pieces go; bytes written.
-/
import Derived.Test.YtohccblfnjampaaVdr
import Derived.Test.YtohccblfnjampaaVec
namespace Go.Proofs.Ytohccblfnjampaa
open Go.RowKit
set_option linter.unusedVariables false

theorem putB_app (m : Int → Int) (A : Int) (X Y : List Int) : putB (putB m A X) (A + X.length) Y = putB m A (X ++ Y) := by
  funext x
  unfold putB
  by_cases h1 : A + (X.length : Int) ≤ x
  · rw [if_pos h1, if_pos (by omega), if_pos (by omega), List.getElem?_append_right (by omega), show (x - A).toNat - X.length = (x - (A + X.length)).toNat by omega]
    rw [List.getElem?_eq_none (l := X) (by omega)]; rfl
  · rw [if_neg h1]
    by_cases h2 : A ≤ x
    · rw [if_pos h2, if_pos h2, List.getElem?_append_left (by omega)]
    · rw [if_neg h2, if_neg h2]
section
variable {R : Ending → World → Prop} {W0 w : World} {H : Hp} {A F : List Hp} {b : Nat} {d : DiskG}

structure DiskG.Like (d d' : DiskG) : Prop where
  count : d'.count = d.count
  locked : d'.locked = d.locked
  fault : d'.fault = d.fault
  reqs : d'.reqs = d.reqs
  flushes : d'.flushes = d.flushes
/-- as many sectors, and locked alike -/
def DiskG.Kin (d d' : DiskG) : Prop := d'.count = d.count ∧ d'.locked = d.locked
theorem DiskG.Like.refl (d : DiskG) : DiskG.Like d d := ⟨rfl, rfl, rfl, rfl, rfl⟩
theorem DiskG.Like.trans {d e f : DiskG} (h : DiskG.Like d e) (g : DiskG.Like e f) : DiskG.Like d f := ⟨g.1.trans h.1, g.2.trans h.2, g.3.trans h.3, g.4.trans h.4, g.5.trans h.5⟩

theorem disk_put {P k : Nat} {bs : List Int} (s : Sat W0 w H (cellsH ⟨P, 0, none⟩ (bs.map (Value.int .u8)) :: (diskL ⟨b, 0, none⟩ d ++ F))) (hl : bs.length = 512) (hbs : ∀ x ∈ bs, 0 ≤ x ∧ x ≤ 255) (hk : (k : Int) < d.count) :
    ∃ d', DiskG.Like d d' ∧ d'.mem = putB d.mem ((512 * k : Nat) : Int) bs ∧ d'.mb = d.mb ∧ Sat W0 (setO w d.mb (.map ((putEnt d.ents k P d.ck).map Ent.me).toArray (putCk d.ents k d.ck))) H (diskL ⟨b, 0, none⟩ d' ++ F) := by
  simp only [diskL, List.cons_append, List.nil_append] at s
  have hf : ∀ x ∈ d.ents, x.blk ≠ P := fun x hx e => by
    have hp := (List.pairwise_cons.1 s.apart).1 (pagesH 0 512 d.ents d.mem) (by simp)
    have h1 := pagesH_at (base := 0) (sz := 512) (mem := d.mem) (o := 0) d.hblk hx (by omega)
    rw [e] at h1
    have h2 : ∃ c, cellsH ⟨P, 0, none⟩ (bs.map (Value.int .u8)) (.cell P 0) = some c := by
      simp only [cellsH, Nat.le_refl, and_self, if_true, List.getElem?_map]
      rw [List.getElem?_eq_getElem (by omega)]; exact ⟨_, rfl⟩
    obtain ⟨c, h2⟩ := h2
    rcases hp (.cell P 0) with h | h
    · rw [h2] at h; cases h
    · rw [h1] at h; cases h
  obtain ⟨q1, q2, q3⟩ := putEnt_pw (k := k) d.hkey d.hblk d.hborn hf
  have s2 := (Sat.pull (h := objH d.mb (.map (d.ents.map Ent.me).toArray d.ck)) s).setO (o' := .map ((putEnt d.ents k P d.ck).map Ent.me).toArray (putCk d.ents k d.ck)) (h' := objH d.mb (.map ((putEnt d.ents k P d.ck).map Ent.me).toArray (putCk d.ents k d.ck))) rfl (by intro c t f h; cases h) rfl
  have s3 := (Sat.pull (h := pagesH 0 512 d.ents d.mem) s2).shrink (pages_less d.hblk k)
  have s4 := (Sat.pull (h := pagesH 0 512 (d.ents.filter (fun x => x.key ≠ k)) d.mem) (Sat.pull (h := cellsH ⟨P, 0, none⟩ (bs.map (Value.int .u8))) s3)).merge
  rw [pages_put d.hkey d.hblk d.hborn hf hl] at s4
  refine ⟨⟨d.count, d.locked, d.mb, putCk d.ents k d.ck, putEnt d.ents k P d.ck, putB d.mem ((512 * k : Nat) : Int) bs, d.fault, d.reqs, d.flushes, d.hcount, q1, q2, q3, fun e he => ?_, putB_bd d.hmem _ hbs, fun j hj o ho => ?_, d.hfault, d.hreqs, d.hflushes⟩, ⟨rfl, rfl, rfl, rfl, rfl⟩, rfl, rfl, ?_⟩
  · rcases mem_putEnt he with ⟨h1, _⟩ | ⟨h1, _⟩
    · exact d.hin e h1
    · rw [h1]; exact hk
  · obtain ⟨x, hx, hxk, _⟩ := putEnt_new (ents := d.ents) (k := k) (P := P) (ck := d.ck)
    have hjk : j ≠ k := fun e => hj x hx (by rw [hxk, e])
    have h0 := d.hzero j (fun e he h => hj e (putEnt_old he (by rw [h]; exact hjk)) h) o ho
    have hne : ¬ (j = k) := hjk
    have : putB d.mem ((512 * k : Nat) : Int) bs ((0 + 512 * j + o : Nat) : Int) = d.mem ((0 + 512 * j + o : Nat) : Int) := by
      unfold putB
      split
      · rw [List.getElem?_eq_none (by omega)]; rfl
      · rfl
    rw [this]; exact h0
  · simp only [diskL, List.cons_append, List.nil_append]
    exact s4.wk
end
end Go.Proofs.Ytohccblfnjampaa
