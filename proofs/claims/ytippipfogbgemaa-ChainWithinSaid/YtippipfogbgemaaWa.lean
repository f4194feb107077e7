/-
  RAM: its pages as rows; a page put into the map. Plain laws.
-/
import Derived.Test.YtippipfogbgemaaVmk
import Derived.Test.YtippipfogbgemaaVmi
namespace Go.Proofs.Ytippipfogbgemaa
open Go.RowKit
set_option linter.unusedVariables false

theorem hz8R : (Try.prog.info? 5).map (·.size) = some 1 := by kernel_rfl
theorem page_size : (Try.prog.info? 151).map (·.size) = some 4096 := by kernel_rfl

/-- the pages behind a sector that was put -/
theorem pages_putR {ents : List Ent} {mem : Int → Int} {k P ck : Nat} {bs : List Int} (hk : ents.Pairwise (·.key ≠ ·.key)) (hb : ents.Pairwise (·.blk ≠ ·.blk)) (hborn : ents.Pairwise (·.born ≠ ·.born) ∧ ∀ e ∈ ents, e.born < ck) (hf : ∀ x ∈ ents, x.blk ≠ P) (hl : bs.length = 4096) :
    un (pagesH 2147483648 4096 (ents.filter (fun x => x.key ≠ k)) mem) (cellsH ⟨P, 0, none⟩ (bs.map (Value.int .u8))) = pagesH 2147483648 4096 (putEnt ents k P ck) (putB mem ((2147483648 + 4096 * k : Nat) : Int) bs) := by
  obtain ⟨q1, q2, q3⟩ := putEnt_pw (k := k) hk hb hborn hf
  have hb2 : (ents.filter (fun x => x.key ≠ k)).Pairwise (·.blk ≠ ·.blk) := hb.sublist (List.filter_sublist)
  funext l
  cases l with
  | obj b => simp [un, pagesH, cellsH]
  | cell b o =>
    by_cases hP : b = P
    · subst hP
      obtain ⟨x, hx, hxk, hxb⟩ := putEnt_new (ents := ents) (k := k) (P := b) (ck := ck)
      have h1 : pagesH 2147483648 4096 (ents.filter (fun x => x.key ≠ k)) mem (.cell b o) = none := by
        simp only [pagesH, find_none (fun x hm => hf x (List.mem_filter.1 hm).1)]
      have h2 := find_blk q2 hx
      rw [hxb] at h2
      simp only [un, h1, Option.none_or]
      simp only [pagesH, h2, cellsH, Nat.zero_le, and_self, if_true, Nat.sub_zero, List.getElem?_map]
      by_cases ho : o < 4096
      · rw [if_pos ho, List.getElem?_eq_getElem (by omega)]
        unfold putB
        rw [hxk, if_pos (by omega), show (((2147483648 + 4096 * k + o : Nat) : Int) - ((2147483648 + 4096 * k : Nat) : Int)).toNat = o by omega, List.getElem?_eq_getElem (by omega)]
        simp
      · rw [if_neg ho, List.getElem?_eq_none (by omega)]; rfl
    · have h3 : cellsH ⟨P, 0, none⟩ (bs.map (Value.int .u8)) (.cell b o) = none := by simp [cellsH, hP]
      simp only [un, h3, Option.or_none]
      by_cases hx : ∃ x ∈ ents, x.key ≠ k ∧ x.blk = b
      · obtain ⟨x, hx, hxk, rfl⟩ := hx
        have hx2 : x ∈ ents.filter (fun x => x.key ≠ k) := List.mem_filter.2 ⟨hx, by simp [hxk]⟩
        simp only [pagesH, find_blk hb2 hx2, find_blk q2 (putEnt_old (P := P) (ck := ck) hx hxk)]
        by_cases ho : o < 4096
        · rw [if_pos ho, if_pos ho]
          have e : putB mem ((2147483648 + 4096 * k : Nat) : Int) bs ((2147483648 + 4096 * x.key + o : Nat) : Int) = mem ((2147483648 + 4096 * x.key + o : Nat) : Int) := by
            unfold putB
            split
            · rename_i h
              rw [List.getElem?_eq_none (by omega)]; rfl
            · rfl
          rw [e]
        · rw [if_neg ho, if_neg ho]
      · have n1 : (ents.filter (fun x => x.key ≠ k)).find? (fun x => x.blk == b) = none := find_none (fun x hm e => hx ⟨x, (List.mem_filter.1 hm).1, by simpa using (List.mem_filter.1 hm).2, e⟩)
        have n2 : (putEnt ents k P ck).find? (fun x => x.blk == b) = none := find_none (fun x hm e => by
          rcases mem_putEnt hm with ⟨h1, h2⟩ | ⟨h1, h2⟩
          · exact hx ⟨x, h1, h2, e⟩
          · exact hP (e.symm.trans h2))
        simp only [pagesH, n1, n2]

theorem pages_rowR {w : World} {ents : List Ent} {mem : Int → Int} (hh : Holds w (pagesH 2147483648 4096 ents mem)) (hb : ents.Pairwise (·.blk ≠ ·.blk)) {e : Ent} (he : e ∈ ents) : RowR w (some ⟨e.blk, 0, none⟩) ((rdB mem ((2147483648 + 4096 * e.key : Nat) : Int) 4096).map (Value.int .u8)) := by
  intro _
  refine ⟨e.blk, 0, rfl, fun j u hu => ?_⟩
  have hj : j < 4096 := by
    rcases Nat.lt_or_ge j 4096 with h | h
    · exact h
    · rw [List.getElem?_eq_none (by rw [List.length_map, rdB_len]; exact h)] at hu; cases hu
  rw [List.getElem?_map, rdB_get _ _ _ _ hj] at hu
  obtain rfl := Option.some.inj hu
  have := look_cell (hh _ _ (pagesH_at (base := 2147483648) (sz := 4096) (mem := mem) hb he hj))
  rw [Nat.zero_add, show ((2147483648 + 4096 * e.key : Nat) : Int) + (j : Int) = ((2147483648 + 4096 * e.key + j : Nat) : Int) by omega]
  exact this.1

theorem pagesH_noneR (base sz : Nat) (m : Int → Int) : pagesH base sz [] m = empH := by
  funext x; cases x <;> rfl

section
variable {R : Ending → World → Prop} {W0 w : World} {H : Hp} {A F : List Hp} {b : Nat} {d : RamG}

theorem RamG.page_zeroR (d : RamG) {k : Nat} (h : ∀ e ∈ d.ents, e.key ≠ k) : rdB d.mem ((2147483648 + 4096 * k : Nat) : Int) 4096 = List.replicate 4096 0 :=
  rdB_zero 4096 fun i hi => by
    have := d.hzero k h i hi
    rwa [show ((2147483648 + 4096 * k + i : Nat) : Int) = ((2147483648 + 4096 * k : Nat) : Int) + (i : Int) by omega] at this

theorem ram_put {P k : Nat} {bs : List Int} (s : Sat W0 w H (cellsH ⟨P, 0, none⟩ (bs.map (Value.int .u8)) :: (ramL ⟨b, 0, none⟩ (d, none) ++ F))) (hl : bs.length = 4096) (hbs : ∀ x ∈ bs, 0 ≤ x ∧ x ≤ 255) (hk : ((4096 * k : Nat) : Int) < d.size) :
    ∃ d', d'.size = d.size ∧ d'.mem = putB d.mem ((2147483648 + 4096 * k : Nat) : Int) bs ∧ d'.mb = d.mb ∧ Sat W0 (setO w d.mb (.map ((putEnt d.ents k P d.ck).map Ent.me).toArray (putCk d.ents k d.ck))) H (ramL ⟨b, 0, none⟩ (d', none) ++ F) := by
  simp only [ramL, List.cons_append, List.nil_append] at s
  have hf : ∀ x ∈ d.ents, x.blk ≠ P := fun x hx e => by
    have hp := (List.pairwise_cons.1 s.apart).1 (pagesH 2147483648 4096 d.ents d.mem) (by simp)
    have h1 := pagesH_at (base := 2147483648) (sz := 4096) (mem := d.mem) (o := 0) d.hblk hx (by omega)
    rw [e] at h1
    have h2 : ∃ c, cellsH ⟨P, 0, none⟩ (bs.map (Value.int .u8)) (.cell P 0) = some c := by
      simp only [cellsH, Nat.le_refl, and_self, if_true, List.getElem?_map]
      rw [List.getElem?_eq_getElem (by omega)]; exact ⟨_, rfl⟩
    obtain ⟨c, h2⟩ := h2
    rcases hp (.cell P 0) with h | h
    · rw [h2] at h; cases h
    · rw [h1] at h; cases h
  obtain ⟨q1, q2, q3⟩ := putEnt_pw (k := k) d.hkey d.hblk d.hborn hf
  have s2 := (Sat.pull (h := objH d.mb (.map (d.ents.map Ent.me).toArray d.ck)) s).setO (o' := .map ((putEnt d.ents k P d.ck).map Ent.me).toArray (putCk d.ents k d.ck)) (h' := objH d.mb (.map ((putEnt d.ents k P d.ck).map Ent.me).toArray (putCk d.ents k d.ck))) rfl (by intro c t f h; cases h) rfl
  have s3 := (Sat.pull (h := pagesH 2147483648 4096 d.ents d.mem) s2).shrink (pages_less d.hblk k)
  have s4 := (Sat.pull (h := pagesH 2147483648 4096 (d.ents.filter (fun x => x.key ≠ k)) d.mem) (Sat.pull (h := cellsH ⟨P, 0, none⟩ (bs.map (Value.int .u8))) s3)).merge
  rw [pages_putR d.hkey d.hblk d.hborn hf hl] at s4
  refine ⟨⟨d.size, d.mb, putCk d.ents k d.ck, putEnt d.ents k P d.ck, putB d.mem ((2147483648 + 4096 * k : Nat) : Int) bs, d.hsize, q1, q2, q3, fun e he => ?_, putB_bd d.hmem _ hbs, fun j hj o ho => ?_, fun x hx => by unfold putB; rw [if_neg (by omega)]; exact d.hlow x hx⟩, rfl, rfl, rfl, ?_⟩
  · rcases mem_putEnt he with ⟨h1, _⟩ | ⟨h1, _⟩
    · exact d.hin e h1
    · rw [h1]; exact hk
  · obtain ⟨x, hx, hxk, _⟩ := putEnt_new (ents := d.ents) (k := k) (P := P) (ck := d.ck)
    have hjk : j ≠ k := fun e => hj x hx (by rw [hxk, e])
    have h0 := d.hzero j (fun e he h => hj e (putEnt_old he (by rw [h]; exact hjk)) h) o ho
    have hne : ¬ (j = k) := hjk
    have : putB d.mem ((2147483648 + 4096 * k : Nat) : Int) bs ((2147483648 + 4096 * j + o : Nat) : Int) = d.mem ((2147483648 + 4096 * j + o : Nat) : Int) := by
      unfold putB
      split
      · rw [List.getElem?_eq_none (by omega)]; rfl
      · rfl
    rw [this]; exact h0
  · simp only [ramL, List.cons_append, List.nil_append]
    exact s4.wk
end
end Go.Proofs.Ytippipfogbgemaa
