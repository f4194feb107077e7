/-
  DISK: plain laws: a sector put into the map; the pages then; copy at a place.
-/
import Derived.Test.YtippipfogbgemaaVd0
import Derived.Test.YtippipfogbgemaaVec
import Derived.Test.YtippipfogbgemaaVmk
namespace Go.Proofs.Ytippipfogbgemaa
open Go.RowKit
set_option linter.unusedVariables false

/-- the pages behind a sector that was put -/
theorem pages_put {ents : List Ent} {mem : Int → Int} {k P ck : Nat} {bs : List Int} (hk : ents.Pairwise (·.key ≠ ·.key)) (hb : ents.Pairwise (·.blk ≠ ·.blk)) (hborn : ents.Pairwise (·.born ≠ ·.born) ∧ ∀ e ∈ ents, e.born < ck) (hf : ∀ x ∈ ents, x.blk ≠ P) (hl : bs.length = 512) :
    un (pagesH 0 512 (ents.filter (fun x => x.key ≠ k)) mem) (cellsH ⟨P, 0, none⟩ (bs.map (Value.int .u8))) = pagesH 0 512 (putEnt ents k P ck) (putB mem ((512 * k : Nat) : Int) bs) := by
  obtain ⟨q1, q2, q3⟩ := putEnt_pw (k := k) hk hb hborn hf
  have hb2 : (ents.filter (fun x => x.key ≠ k)).Pairwise (·.blk ≠ ·.blk) := hb.sublist (List.filter_sublist)
  funext l
  cases l with
  | obj b => simp [un, pagesH, cellsH]
  | cell b o =>
    by_cases hP : b = P
    · subst hP
      obtain ⟨x, hx, hxk, hxb⟩ := putEnt_new (ents := ents) (k := k) (P := b) (ck := ck)
      have h1 : pagesH 0 512 (ents.filter (fun x => x.key ≠ k)) mem (.cell b o) = none := by
        simp only [pagesH, find_none (fun x hm => hf x (List.mem_filter.1 hm).1)]
      have h2 := find_blk q2 hx
      rw [hxb] at h2
      simp only [un, h1, Option.none_or]
      simp only [pagesH, h2, cellsH, Nat.zero_le, and_self, if_true, Nat.sub_zero, List.getElem?_map]
      by_cases ho : o < 512
      · rw [if_pos ho, List.getElem?_eq_getElem (by omega)]
        unfold putB
        rw [hxk, if_pos (by omega), show (((0 + 512 * k + o : Nat) : Int) - ((512 * k : Nat) : Int)).toNat = o by omega, List.getElem?_eq_getElem (by omega)]
        simp
      · rw [if_neg ho, List.getElem?_eq_none (by omega)]; rfl
    · have h3 : cellsH ⟨P, 0, none⟩ (bs.map (Value.int .u8)) (.cell b o) = none := by simp [cellsH, hP]
      simp only [un, h3, Option.or_none]
      by_cases hx : ∃ x ∈ ents, x.key ≠ k ∧ x.blk = b
      · obtain ⟨x, hx, hxk, rfl⟩ := hx
        have hx2 : x ∈ ents.filter (fun x => x.key ≠ k) := List.mem_filter.2 ⟨hx, by simp [hxk]⟩
        simp only [pagesH, find_blk hb2 hx2, find_blk q2 (putEnt_old (P := P) (ck := ck) hx hxk)]
        by_cases ho : o < 512
        · rw [if_pos ho, if_pos ho]
          have e : putB mem ((512 * k : Nat) : Int) bs ((0 + 512 * x.key + o : Nat) : Int) = mem ((0 + 512 * x.key + o : Nat) : Int) := by
            unfold putB
            split
            · rename_i h
              rw [List.getElem?_eq_none (by omega)]; rfl
            · rfl
          rw [e]
        · rw [if_neg ho, if_neg ho]
      · have n1 : (ents.filter (fun x => x.key ≠ k)).find? (fun x => x.blk == b) = none := find_none (fun x hm e => hx ⟨x, (List.mem_filter.1 hm).1, by simpa using (List.mem_filter.1 hm).2, e⟩)
        have n2 : (putEnt ents k P ck).find? (fun x => x.blk == b) = none := find_none (fun x hm e => by
          rcases mem_putEnt hm with ⟨h1, h2⟩ | ⟨h1, h2⟩
          · exact hx ⟨x, h1, h2, e⟩
          · exact hP (e.symm.trans h2))
        simp only [pagesH, n1, n2]

/-- copy into a row of cells, at a place -/
theorem run_copy_at {P : Program} {W0 w : World} {H : Hp} {F : List Hp} (dT sT ty elem : TypeId) (hu : P.underlying dT = some (.slice elem)) (hz : (P.info? elem).map (·.size) = some 1)
    {b o : Nat} {vs : List Value} (s : Sat W0 w H (cellsH ⟨b, o, none⟩ vs :: F)) (off dl dc : Nat) (D X : Option Addr) (m c : Nat) (us : List Value) (hD : 0 < us.length → D = some ⟨b, o + off, none⟩) (hl : us.length = min m dl) (hfit : off + us.length ≤ vs.length) (hus : RowR w X us)
    (h1 : ∀ x ∈ us, x.oneCell' = true) :
    ∃ w', (Builtin.copy_ #[dT, sT] ty #[.slice D dl dc, .slice X m c]).run P w = .ok (goInt us.length) w' ∧ Sat W0 w' H (cellsH ⟨b, o, none⟩ (vs.take off ++ us ++ vs.drop (off + us.length)) :: F) := by
  by_cases h0 : us.length = 0
  · obtain rfl : us = [] := List.eq_nil_of_length_eq_zero h0
    exact ⟨w, run_copy_none w dT sT ty elem _ _ _ _ _ _ hu hz (by simpa using hl.symm), by simpa using s⟩
  · obtain rfl := hD (by omega)
    have hne : us ≠ [] := by rintro rfl; simp at h0
    obtain ⟨b', o', rfl, _⟩ := hus hne
    have hlo := run_loadCells_list (P := P) w ⟨b', o', none⟩ us hus.add
    obtain ⟨w', hr, hs⟩ := run_store_row P (a := ⟨b, o, none⟩) rfl us off 0 vs w s (by omega) h1
    refine ⟨w', ?_, by simpa using hs⟩
    cases hq : P.info? elem with
    | none => simp [hq] at hz
    | some i =>
      have hi : i.size = 1 := by simpa [hq] using hz
      have hmn : Nat.min m dl = us.length := hl.symm
      have hmn2 : min m dl = us.length := hl.symm
      simp [Builtin.copy_, run_underlying hu, Builtin.lenOf, Builtin.firstCells, sizeOf, typeInfo, hq, hi, hmn2, hlo, hr]

theorem wpList_copyAt {P : Program} {ops : Array Oper} {rest : List Oper} {oo : Oper} {a : Act} {Q : Exit → Act → World → Prop} {W0 w : World} {H : Hp} {A F : List Hp} (hgd : oo.guard = none) (d s : Operand) (dT sT elem : TypeId)
    (ho : oo.op = .call { callee := .builtin .copy, args := #[d, s], argTypes := #[dT, sT] }) (hu : P.underlying dT = some (.slice elem)) (hz : (P.info? elem).map (·.size) = some 1)
    {b o : Nat} {vs : List Value} (st : Sat W0 w H A) [fr : FrH (cellsH ⟨b, o, none⟩ vs) A F] (off : Nat) {dl dc : Nat} {D X : Option Addr} {m c : Nat} (hd : a.eval d = .slice D dl dc) (hx : a.eval s = .slice X m c) (us : List Value) (hD : 0 < us.length → D = some ⟨b, o + off, none⟩) (hl : us.length = min m dl) (hfit : off + us.length ≤ vs.length) (hus : RowR w X us)
    (h1 : ∀ x ∈ us, x.oneCell' = true)
    (k : ∀ w', Sat W0 w' H (cellsH ⟨b, o, none⟩ (vs.take off ++ us ++ vs.drop (off + us.length)) :: F) → wpList P ops Q rest (a.put oo.dst (goInt us.length)) w') : wpList P ops Q (oo :: rest) a w := by
  obtain ⟨w', hr, hs'⟩ := run_copy_at (P := P) dT sT oo.type elem hu hz st.pull off dl dc D X m c us hD hl hfit hus h1
  refine wpList_run hgd (v := goInt us.length) (w' := w') ?_ (k w' hs')
  unfold execOp
  rw [ho]
  simp only [resolve, invoke]
  simp [builtin, hd, hx, hr]

theorem step_copyAt {P : Program} {ops : Array Oper} {oo : Oper} {a : Act} {K : Act → World → Prop} {Q : Exit → Act → World → Prop} {E : Prop} {W0 w : World} {H : Hp} {A F : List Hp} (hgd : oo.guard = none) (d s : Operand) (dT sT elem : TypeId)
    (ho : oo.op = .call { callee := .builtin .copy, args := #[d, s], argTypes := #[dT, sT] }) (hu : P.underlying dT = some (.slice elem)) (hz : (P.info? elem).map (·.size) = some 1)
    {b o : Nat} {vs : List Value} (st : Sat W0 w H A) [fr : FrH (cellsH ⟨b, o, none⟩ vs) A F] (off : Nat) {dl dc : Nat} {D X : Option Addr} {m c : Nat} (hd : a.eval d = .slice D dl dc) (hx : a.eval s = .slice X m c) (us : List Value) (hD : 0 < us.length → D = some ⟨b, o + off, none⟩) (hl : us.length = min m dl) (hfit : off + us.length ≤ vs.length) (hus : RowR w X us)
    (h1 : ∀ x ∈ us, x.oneCell' = true)
    (k : ∀ w', Sat W0 w' H (cellsH ⟨b, o, none⟩ (vs.take off ++ us ++ vs.drop (off + us.length)) :: F) → K (a.put oo.dst (goInt us.length)) w') : if Region.wanted oo (yielded ops a.tmps) = true then Oper.wp P oo a w K Q else E := by
  obtain ⟨w', hr, hs'⟩ := run_copy_at (P := P) dT sT oo.type elem hu hz st.pull off dl dc D X m c us hD hl hfit hus h1
  rw [if_pos (by simp [Region.wanted, hgd])]
  have he : (execOp a.eval oo).run P w = .ok (.value (goInt us.length)) w' := by
    unfold execOp
    rw [ho]
    simp only [resolve, invoke]
    simp [builtin, hd, hx, hr]
  unfold Oper.wp
  rw [he]
  exact k w' hs'
end Go.Proofs.Ytippipfogbgemaa
