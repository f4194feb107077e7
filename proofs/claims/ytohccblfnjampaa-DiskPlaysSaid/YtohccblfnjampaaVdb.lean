/-
  DISK: plain laws: a sector put into the map; the pages then; copy at a place.
-/
import Derived.Test.YtohccblfnjampaaVda
import Derived.Test.YtohccblfnjampaaVec
import Derived.Test.YtohccblfnjampaaVo
namespace Go.Proofs.Ytohccblfnjampaa
open Go.RowKit
set_option linter.unusedVariables false

/-- the entries, where key k has the block P now -/
def putEnt (ents : List Ent) (k P ck : Nat) : List Ent :=
  if ∃ e ∈ ents, e.key = k then ents.map (fun x => if x.key = k then ⟨k, P, x.born⟩ else x) else ents ++ [⟨k, P, ck⟩]
def putCk (ents : List Ent) (k ck : Nat) : Nat := if ∃ e ∈ ents, e.key = k then ck else ck + 1

section
variable {P : Program} {w : World} {mt kt vt : TypeId} {mb ck : Nat} {ents : List Ent}

theorem findNow_old {ents : List Ent} (hk : ents.Pairwise (·.key ≠ ·.key)) {e : Ent} (he : e ∈ ents) : ∃ j, ents[j]? = some e ∧ Instr.findNow (.int .u64) (.int .u64 (e.key : Int)) (ents.map Ent.me) 0 = some (some (j, .pointer (some ⟨e.blk, 0, none⟩))) := by
  rw [findNow_me]
  cases hf : (ents.zipIdx 0).find? (fun x => x.1.key == e.key) with
  | none =>
    exfalso
    rw [List.find?_eq_none] at hf
    obtain ⟨n, hn⟩ := List.getElem?_of_mem he
    exact hf (e, n) (List.mem_zipIdx_iff_getElem?.2 (by simpa using hn)) (by simp)
  | some x =>
    obtain ⟨y, j⟩ := x
    have hx := List.mem_of_find?_eq_some hf
    have hxk : y.key = e.key := by simpa using List.find?_some hf
    have hy : ents[j]? = some y := by simpa using List.mem_zipIdx_iff_getElem?.1 hx
    obtain ⟨m, hm⟩ := List.getElem?_of_mem he
    have : y = e := by
      rcases Nat.decEq j m with hnm | hnm
      · exact absurd hxk (pairwise_get (R := fun a b : Ent => a.key ≠ b.key) (fun a b h => h.symm) hk j m y e hnm hy hm)
      · subst hnm; rw [hy] at hm; injection hm
    subst this
    exact ⟨j, hy, rfl⟩

theorem run_mapPut (hm : P.underlying mt = some (.map kt vt)) (hk : P.underlying kt = some (.int .u64)) (hp : ents.Pairwise (·.key ≠ ·.key)) (ho : w.heap[mb]? = some (.map (ents.map Ent.me).toArray ck)) (k blk : Nat) :
    (Instr.mapUpdate mt (.map (some mb)) (.int .u64 (k : Int)) (.pointer (some ⟨blk, 0, none⟩))).run P w = .ok () (setO w mb (.map ((putEnt ents k blk ck).map Ent.me).toArray (putCk ents k ck))) := by
  by_cases he : ∃ e ∈ ents, e.key = k
  · unfold putEnt putCk
    rw [if_pos he, if_pos he]
    obtain ⟨e, hmem, rfl⟩ := he
    obtain ⟨j, hj, hf⟩ := findNow_old hp hmem
    have hmod : (ents.map Ent.me).modify j (fun x => { x with key := .int .u64 (e.key : Int), val := .pointer (some ⟨blk, 0, none⟩) }) = (ents.map (fun x => if x.key = e.key then (⟨e.key, blk, x.born⟩ : Ent) else x)).map Ent.me := by
      apply List.ext_getElem?
      intro m
      rw [List.getElem?_modify, List.getElem?_map, List.getElem?_map, List.getElem?_map]
      by_cases hjm : j = m
      · subst hjm
        rw [hj]
        simp [Ent.me]
      · cases hem : ents[m]? with
        | none => simp [hjm]
        | some y =>
          have hne : ¬ y.key = e.key := fun h => pairwise_get (R := fun a b : Ent => a.key ≠ b.key) (fun a b h => h.symm) hp m j y e (Ne.symm hjm) hem hj h
          simp [hjm, hne]
    have hold : ((ents.map Ent.me).toArray[j]?).map (·.key) = some (.int .u64 (e.key : Int)) := by simp [hj, Ent.me]
    simp [Instr.mapUpdate, run_underlying hm, MapKept.run_getObj_map ho, run_checkKey hk, Instr.findKey, run_underlying hk, hf, Instr.keyThatStays, Instr.sameBits, MapKept.run_setObj_map _ ho, setO, hj, Ent.me, hmod]
    try (rw [← hmod]; simp [Ent.me])
  · unfold putEnt putCk
    rw [if_neg he, if_neg he]
    exact run_mapNew hm hk ho (fun e hm h => he ⟨e, hm, h⟩) blk
end

theorem Sat.shrink {W0 w : World} {H h h' : Hp} {F : List Hp} (s : Sat W0 w H (h :: F)) (le : ∀ l c, h' l = some c → h l = some c) : Sat W0 w H (h' :: F) := by
  have ap := List.pairwise_cons.1 s.apart
  have e := s.each h (List.mem_cons_self ..)
  have dj : ∀ k : Hp, Dj h k → Dj h' k := fun k d l => by
    rcases d l with h1 | h1
    · refine .inl ?_
      cases hh : h' l with
      | none => rfl
      | some c => rw [le l c hh] at h1; cases h1
    · exact .inr h1
  refine ⟨s.below, s.ro, s.old, List.pairwise_cons.2 ⟨fun k hk => dj k (ap.1 k hk), ap.2⟩, fun k hk => ?_⟩
  rcases List.mem_cons.1 hk with rfl | hk
  · exact ⟨fun l c hl => e.1 l c (le l c hl), dj H e.2⟩
  · exact s.each k (List.mem_cons_of_mem _ hk)

theorem find_none {ents : List Ent} {b : Nat} (h : ∀ x ∈ ents, x.blk ≠ b) : ents.find? (fun x => x.blk == b) = none := by
  rw [List.find?_eq_none]
  intro x hx
  simp [h x hx]

/-- the pages without a key's -/
theorem pages_less {sz : Nat} {ents : List Ent} {mem : Int → Int} (hb : ents.Pairwise (·.blk ≠ ·.blk)) (k : Nat) : ∀ l c, pagesH 0 sz (ents.filter (fun x => x.key ≠ k)) mem l = some c → pagesH 0 sz ents mem l = some c := by
  intro l c h
  cases l with
  | obj b => simp [pagesH] at h
  | cell b o =>
    by_cases hx : ∃ x ∈ ents.filter (fun x => x.key ≠ k), x.blk = b
    · obtain ⟨x, hx, rfl⟩ := hx
      have hb2 : (ents.filter (fun x => x.key ≠ k)).Pairwise (·.blk ≠ ·.blk) := hb.sublist (List.filter_sublist)
      simp only [pagesH, find_blk hb2 hx] at h
      simp only [pagesH, find_blk hb (List.mem_filter.1 hx).1]
      exact h
    · simp only [pagesH, find_none (fun x hm e => hx ⟨x, hm, e⟩)] at h
      cases h

theorem mem_putEnt {ents : List Ent} {k P ck : Nat} {x : Ent} (h : x ∈ putEnt ents k P ck) : (x ∈ ents ∧ x.key ≠ k) ∨ (x.key = k ∧ x.blk = P) := by
  unfold putEnt at h
  split at h
  · obtain ⟨y, hy, rfl⟩ := List.mem_map.1 h
    by_cases hk : y.key = k
    · right; simp [hk]
    · left; simp [hk, hy]
  · rename_i hn
    rcases List.mem_append.1 h with h | h
    · exact .inl ⟨h, fun e => hn ⟨x, h, e⟩⟩
    · simp at h; subst h; exact .inr ⟨rfl, rfl⟩
theorem putEnt_old {ents : List Ent} {k P ck : Nat} {x : Ent} (h : x ∈ ents) (hk : x.key ≠ k) : x ∈ putEnt ents k P ck := by
  unfold putEnt
  split
  · exact List.mem_map.2 ⟨x, h, by simp [hk]⟩
  · exact List.mem_append_left _ h
theorem putEnt_new {ents : List Ent} {k P ck : Nat} : ∃ x ∈ putEnt ents k P ck, x.key = k ∧ x.blk = P := by
  unfold putEnt
  split
  · rename_i h
    obtain ⟨e, he, hk⟩ := h
    exact ⟨⟨k, P, e.born⟩, List.mem_map.2 ⟨e, he, by simp [hk]⟩, rfl, rfl⟩
  · exact ⟨⟨k, P, ck⟩, by simp, rfl, rfl⟩
theorem putEnt_pw {ents : List Ent} {k P ck : Nat} (hk : ents.Pairwise (·.key ≠ ·.key)) (hb : ents.Pairwise (·.blk ≠ ·.blk)) (hborn : ents.Pairwise (·.born ≠ ·.born) ∧ ∀ e ∈ ents, e.born < ck) (hf : ∀ x ∈ ents, x.blk ≠ P) :
    (putEnt ents k P ck).Pairwise (·.key ≠ ·.key) ∧ (putEnt ents k P ck).Pairwise (·.blk ≠ ·.blk) ∧ ((putEnt ents k P ck).Pairwise (·.born ≠ ·.born) ∧ ∀ e ∈ putEnt ents k P ck, e.born < putCk ents k ck) := by
  unfold putEnt putCk
  split
  · refine ⟨?_, ?_, ?_, ?_⟩
    · rw [List.pairwise_map]
      exact hk.imp (fun {a b} h => by by_cases h1 : a.key = k <;> by_cases h2 : b.key = k <;> simp [h1, h2] <;> first | (rw [h1, h2] at h; exact h rfl) | (intro e; first | exact h2 e.symm | exact h1 e) | exact h)
    · rw [List.pairwise_map]
      refine (hk.and hb).imp_of_mem (fun {a b} ha hb' h => ?_)
      by_cases h1 : a.key = k <;> by_cases h2 : b.key = k <;> simp [h1, h2]
      · exact absurd (h1.trans h2.symm) h.1
      · exact fun e => hf b hb' e.symm
      · exact fun e => hf a ha e
      · exact h.2
    · rw [List.pairwise_map]
      exact hborn.1.imp (fun {a b} h => by by_cases h1 : a.key = k <;> by_cases h2 : b.key = k <;> simp [h1, h2] <;> exact h)
    · intro e he
      obtain ⟨y, hy, rfl⟩ := List.mem_map.1 he
      have := hborn.2 y hy
      by_cases h1 : y.key = k <;> simp [h1] <;> exact this
  · rename_i hn
    refine ⟨List.pairwise_append.2 ⟨hk, by simp, fun x hx y hy => by simp at hy; subst hy; exact fun e => hn ⟨x, hx, e⟩⟩, List.pairwise_append.2 ⟨hb, by simp, fun x hx y hy => by simp at hy; subst hy; exact hf x hx⟩, List.pairwise_append.2 ⟨hborn.1, by simp, fun x hx y hy => by simp at hy; subst hy; have := hborn.2 x hx; simp only; omega⟩, fun e he => ?_⟩
    rcases List.mem_append.1 he with h | h
    · have := hborn.2 e h; omega
    · simp at h; subst h; simp

/-- the pages behind a sector that was put -/
theorem pages_put {ents : List Ent} {mem : Int → Int} {k P ck : Nat} {bs : List Int} (hk : ents.Pairwise (·.key ≠ ·.key)) (hb : ents.Pairwise (·.blk ≠ ·.blk)) (hborn : ents.Pairwise (·.born ≠ ·.born) ∧ ∀ e ∈ ents, e.born < ck) (hf : ∀ x ∈ ents, x.blk ≠ P) (hl : bs.length = 512) :
    un (pagesH 0 512 (ents.filter (fun x => x.key ≠ k)) mem) (cellsH ⟨P, 0, none⟩ (bs.map (Value.int .u8))) = pagesH 0 512 (putEnt ents k P ck) (putB mem ((512 * k : Nat) : Int) bs) := by
  obtain ⟨q1, q2, q3⟩ := putEnt_pw (k := k) hk hb hborn hf
  have hb2 : (ents.filter (fun x => x.key ≠ k)).Pairwise (·.blk ≠ ·.blk) := hb.sublist (List.filter_sublist)
  funext l
  cases l with
  | obj b => simp [un, pagesH, cellsH]
  | cell b o =>
    by_cases hP : b = P
    · subst hP
      obtain ⟨x, hx, hxk, hxb⟩ := putEnt_new (ents := ents) (k := k) (P := b) (ck := ck)
      have h1 : pagesH 0 512 (ents.filter (fun x => x.key ≠ k)) mem (.cell b o) = none := by
        simp only [pagesH, find_none (fun x hm => hf x (List.mem_filter.1 hm).1)]
      have h2 := find_blk q2 hx
      rw [hxb] at h2
      simp only [un, h1, Option.none_or]
      simp only [pagesH, h2, cellsH, Nat.zero_le, and_self, if_true, Nat.sub_zero, List.getElem?_map]
      by_cases ho : o < 512
      · rw [if_pos ho, List.getElem?_eq_getElem (by omega)]
        unfold putB
        rw [hxk, if_pos (by omega), show (((0 + 512 * k + o : Nat) : Int) - ((512 * k : Nat) : Int)).toNat = o by omega, List.getElem?_eq_getElem (by omega)]
        simp
      · rw [if_neg ho, List.getElem?_eq_none (by omega)]; rfl
    · have h3 : cellsH ⟨P, 0, none⟩ (bs.map (Value.int .u8)) (.cell b o) = none := by simp [cellsH, hP]
      simp only [un, h3, Option.or_none]
      by_cases hx : ∃ x ∈ ents, x.key ≠ k ∧ x.blk = b
      · obtain ⟨x, hx, hxk, rfl⟩ := hx
        have hx2 : x ∈ ents.filter (fun x => x.key ≠ k) := List.mem_filter.2 ⟨hx, by simp [hxk]⟩
        simp only [pagesH, find_blk hb2 hx2, find_blk q2 (putEnt_old (P := P) (ck := ck) hx hxk)]
        by_cases ho : o < 512
        · rw [if_pos ho, if_pos ho]
          have e : putB mem ((512 * k : Nat) : Int) bs ((0 + 512 * x.key + o : Nat) : Int) = mem ((0 + 512 * x.key + o : Nat) : Int) := by
            unfold putB
            split
            · rename_i h
              rw [List.getElem?_eq_none (by omega)]; rfl
            · rfl
          rw [e]
        · rw [if_neg ho, if_neg ho]
      · have n1 : (ents.filter (fun x => x.key ≠ k)).find? (fun x => x.blk == b) = none := find_none (fun x hm e => hx ⟨x, (List.mem_filter.1 hm).1, by simpa using (List.mem_filter.1 hm).2, e⟩)
        have n2 : (putEnt ents k P ck).find? (fun x => x.blk == b) = none := find_none (fun x hm e => by
          rcases mem_putEnt hm with ⟨h1, h2⟩ | ⟨h1, h2⟩
          · exact hx ⟨x, h1, h2, e⟩
          · exact hP (e.symm.trans h2))
        simp only [pagesH, n1, n2]

/-- copy into a row of cells, at a place -/
theorem run_copy_at {P : Program} {W0 w : World} {H : Hp} {F : List Hp} (dT sT ty elem : TypeId) (hu : P.underlying dT = some (.slice elem)) (hz : (P.info? elem).map (·.size) = some 1)
    {b o : Nat} {vs : List Value} (s : Sat W0 w H (cellsH ⟨b, o, none⟩ vs :: F)) (off dl dc : Nat) (D X : Option Addr) (m c : Nat) (us : List Value) (hD : 0 < us.length → D = some ⟨b, o + off, none⟩) (hl : us.length = min m dl) (hfit : off + us.length ≤ vs.length) (hus : RowR w X us)
    (h1 : ∀ x ∈ us, x.oneCell' = true) :
    ∃ w', (Builtin.copy_ #[dT, sT] ty #[.slice D dl dc, .slice X m c]).run P w = .ok (goInt us.length) w' ∧ Sat W0 w' H (cellsH ⟨b, o, none⟩ (vs.take off ++ us ++ vs.drop (off + us.length)) :: F) := by
  by_cases h0 : us.length = 0
  · obtain rfl : us = [] := List.eq_nil_of_length_eq_zero h0
    exact ⟨w, run_copy_none w dT sT ty elem _ _ _ _ _ _ hu hz (by simpa using hl.symm), by simpa using s⟩
  · obtain rfl := hD (by omega)
    have hne : us ≠ [] := by rintro rfl; simp at h0
    obtain ⟨b', o', rfl, _⟩ := hus hne
    have hlo := run_loadCells_list (P := P) w ⟨b', o', none⟩ us hus.add
    obtain ⟨w', hr, hs⟩ := run_store_row P (a := ⟨b, o, none⟩) rfl us off 0 vs w s (by omega) h1
    refine ⟨w', ?_, by simpa using hs⟩
    cases hq : P.info? elem with
    | none => simp [hq] at hz
    | some i =>
      have hi : i.size = 1 := by simpa [hq] using hz
      have hmn : Nat.min m dl = us.length := hl.symm
      have hmn2 : min m dl = us.length := hl.symm
      simp [Builtin.copy_, run_underlying hu, Builtin.lenOf, Builtin.firstCells, sizeOf, typeInfo, hq, hi, hmn2, hlo, hr]

theorem wpList_copyAt {P : Program} {ops : Array Oper} {rest : List Oper} {oo : Oper} {a : Act} {Q : Exit → Act → World → Prop} {W0 w : World} {H : Hp} {A F : List Hp} (hgd : oo.guard = none) (d s : Operand) (dT sT elem : TypeId)
    (ho : oo.op = .call { callee := .builtin .copy, args := #[d, s], argTypes := #[dT, sT] }) (hu : P.underlying dT = some (.slice elem)) (hz : (P.info? elem).map (·.size) = some 1)
    {b o : Nat} {vs : List Value} (st : Sat W0 w H A) [fr : FrH (cellsH ⟨b, o, none⟩ vs) A F] (off : Nat) {dl dc : Nat} {D X : Option Addr} {m c : Nat} (hd : a.eval d = .slice D dl dc) (hx : a.eval s = .slice X m c) (us : List Value) (hD : 0 < us.length → D = some ⟨b, o + off, none⟩) (hl : us.length = min m dl) (hfit : off + us.length ≤ vs.length) (hus : RowR w X us)
    (h1 : ∀ x ∈ us, x.oneCell' = true)
    (k : ∀ w', Sat W0 w' H (cellsH ⟨b, o, none⟩ (vs.take off ++ us ++ vs.drop (off + us.length)) :: F) → wpList P ops Q rest (a.put oo.dst (goInt us.length)) w') : wpList P ops Q (oo :: rest) a w := by
  obtain ⟨w', hr, hs'⟩ := run_copy_at (P := P) dT sT oo.type elem hu hz st.pull off dl dc D X m c us hD hl hfit hus h1
  refine wpList_run hgd (v := goInt us.length) (w' := w') ?_ (k w' hs')
  unfold execOp
  rw [ho]
  simp only [resolve, invoke]
  simp [builtin, hd, hx, hr]

theorem step_copyAt {P : Program} {ops : Array Oper} {oo : Oper} {a : Act} {K : Act → World → Prop} {Q : Exit → Act → World → Prop} {E : Prop} {W0 w : World} {H : Hp} {A F : List Hp} (hgd : oo.guard = none) (d s : Operand) (dT sT elem : TypeId)
    (ho : oo.op = .call { callee := .builtin .copy, args := #[d, s], argTypes := #[dT, sT] }) (hu : P.underlying dT = some (.slice elem)) (hz : (P.info? elem).map (·.size) = some 1)
    {b o : Nat} {vs : List Value} (st : Sat W0 w H A) [fr : FrH (cellsH ⟨b, o, none⟩ vs) A F] (off : Nat) {dl dc : Nat} {D X : Option Addr} {m c : Nat} (hd : a.eval d = .slice D dl dc) (hx : a.eval s = .slice X m c) (us : List Value) (hD : 0 < us.length → D = some ⟨b, o + off, none⟩) (hl : us.length = min m dl) (hfit : off + us.length ≤ vs.length) (hus : RowR w X us)
    (h1 : ∀ x ∈ us, x.oneCell' = true)
    (k : ∀ w', Sat W0 w' H (cellsH ⟨b, o, none⟩ (vs.take off ++ us ++ vs.drop (off + us.length)) :: F) → K (a.put oo.dst (goInt us.length)) w') : if Region.wanted oo (yielded ops a.tmps) = true then Oper.wp P oo a w K Q else E := by
  obtain ⟨w', hr, hs'⟩ := run_copy_at (P := P) dT sT oo.type elem hu hz st.pull off dl dc D X m c us hD hl hfit hus h1
  rw [if_pos (by simp [Region.wanted, hgd])]
  have he : (execOp a.eval oo).run P w = .ok (.value (goInt us.length)) w' := by
    unfold execOp
    rw [ho]
    simp only [resolve, invoke]
    simp [builtin, hd, hx, hr]
  unfold Oper.wp
  rw [he]
  exact k w' hs'
end Go.Proofs.Ytohccblfnjampaa
