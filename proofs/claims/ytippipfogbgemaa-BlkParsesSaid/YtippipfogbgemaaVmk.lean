/-
  MAPS OF PAGES, plain laws: an entry put, new or old; the pages without a key's; cells stored one behind the other; bytes in a row. Plain theorems over any program.
-/
import Derived.Test.YtippipfogbgemaaVo
namespace Go.Proofs.Ytippipfogbgemaa
open Go.RowKit
set_option linter.unusedVariables false

/-- the entries, where key k has the block P now -/
def putEnt (ents : List Ent) (k P ck : Nat) : List Ent :=
  if ∃ e ∈ ents, e.key = k then ents.map (fun x => if x.key = k then ⟨k, P, x.born⟩ else x) else ents ++ [⟨k, P, ck⟩]
def putCk (ents : List Ent) (k ck : Nat) : Nat := if ∃ e ∈ ents, e.key = k then ck else ck + 1

section
variable {P : Program} {w : World} {mt kt vt : TypeId} {mb ck : Nat} {ents : List Ent}

theorem findNow_old {ents : List Ent} (hk : ents.Pairwise (·.key ≠ ·.key)) {e : Ent} (he : e ∈ ents) : ∃ j, ents[j]? = some e ∧ Instr.findNow (.int .u64) (.int .u64 (e.key : Int)) (ents.map Ent.me) 0 = some (some (j, .pointer (some ⟨e.blk, 0, none⟩))) := by
  rw [findNow_me]
  cases hf : (ents.zipIdx 0).find? (fun x => x.1.key == e.key) with
  | none =>
    exfalso
    rw [List.find?_eq_none] at hf
    obtain ⟨n, hn⟩ := List.getElem?_of_mem he
    exact hf (e, n) (List.mem_zipIdx_iff_getElem?.2 (by simpa using hn)) (by simp)
  | some x =>
    obtain ⟨y, j⟩ := x
    have hx := List.mem_of_find?_eq_some hf
    have hxk : y.key = e.key := by simpa using List.find?_some hf
    have hy : ents[j]? = some y := by simpa using List.mem_zipIdx_iff_getElem?.1 hx
    obtain ⟨m, hm⟩ := List.getElem?_of_mem he
    have : y = e := by
      rcases Nat.decEq j m with hnm | hnm
      · exact absurd hxk (pairwise_get (R := fun a b : Ent => a.key ≠ b.key) (fun a b h => h.symm) hk j m y e hnm hy hm)
      · subst hnm; rw [hy] at hm; injection hm
    subst this
    exact ⟨j, hy, rfl⟩

theorem run_mapPut (hm : P.underlying mt = some (.map kt vt)) (hk : P.underlying kt = some (.int .u64)) (hp : ents.Pairwise (·.key ≠ ·.key)) (ho : w.heap[mb]? = some (.map (ents.map Ent.me).toArray ck)) (k blk : Nat) :
    (Instr.mapUpdate mt (.map (some mb)) (.int .u64 (k : Int)) (.pointer (some ⟨blk, 0, none⟩))).run P w = .ok () (setO w mb (.map ((putEnt ents k blk ck).map Ent.me).toArray (putCk ents k ck))) := by
  by_cases he : ∃ e ∈ ents, e.key = k
  · unfold putEnt putCk
    rw [if_pos he, if_pos he]
    obtain ⟨e, hmem, rfl⟩ := he
    obtain ⟨j, hj, hf⟩ := findNow_old hp hmem
    have hmod : (ents.map Ent.me).modify j (fun x => { x with key := .int .u64 (e.key : Int), val := .pointer (some ⟨blk, 0, none⟩) }) = (ents.map (fun x => if x.key = e.key then (⟨e.key, blk, x.born⟩ : Ent) else x)).map Ent.me := by
      apply List.ext_getElem?
      intro m
      rw [List.getElem?_modify, List.getElem?_map, List.getElem?_map, List.getElem?_map]
      by_cases hjm : j = m
      · subst hjm
        rw [hj]
        simp [Ent.me]
      · cases hem : ents[m]? with
        | none => simp [hjm]
        | some y =>
          have hne : ¬ y.key = e.key := fun h => pairwise_get (R := fun a b : Ent => a.key ≠ b.key) (fun a b h => h.symm) hp m j y e (Ne.symm hjm) hem hj h
          simp [hjm, hne]
    have hold : ((ents.map Ent.me).toArray[j]?).map (·.key) = some (.int .u64 (e.key : Int)) := by simp [hj, Ent.me]
    simp [Instr.mapUpdate, run_underlying hm, MapKept.run_getObj_map ho, run_checkKey hk, Instr.findKey, run_underlying hk, hf, Instr.keyThatStays, Instr.sameBits, MapKept.run_setObj_map _ ho, setO, hj, Ent.me, hmod]
    try (rw [← hmod]; simp [Ent.me])
  · unfold putEnt putCk
    rw [if_neg he, if_neg he]
    exact run_mapNew hm hk ho (fun e hm h => he ⟨e, hm, h⟩) blk
end

theorem Sat.shrink {W0 w : World} {H h h' : Hp} {F : List Hp} (s : Sat W0 w H (h :: F)) (le : ∀ l c, h' l = some c → h l = some c) : Sat W0 w H (h' :: F) := by
  have ap := List.pairwise_cons.1 s.apart
  have e := s.each h (List.mem_cons_self ..)
  have dj : ∀ k : Hp, Dj h k → Dj h' k := fun k d l => by
    rcases d l with h1 | h1
    · refine .inl ?_
      cases hh : h' l with
      | none => rfl
      | some c => rw [le l c hh] at h1; cases h1
    · exact .inr h1
  refine ⟨s.below, s.ro, s.old, List.pairwise_cons.2 ⟨fun k hk => dj k (ap.1 k hk), ap.2⟩, fun k hk => ?_⟩
  rcases List.mem_cons.1 hk with rfl | hk
  · exact ⟨fun l c hl => e.1 l c (le l c hl), dj H e.2⟩
  · exact s.each k (List.mem_cons_of_mem _ hk)

theorem find_none {ents : List Ent} {b : Nat} (h : ∀ x ∈ ents, x.blk ≠ b) : ents.find? (fun x => x.blk == b) = none := by
  rw [List.find?_eq_none]
  intro x hx
  simp [h x hx]

/-- the pages without a key's -/
theorem pages_less {ba sz : Nat} {ents : List Ent} {mem : Int → Int} (hb : ents.Pairwise (·.blk ≠ ·.blk)) (k : Nat) : ∀ l c, pagesH ba sz (ents.filter (fun x => x.key ≠ k)) mem l = some c → pagesH ba sz ents mem l = some c := by
  intro l c h
  cases l with
  | obj b => simp [pagesH] at h
  | cell b o =>
    by_cases hx : ∃ x ∈ ents.filter (fun x => x.key ≠ k), x.blk = b
    · obtain ⟨x, hx, rfl⟩ := hx
      have hb2 : (ents.filter (fun x => x.key ≠ k)).Pairwise (·.blk ≠ ·.blk) := hb.sublist (List.filter_sublist)
      simp only [pagesH, find_blk hb2 hx] at h
      simp only [pagesH, find_blk hb (List.mem_filter.1 hx).1]
      exact h
    · simp only [pagesH, find_none (fun x hm e => hx ⟨x, hm, e⟩)] at h
      cases h

theorem mem_putEnt {ents : List Ent} {k P ck : Nat} {x : Ent} (h : x ∈ putEnt ents k P ck) : (x ∈ ents ∧ x.key ≠ k) ∨ (x.key = k ∧ x.blk = P) := by
  unfold putEnt at h
  split at h
  · obtain ⟨y, hy, rfl⟩ := List.mem_map.1 h
    by_cases hk : y.key = k
    · right; simp [hk]
    · left; simp [hk, hy]
  · rename_i hn
    rcases List.mem_append.1 h with h | h
    · exact .inl ⟨h, fun e => hn ⟨x, h, e⟩⟩
    · simp at h; subst h; exact .inr ⟨rfl, rfl⟩
theorem putEnt_old {ents : List Ent} {k P ck : Nat} {x : Ent} (h : x ∈ ents) (hk : x.key ≠ k) : x ∈ putEnt ents k P ck := by
  unfold putEnt
  split
  · exact List.mem_map.2 ⟨x, h, by simp [hk]⟩
  · exact List.mem_append_left _ h
theorem putEnt_new {ents : List Ent} {k P ck : Nat} : ∃ x ∈ putEnt ents k P ck, x.key = k ∧ x.blk = P := by
  unfold putEnt
  split
  · rename_i h
    obtain ⟨e, he, hk⟩ := h
    exact ⟨⟨k, P, e.born⟩, List.mem_map.2 ⟨e, he, by simp [hk]⟩, rfl, rfl⟩
  · exact ⟨⟨k, P, ck⟩, by simp, rfl, rfl⟩
theorem putEnt_pw {ents : List Ent} {k P ck : Nat} (hk : ents.Pairwise (·.key ≠ ·.key)) (hb : ents.Pairwise (·.blk ≠ ·.blk)) (hborn : ents.Pairwise (·.born ≠ ·.born) ∧ ∀ e ∈ ents, e.born < ck) (hf : ∀ x ∈ ents, x.blk ≠ P) :
    (putEnt ents k P ck).Pairwise (·.key ≠ ·.key) ∧ (putEnt ents k P ck).Pairwise (·.blk ≠ ·.blk) ∧ ((putEnt ents k P ck).Pairwise (·.born ≠ ·.born) ∧ ∀ e ∈ putEnt ents k P ck, e.born < putCk ents k ck) := by
  unfold putEnt putCk
  split
  · refine ⟨?_, ?_, ?_, ?_⟩
    · rw [List.pairwise_map]
      exact hk.imp (fun {a b} h => by by_cases h1 : a.key = k <;> by_cases h2 : b.key = k <;> simp [h1, h2] <;> first | (rw [h1, h2] at h; exact h rfl) | (intro e; first | exact h2 e.symm | exact h1 e) | exact h)
    · rw [List.pairwise_map]
      refine (hk.and hb).imp_of_mem (fun {a b} ha hb' h => ?_)
      by_cases h1 : a.key = k <;> by_cases h2 : b.key = k <;> simp [h1, h2]
      · exact absurd (h1.trans h2.symm) h.1
      · exact fun e => hf b hb' e.symm
      · exact fun e => hf a ha e
      · exact h.2
    · rw [List.pairwise_map]
      exact hborn.1.imp (fun {a b} h => by by_cases h1 : a.key = k <;> by_cases h2 : b.key = k <;> simp [h1, h2] <;> exact h)
    · intro e he
      obtain ⟨y, hy, rfl⟩ := List.mem_map.1 he
      have := hborn.2 y hy
      by_cases h1 : y.key = k <;> simp [h1] <;> exact this
  · rename_i hn
    refine ⟨List.pairwise_append.2 ⟨hk, by simp, fun x hx y hy => by simp at hy; subst hy; exact fun e => hn ⟨x, hx, e⟩⟩, List.pairwise_append.2 ⟨hb, by simp, fun x hx y hy => by simp at hy; subst hy; exact hf x hx⟩, List.pairwise_append.2 ⟨hborn.1, by simp, fun x hx y hy => by simp at hy; subst hy; have := hborn.2 x hx; simp only; omega⟩, fun e he => ?_⟩
    rcases List.mem_append.1 he with h | h
    · have := hborn.2 e h; omega
    · simp at h; subst h; simp

theorem putB_bd {m : Int → Int} (hm : ∀ a, 0 ≤ m a ∧ m a ≤ 255) (A : Int) {bs : List Int} (hb : ∀ x ∈ bs, 0 ≤ x ∧ x ≤ 255) : ∀ a, 0 ≤ putB m A bs a ∧ putB m A bs a ≤ 255 := by
  intro x
  unfold putB
  split
  · cases h : bs[(x - A).toNat]? with
    | none => exact hm x
    | some y => exact hb y (List.mem_of_getElem? h)
  · exact hm x

theorem rdB_zero {m : Int → Int} {a : Int} : ∀ (n : Nat), (∀ i : Nat, i < n → m (a + i) = 0) → rdB m a n = List.replicate n 0
  | 0, _ => rfl
  | n + 1, h => by
    rw [rdB, rdB_zero n (fun i hi => h i (by omega)), h n (by omega), List.replicate_succ']

theorem rdB_same {m m' : Int → Int} (a : Int) : ∀ (n : Nat), (∀ i : Nat, i < n → m' (a + i) = m (a + i)) → rdB m' a n = rdB m a n
  | 0, _ => rfl
  | n + 1, h => by rw [rdB, rdB, rdB_same a n (fun i hi => h i (by omega)), h n (by omega)]

theorem Sat.frozenD {W0 w : World} {H h : Hp} {A : List Hp} (s : Sat W0 w H (h :: A)) : ∀ l c, h l = some c → un H h l = some c := by
  intro l c e
  rcases (s.each h (List.mem_cons_self ..)).2 l with h1 | h1
  · rw [e] at h1; cases h1
  · simp [un, h1, e]
theorem un_leftD {H h : Hp} : ∀ l c, H l = some c → un H h l = some c := by intro l c e; simp [un, e]


theorem Sat.setCells {W0 : World} {H : Hp} {F : List Hp} {b : Nat} : ∀ (us : List Value) (o : Nat) (w : World) (vs : List Value), Sat W0 w H (cellsH ⟨b, 0, none⟩ vs :: F) → o + us.length ≤ vs.length → Sat W0 (w.setCells b o us) H (cellsH ⟨b, 0, none⟩ (vs.take o ++ us ++ vs.drop (o + us.length)) :: F)
  | [], o, w, vs, s, _ => by simpa [World.setCells] using s
  | u :: us, o, w, vs, s, h => by
    simp only [List.length_cons] at h
    have s1 := s.setAt (i := o) (by omega) u
    simp only [Nat.zero_add] at s1
    have s2 := Sat.setCells (W0 := W0) us (o + 1) _ _ s1 (by rw [List.length_set]; omega)
    have e : (vs.set o u).take (o + 1) ++ us ++ (vs.set o u).drop (o + 1 + us.length) = vs.take o ++ (u :: us) ++ vs.drop (o + (u :: us).length) := by
      apply List.ext_getElem?
      intro j
      simp only [List.getElem?_append, List.length_append, List.length_take, List.length_set, List.length_cons, List.getElem?_take, List.getElem?_set, List.getElem?_drop, List.getElem?_cons]
      have e1 : min (o + 1) vs.length = o + 1 := by omega
      have e2 : min o vs.length = o := by omega
      rw [e1, e2]
      by_cases c1 : j < o
      · simp [show j < o + 1 + us.length by omega, show j < o + 1 by omega, c1, show j < o + (us.length + 1) by omega, show ¬ o = j by omega]
      · by_cases c2 : j = o
        · subst c2; simp [show j < j + 1 + us.length by omega]; omega
        · by_cases c3 : j < o + 1 + us.length
          · simp [c3, show ¬ j < o + 1 by omega, c1, show j < o + (us.length + 1) by omega, show ¬ j - o = 0 by omega, show j - (o + 1) = j - o - 1 by omega]
          · simp [c3, show ¬ j < o + (us.length + 1) by omega, show ¬ o = o + 1 + us.length + (j - (o + 1 + us.length)) by omega]
            congr 1; omega
    rw [e] at s2
    exact s2

theorem rdB_in (m : Int → Int) (a : Int) (n : Nat) (x : Int) (h : a ≤ x ∧ x < a + n) : putB (fun _ => 0) a (rdB m a n) x = m x := by
  unfold putB
  rw [if_pos h.1, rdB_get m a n (x - a).toNat (by omega)]
  simp
  congr 1
  omega

theorem putB_rdB (m2 m : Int → Int) (a : Int) (n : Nat) (x : Int) : putB m2 a (rdB m a n) x = if a ≤ x ∧ x < a + n then m x else m2 x := by
  unfold putB
  by_cases h : a ≤ x
  · rw [if_pos h]
    by_cases h2 : x < a + n
    · rw [if_pos ⟨h, h2⟩, rdB_get m a n (x - a).toNat (by omega)]
      simp
      congr 1
      omega
    · rw [if_neg (fun q => h2 q.2), List.getElem?_eq_none (by rw [rdB_len]; omega)]; rfl
  · rw [if_neg h, if_neg (fun q => h q.1)]

end Go.Proofs.Ytippipfogbgemaa
