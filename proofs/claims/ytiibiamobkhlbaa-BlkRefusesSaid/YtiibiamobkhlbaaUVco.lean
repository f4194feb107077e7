/-
  DISK: Copy.
-/
import Derived.Test.YtiibiamobkhlbaaG6
import Derived.Test.YtiibiamobkhlbaaG4
import Derived.Deep.MidRow
set_option linter.unusedVariables false
set_option linter.unusedSimpArgs false
namespace Go.Proofs.Ytiibiamobkhlbaa
open Go.RowKit
set_option linter.unusedVariables false

/-- what has been copied, when these entries have been seen -/
def CopyI (d : DiskG) (seen : Array Nat) (m2 : Int → Int) : Prop :=
  ∀ x : Int, ((∃ e ∈ d.ents, seen.contains e.born = true ∧ 512 * (e.key : Int) ≤ x ∧ x < 512 * (e.key : Int) + 512) → m2 x = d.mem x) ∧
    ((¬ ∃ e ∈ d.ents, seen.contains e.born = true ∧ 512 * (e.key : Int) ≤ x ∧ x < 512 * (e.key : Int) + 512) → m2 x = if x < 0 then d.mem x else 0)

theorem CopyI.start (d : DiskG) : CopyI d #[] (fun x => if x < 0 then d.mem x else 0) := fun x =>
  ⟨fun ⟨e, _, h, _⟩ => by simp at h, fun _ => rfl⟩

theorem CopyI.step {d : DiskG} {seen : Array Nat} {m2 : Int → Int} (c : CopyI d seen m2) {e : Ent} (he : e ∈ d.ents) : CopyI d (seen.push e.born) (putB m2 ((512 * e.key : Nat) : Int) (rdB d.mem ((512 * e.key : Nat) : Int) 512)) := by
  intro x
  rw [putB_rdB]
  have hiff : (∃ e' ∈ d.ents, (seen.push e.born).contains e'.born = true ∧ 512 * (e'.key : Int) ≤ x ∧ x < 512 * (e'.key : Int) + 512) ↔ ((∃ e' ∈ d.ents, seen.contains e'.born = true ∧ 512 * (e'.key : Int) ≤ x ∧ x < 512 * (e'.key : Int) + 512) ∨ (512 * (e.key : Int) ≤ x ∧ x < 512 * (e.key : Int) + 512)) := by
    constructor
    · rintro ⟨e', h1, h2, h3⟩
      simp only [Array.contains_push, Bool.or_eq_true, beq_iff_eq] at h2
      rcases h2 with h2 | h2
      · exact .inl ⟨e', h1, h2, h3⟩
      · obtain ⟨i, hi⟩ := List.getElem?_of_mem h1
        obtain ⟨j, hj⟩ := List.getElem?_of_mem he
        have : e' = e := by
          rcases Nat.decEq i j with hij | hij
          · exact absurd h2 (pairwise_get (R := fun a b : Ent => a.born ≠ b.born) (fun a b h => h.symm) d.hborn.1 i j e' e hij hi hj)
          · subst hij; rw [hi] at hj; exact Option.some.inj hj
        subst this
        exact .inr h3
    · rintro (⟨e', h1, h2, h3⟩ | h)
      · exact ⟨e', h1, by simp only [Array.contains_push, Bool.or_eq_true]; exact .inl h2, h3⟩
      · exact ⟨e, he, by simp, h⟩
  have hr : ((((512 * e.key : Nat) : Int) ≤ x ∧ x < ((512 * e.key : Nat) : Int) + (512 : Nat)) ↔ (512 * (e.key : Int) ≤ x ∧ x < 512 * (e.key : Int) + 512)) := by omega
  constructor
  · intro h
    by_cases h2 : 512 * (e.key : Int) ≤ x ∧ x < 512 * (e.key : Int) + 512
    · rw [if_pos (hr.2 h2)]
    · rw [if_neg (fun q => h2 (hr.1 q))]
      exact (c x).1 ((hiff.1 h).resolve_right h2)
  · intro h
    rw [if_neg (fun q => h (hiff.2 (.inr (hr.1 q))))]
    exact (c x).2 (fun q => h (hiff.2 (.inl q)))

theorem CopyI.done {d : DiskG} {seen : Array Nat} {m2 : Int → Int} (c : CopyI d seen m2) (h : ∀ e ∈ d.ents, seen.contains e.born = true) : m2 = d.mem := by
  funext x
  by_cases hx : ∃ e ∈ d.ents, seen.contains e.born = true ∧ 512 * (e.key : Int) ≤ x ∧ x < 512 * (e.key : Int) + 512
  · exact (c x).1 hx
  · rw [(c x).2 hx]
    by_cases h0 : x < 0
    · rw [if_pos h0]
    · rw [if_neg h0]
      obtain ⟨y, rfl⟩ := Int.eq_ofNat_of_zero_le (show 0 ≤ x by omega)
      have hz := d.hzero (y / 512) (fun e he hk => hx ⟨e, he, h e he, by omega, by omega⟩) (y % 512) (by omega)
      rw [show ((0 + 512 * (y / 512) + y % 512 : Nat) : Int) = (y : Int) by omega] at hz
      exact hz.symm

section
variable {R : Ending → World → Prop} {W0 w : World} {H : Hp} {A F : List Hp} {b : Nat} {d : DiskG}

theorem sect_size : (Try.prog.info? 165).map (·.size) = some 512 := by kernel_rfl

set_option maxRecDepth 100000 in
set_option maxHeartbeats 4000000 in
theorem c_diskCopy (s : Sat W0 w H A) [fr : FrK (κ := Addr) (ρ := fun _ => DiskG) diskL ⟨b, 0, none⟩ A d F]
    (k : ∀ w' c d', DiskG.Like d d' → d'.mem = d.mem → Sat W0 w' H (diskL ⟨c, 0, none⟩ d' ++ (diskL ⟨b, 0, none⟩ d ++ F)) → R (.returned (.pointer (some ⟨c, 0, none⟩))) w') :
    Calls Try.prog 24 #[.pointer (some ⟨b, 0, none⟩)] w R := by
  have s0 := s.front (mk := diskL) (k := ⟨b, 0, none⟩)
  have hmm : ∀ W, (Instr.makeMap 160 none).run Try.prog W = .ok (.map (some W.heap.size)) (W.alloc (.map #[] 0)) := fun W => run_makeMap _ W
  simp only [diskL, List.cons_append, List.nil_append] at s0
  have c0 := s0.c0
  have c1 := s0.c 1 rfl
  have c2 := s0.c 2 rfl
  have c3 := s0.c 3 rfl
  have c4 := s0.c 4 rfl
  have c5 := s0.c 5 rfl
  simp only [Nat.zero_add] at c0 c1 c2 c3 c4 c5
  obtain ⟨X, hX⟩ : ∃ X, w.heap.size = X := ⟨_, rfl⟩
  have s1 := ((s0.alloc (c := [.int .u64 d.count, .bool d.locked, .map (some (X + 1)), .int .u64 d.fault, .int .u64 d.reqs, .int .u64 d.flushes]) (t := 162)).allocO (o := .map #[] 0) (by intro c t f h; cases h)).emp
  rw [← pagesH_noneD 0 512 (fun x => if x < 0 then d.mem x else 0), World.size_alloc, hX] at s1
  have b2 := s1.cel b 0 2 rfl
  simp only [Nat.zero_add] at b2
  have hob := s1.obj (b := d.mb) (o := .map (d.ents.map Ent.me).toArray d.ck) (by simp)
  have hrange := run_range_map (P := Try.prog) _ 160 23 163 d.mb _ d.ck Try.underlying160 hob
  have s2 := s1.allocO (o := .mapIter (some d.mb) d.ck #[] d.ck) (by intro c t f h; cases h)
  simp only [World.size_alloc, hX] at s2 hrange
  obtain ⟨r, hr⟩ : ∃ r, X + 1 + 1 = r := ⟨_, rfl⟩
  rw [hr] at s2 hrange
  obtain ⟨d0, hd0⟩ : ∃ d0 : DiskG, d0 = ⟨d.count, d.locked, X + 1, 0, [], fun x => if x < 0 then d.mem x else 0, d.fault, d.reqs, d.flushes, d.hcount, by simp, by simp, ⟨by simp, by simp⟩, by simp, fun a => by split; exact d.hmem a; omega, fun k _ o _ => by rw [if_neg (by omega)], d.hfault, d.hreqs, d.hflushes⟩ := ⟨_, rfl⟩
  have hL : diskL ⟨X, 0, none⟩ d0 ++ F = cellsH ⟨X, 0, none⟩ [.int .u64 d.count, .bool d.locked, .map (some (X + 1)), .int .u64 d.fault, .int .u64 d.reqs, .int .u64 d.flushes] :: objH (X + 1) (.map #[] 0) :: pagesH 0 512 [] (fun x => if x < 0 then d.mem x else 0) :: F := by rw [hd0]; rfl
  have s3 := (show Sat W0 _ H (objH r (.mapIter (some d.mb) d.ck #[] d.ck) :: objH d.mb (.map (d.ents.map Ent.me).toArray d.ck) :: cellsH ⟨b, 0, none⟩ [.int .u64 d.count, .bool d.locked, .map (some d.mb), .int .u64 d.fault, .int .u64 d.reqs, .int .u64 d.flushes] :: pagesH 0 512 d.ents d.mem :: (cellsH ⟨X, 0, none⟩ [.int .u64 d.count, .bool d.locked, .map (some (X + 1)), .int .u64 d.fault, .int .u64 d.reqs, .int .u64 d.flushes] :: objH (X + 1) (.map #[] 0) :: pagesH 0 512 [] (fun x => if x < 0 then d.mem x else 0) :: F)) from s2.wk)
  rw [← hL] at s3
  have hlike : DiskG.Like d d0 := by rw [hd0]; exact ⟨rfl, rfl, rfl, rfl, rfl⟩
  have hd0m : d0.mb = X + 1 := by rw [hd0]
  have hci : CopyI d #[] d0.mem := by rw [hd0]; exact CopyI.start d
  have hold : ∀ x ∈ ((d.ents.map Ent.me).toArray).toList, x.born < d.ck := fun x hx => by
    simp at hx
    obtain ⟨e, he, rfl⟩ := hx
    exact d.hborn.2 e he
  have hnod : (((d.ents.map Ent.me).toArray).toList.map (·.born)).Nodup := by
    simp only [List.map_map]
    rw [List.nodup_iff_pairwise_ne, List.pairwise_map]
    exact d.hborn.1.imp (fun h => h)
  replace hci := aside hci
  replace hd0m := aside hd0m
  clear s0 s1 s2 hd0 s fr hob hL
  go_enter Try.func24, Try.ntmps24
  go_wp2
  generalize World.alloc (World.alloc (World.alloc w _) _) _ = W3 at s3 ⊢
  go_loopg [] (leftOf (d.ents.map Ent.me).toArray #[]).size (fun q w' => ∃ (seen : Array Nat) (d2 : DiskG), q = (leftOf (d.ents.map Ent.me).toArray seen).size ∧ DiskG.Like d d2 ∧ Aside (d2.mb = X + 1) ∧ Aside (CopyI d seen d2.mem) ∧ Sat W0 w' H (objH r (.mapIter (some d.mb) d.ck seen d.ck) :: objH d.mb (.map (d.ents.map Ent.me).toArray d.ck) :: (cellsH ⟨b, 0, none⟩ [.int .u64 d.count, .bool d.locked, .map (some d.mb), .int .u64 d.fault, .int .u64 d.reqs, .int .u64 d.flushes] :: pagesH 0 512 d.ents d.mem :: (diskL ⟨X, 0, none⟩ d2 ++ F))))
  case atStart => exact ⟨#[], d0, rfl, hlike, hd0m, hci, s3⟩
  clear s3
  case round =>
    obtain ⟨seen, d2, rfl, lk, hmb2, hc2, s'⟩ := hrel
    rcases next_sat (P := Try.prog) 0 s' hold (Nat.le_refl _) with ⟨h0, hrun⟩ | ⟨e, hin, w1, hrun, s2⟩
    · have hall : ∀ e ∈ d.ents, seen.contains e.born = true := fun e he => by
        rcases Bool.eq_false_or_eq_true (seen.contains e.born) with h | h
        · exact h
        · exfalso
          have : Ent.me e ∈ (leftOf (d.ents.map Ent.me).toArray seen) := by
            unfold leftOf
            simp only [Array.mem_filter]
            exact ⟨by simp; exact ⟨e, he, rfl⟩, by rw [show (Ent.me e).born = e.born from rfl, h]; rfl⟩
          have h1 : 0 < (leftOf (d.ents.map Ent.me).toArray seen).size := Array.size_pos_of_mem this
          omega
      have s4 := (show Sat W0 wr H ((diskL ⟨X, 0, none⟩ d2 ++ F).append [] ) → True from fun _ => trivial)
      have hm := hc2.out.done hall
      have K := k wr X d2 lk hm (by simp only [diskL, List.cons_append, List.nil_append] at s' ⊢; exact s'.tail1.wk)
      clear s' s4 hall
      go_wp2
      exact K
    · obtain ⟨hin1, hin2⟩ := mem_left hin
      have hsh := left_shrinks _ _ _ hin
      simp only [List.mem_map] at hin1
      obtain ⟨e0, he0, rfl⟩ := hin1
      have hent := entry_sat (P := Try.prog) s2 (by simp; exact ⟨e0, he0, rfl⟩) hnod
      have hc3 := aside (CopyI.step hc2.out he0)
      have hpg := (Sat.pull (h := pagesH 0 512 d.ents d.mem) s2).head
      obtain ⟨CS, hCS⟩ : ∃ CS, (rdB d.mem ((512 * e0.key : Nat) : Int) 512).map (Value.int .u8) = CS := ⟨_, rfl⟩
      have hCl : CS.length = 512 := by rw [← hCS, List.length_map, rdB_len]
      have hC1 : ∀ x ∈ CS, x.oneCell' = true := by rw [← hCS]; exact oneCell_u8 _
      have hmid : w1.rangeAt e0.blk 0 CS := fun j v hv => by
        obtain ⟨b1, o1, h1, h2⟩ := pages_row hpg d.hblk he0 (by intro h; rw [List.map_eq_nil_iff] at h; have := congrArg List.length h; rw [rdB_len] at this; cases this)
        cases h1
        rw [show (512 * (e0.key : Int)) = ((512 * e0.key : Nat) : Int) by omega, hCS] at h2
        exact h2 j v hv
      have hbs : ∀ x ∈ rdB d.mem ((512 * e0.key : Nat) : Int) 512, 0 ≤ x ∧ x ≤ 255 := rdB_bd d.hmem _ _
      have hkc : (e0.key : Int) < d2.count := by rw [lk.count]; exact d.hin e0 he0
      have hBl : (rdB d.mem ((512 * e0.key : Nat) : Int) 512).length = 512 := rdB_len ..
      obtain ⟨ZL, hZL⟩ : ∃ ZL, List.replicate 512 (Value.int .u8 0) = ZL := ⟨_, rfl⟩
      have hZl : ZL.length = 512 := by rw [← hZL]; exact List.length_replicate
      obtain ⟨P, hP⟩ : ∃ P, w1.heap.size = P := ⟨_, rfl⟩
      have s3 := s2.alloc (c := List.replicate 512 (Value.int .u8 0)) (t := 165)
      rw [show (List.replicate 512 (Value.int .u8 0)).toArray = Try.zeroCells165 from sect_zero, hZL, hP] at s3
      have s4 := Sat.setCells CS 0 _ _ s3 (by omega)
      rw [List.take_zero, List.nil_append, List.drop_eq_nil_of_le (by omega), List.append_nil, ← hCS] at s4
      have hthere : (World.alloc w1 (.cells Try.zeroCells165 165)).there P 0 CS.toArray.size := fun j hj => by
        rw [List.size_toArray] at hj
        have := s3.c j (List.getElem?_eq_getElem (by omega))
        exact ⟨by rw [this.1]; rfl, this.2⟩
      have hsz : (Try.prog.info? 165).map (·.size) = some CS.length := by rw [hCl]; exact sect_size
      have hsz2 : (Try.prog.info? 165).map (·.size) = some CS.toArray.size := by rw [List.size_toArray, hCl]; exact sect_size
      have hCa := all_oneCell_toArray hC1
      obtain ⟨W4, hW4⟩ : ∃ W4, (World.alloc w1 (.cells Try.zeroCells165 165)).setCells P 0 CS.toArray.toList = W4 := ⟨_, rfl⟩
      have hW4b : World.setCells (World.alloc w1 (.cells Try.zeroCells165 165)) P 0 ((rdB d.mem ((512 * e0.key : Nat) : Int) 512).map (Value.int .u8)) = W4 := by rw [hCS]; exact hW4
      rw [hW4b] at s4
      have s5 := (show Sat W0 W4 H (cellsH ⟨P, 0, none⟩ ((rdB d.mem ((512 * e0.key : Nat) : Int) 512).map (Value.int .u8)) :: (diskL ⟨X, 0, none⟩ d2 ++ (objH r (.mapIter (some d.mb) d.ck (seen.push (Ent.me e0).born) d.ck) :: objH d.mb (.map (d.ents.map Ent.me).toArray d.ck) :: (cellsH ⟨b, 0, none⟩ [.int .u64 d.count, .bool d.locked, .map (some d.mb), .int .u64 d.fault, .int .u64 d.reqs, .int .u64 d.flushes] :: pagesH 0 512 d.ents d.mem :: F)))) from by
        simp only [diskL, List.cons_append, List.nil_append] at s4 ⊢
        exact s4.wk)
      have hmap := run_mapPut (P := Try.prog) (w := W4) (ents := d2.ents) (mb := d2.mb) (ck := d2.ck) Try.underlying160 Try.underlying23 d2.hkey (s5.obj (b := d2.mb) (o := .map (d2.ents.map Ent.me).toArray d2.ck) (by simp [diskL])) e0.key P
      obtain ⟨d3, lk3, hm3, hmb3, s6⟩ := disk_put s5 hBl hbs hkc
      have s5t := s5.tail1
      simp only [diskL, List.cons_append, List.nil_append] at s5t
      have cx := s5t.c 2 rfl
      simp only [Nat.zero_add] at cx
      generalize Obj.map ((putEnt d2.ents e0.key P d2.ck).map Ent.me).toArray (putCk d2.ents e0.key d2.ck) = ob at hmap s6
      rw [← hm3] at hc3
      have s7 := (show Sat W0 (setO W4 d2.mb ob) H (objH r (.mapIter (some d.mb) d.ck (seen.push (Ent.me e0).born) d.ck) :: objH d.mb (.map (d.ents.map Ent.me).toArray d.ck) :: (cellsH ⟨b, 0, none⟩ [.int .u64 d.count, .bool d.locked, .map (some d.mb), .int .u64 d.fault, .int .u64 d.reqs, .int .u64 d.flushes] :: pagesH 0 512 d.ents d.mem :: (diskL ⟨X, 0, none⟩ d3 ++ F))) from by
        simp only [diskL, List.cons_append, List.nil_append] at s6 ⊢
        exact s6.wk)
      have hu := Try.underlying165
      have hmb4 := aside (hmb3.trans hmb2.out)
      simp only [Ent.me] at hrun hent hsh s7
      have hf1 := aside (show P = P ∧ e0.blk = e0.blk from ⟨rfl, rfl⟩)
      clear hCS hCl hC1 hpg hbs hkc hBl hZL hZl s2 s3 s4 s5 s5t s6 hm3 hmb3 s' hc2 hmb2 hin hin2 hf1 c0 c1 c2 c3 c4 c5 hrange b2 hnod hold hlike hd0m hci
      replace hsh := aside hsh
      go_wp2_with (first | (refine wpList_load_mid rfl 165 (.tmp 23) rfl e0.blk 0 rfl CS _ hmid hu rfl hsz ?_) | (refine wpList_store_mid rfl 165 (.tmp 6) (.tmp 24) rfl P 0 CS.toArray rfl rfl hthere hsz2 hCa ?_; rw [hW4]))
      go_roundg (leftOf (List.map Ent.me d.ents).toArray (seen.push e0.born)).size
      case measure => exact hsh.out
      case rel => exact ⟨seen.push e0.born, d3, rfl, lk.trans lk3, hmb4, hc3, s7⟩
end
end Go.Proofs.Ytiibiamobkhlbaa
