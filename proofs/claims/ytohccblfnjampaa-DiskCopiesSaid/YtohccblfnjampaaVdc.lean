/-
  DISK: a sector told; bytes read.
-/
import Derived.Test.YtohccblfnjampaaVdb
import Derived.Deep.RegionLaw
namespace Go.Proofs.Ytohccblfnjampaa
open Go.RowKit
set_option linter.unusedVariables false

theorem zero_sector (w : World) : (zeroValue 154).run Try.prog w = .ok (.pointer none) w := by kernel_rfl
theorem hz8D : (Try.prog.info? 5).map (·.size) = some 1 := by kernel_rfl

theorem pages_row {w : World} {ents : List Ent} {mem : Int → Int} (hh : Holds w (pagesH 0 512 ents mem)) (hb : ents.Pairwise (·.blk ≠ ·.blk)) {e : Ent} (he : e ∈ ents) : RowR w (some ⟨e.blk, 0, none⟩) ((rdB mem (512 * (e.key : Int)) 512).map (Value.int .u8)) := by
  intro _
  refine ⟨e.blk, 0, rfl, fun j u hu => ?_⟩
  have hj : j < 512 := by
    rcases Nat.lt_or_ge j 512 with h | h
    · exact h
    · rw [List.getElem?_eq_none (by rw [List.length_map, rdB_len]; exact h)] at hu; cases hu
  rw [List.getElem?_map, rdB_get _ _ _ _ hj] at hu
  obtain rfl := Option.some.inj hu
  have := look_cell (hh _ _ (pagesH_at (base := 0) (sz := 512) (mem := mem) hb he hj))
  rw [Nat.zero_add, show 512 * (e.key : Int) + (j : Int) = ((0 + 512 * e.key + j : Nat) : Int) by omega]
  exact this.1

theorem DiskG.sect_zero (d : DiskG) {k : Nat} (h : ∀ e ∈ d.ents, e.key ≠ k) : rdB d.mem (512 * (k : Int)) 512 = List.replicate 512 0 :=
  rdB_zero 512 fun i hi => by
    have := d.hzero k h i hi
    rwa [show ((0 + 512 * k + i : Nat) : Int) = 512 * (k : Int) + (i : Int) by omega] at this

section
variable {R : Ending → World → Prop} {W0 w : World} {H : Hp} {A F : List Hp} {b : Nat} {d : DiskG}

set_option maxRecDepth 100000 in
set_option maxHeartbeats 4000000 in
theorem c_diskSector (s : Sat W0 w H A) [fr : FrK (κ := Addr) (ρ := fun _ => DiskG) diskL ⟨b, 0, none⟩ A d F] (n : Int) (h0 : 0 ≤ n ∧ n ≤ 18446744073709551615)
    (kb : d.count ≤ n → R (.returned (.tuple #[.slice none 0 0, .bool false])) w)
    (k : n < d.count → ∀ w' v' h', OwnS 1 v' 512 ((rdB d.mem (512 * n) 512).map (Value.int .u8)) h' → Sat W0 w' H (h' :: (diskL ⟨b, 0, none⟩ d ++ F)) → R (.returned (.tuple #[v', .bool true])) w') :
    Calls Try.prog 45 #[.pointer (some ⟨b, 0, none⟩), .int .u64 n] w R := by
  have s1 := s.front (mk := diskL) (k := ⟨b, 0, none⟩)
  by_cases hn : n < d.count
  · have K := k hn
    obtain ⟨kk, rfl⟩ := Int.eq_ofNat_of_zero_le h0.1
    obtain ⟨ZL, hZL⟩ : ∃ ZL, List.replicate 512 (Value.int .u8 0) = ZL := ⟨_, rfl⟩
    have hZl : ZL.length = 512 := by rw [← hZL]; exact List.length_replicate
    have s2 : Sat W0 (w.alloc (.cells ZL.toArray 5)) H (cellsH ⟨w.heap.size, 0, none⟩ ZL :: (diskL ⟨b, 0, none⟩ d ++ F)) := s1.alloc
    have hmk2 : (Instr.makeSlice 34 (.int .i64 512) (.int .i64 512)).run Try.prog w = .ok (.slice (some ⟨w.heap.size, 0, none⟩) 512 512) (w.alloc (.cells ZL.toArray 5)) := by rw [← hZL]; exact run_make8 .i64 .i64 512 512 (by omega) (by omega) (by omega) w
    obtain ⟨Z, hZ⟩ : ∃ Z, w.heap.size = Z := ⟨_, rfl⟩
    rw [hZ] at s2 hmk2
    obtain ⟨US, hUS⟩ : ∃ US, (rdB d.mem (512 * (kk : Int)) 512).map (Value.int .u8) = US := ⟨_, rfl⟩
    have hUl : US.length = 512 := by rw [← hUS, List.length_map, rdB_len]
    have hU1 : ∀ x ∈ US, x.oneCell' = true := by rw [← hUS]; exact oneCell_u8 _
    rw [hUS] at K
    simp only [diskL, List.cons_append, List.nil_append] at s1 s2 K
    have c0 := s1.c0
    have c2 := s2.cel b 0 2 rfl
    simp only [Nat.zero_add] at c2
    have ho := s2.obj (b := d.mb) (o := .map (d.ents.map Ent.me).toArray d.ck) (by simp)
    have hp := (Sat.pull (h := pagesH 0 512 d.ents d.mem) s2).head
    generalize w.alloc (.cells ZL.toArray 5) = w2 at s2 c2 ho hp hmk2
    have own : OwnS 1 (.slice (some ⟨Z, 0, none⟩) 512 512) 512 US (cellsH ⟨Z, 0, none⟩ US) := by
      have := OwnS.made (size := 1) (b := Z) (o := 0) (n := 512) (c := 512) (vs := US) [] (Nat.le_refl _) (by omega) (by rw [hUl]) (by simp)
      rwa [List.append_nil] at this
    clear s s1 fr kb k
    by_cases he : ∃ e ∈ d.ents, e.key = kk
    · obtain ⟨e, hm, rfl⟩ := he
      have hl := run_lookup_yes (w := w2) Try.underlying151 Try.underlying28 ho d.hkey hm
      have hrow := pages_row hp d.hblk hm
      rw [hUS] at hrow
      clear ho hp hUS hZL
      have hfin : ZL.take 0 ++ US ++ ZL.drop (0 + US.length) = US := by rw [List.take_zero, List.nil_append, List.drop_eq_nil_of_le (by omega), List.append_nil]
      replace hfin := aside hfin
      have hUl2 := aside hUl
      have hZl2 := aside hZl
      clear hUl hZl
      go_enter Try.func45, Try.ntmps45
      go_wp2_with (refine wpList_copyAt rfl (.tmp 26) (.tmp 29) 34 34 5 rfl Try.underlying34 hz8D (b := Z) (o := 0) (vs := ZL) s2 0 rfl rfl US (fun _ => rfl) hUl2.out (by rw [hUl2.out, hZl2.out]; omega) hrow hU1 ?_; intro w3 s3; rw [hfin.out] at s3)
      exact K _ _ _ own s3
    · have hno : ∀ e ∈ d.ents, e.key ≠ kk := fun e hm h => he ⟨e, hm, h⟩
      have hl := run_lookup_no (w := w2) (z := .pointer none) Try.underlying151 Try.underlying28 ho hno (zero_sector w2)
      have hzz : US = ZL := by rw [← hUS, d.sect_zero hno, ← hZL, List.map_replicate]
      rw [hzz] at K own
      have K2 := K w2 _ _ own s2
      clear ho hp K own hno he hzz hUS hZL s2
      go_enter Try.func45, Try.ntmps45
      go_wp2
      exact K2
  · have h1 : d.count ≤ n := by omega
    have K := kb h1
    simp only [diskL, List.cons_append, List.nil_append] at s1
    have c0 := s1.c0
    clear s fr s1 k kb hn
    go_enter Try.func45, Try.ntmps45
    go_wp2
    exact K
end
end Go.Proofs.Ytohccblfnjampaa
