/-
  DISK: bytes read.
-/
import Derived.Test.YtohccblfnjampaaVdc
import Derived.Test.YtohccblfnjampaaVoy
namespace Go.Proofs.Ytohccblfnjampaa
open Go.RowKit
set_option linter.unusedVariables false

theorem rdB_appD (m : Int → Int) (a : Int) (i : Nat) : ∀ j, rdB m a (i + j) = rdB m a i ++ rdB m (a + i) j
  | 0 => by simp [rdB]
  | j + 1 => by
    have e : a + (i : Int) + (j : Int) = a + ((i + j : Nat) : Int) := by omega
    rw [show i + (j + 1) = (i + j) + 1 by omega, rdB, rdB, rdB_appD m a i j, e, List.append_assoc]

theorem fill_stepL (X U : List Int) (q N : Nat) (hX : X.length = q) (hU : U.length = 512) (h : q + 512 ≤ N) :
    (fillR X N).take q ++ U.map (Value.int .u8) ++ (fillR X N).drop (q + 512) = fillR (X ++ U) N := by
  unfold fillR
  have e1 : (X.map (Value.int .u8)).length = q := by rw [List.length_map, hX]
  have e2 : N - (X ++ U).length = N - X.length - 512 := by rw [List.length_append, hU]; omega
  have e3 : q + 512 - q = 512 := by omega
  rw [List.take_left' e1, List.drop_append, e1, List.drop_eq_nil_of_le (by rw [e1]; omega), List.nil_append, List.drop_replicate, e3, List.map_append, e2]
theorem fill_step (m : Int → Int) (A : Int) (q N : Nat) (h : q + 512 ≤ N) :
    (fillR (rdB m A q) N).take q ++ (rdB m (A + q) 512).map (Value.int .u8) ++ (fillR (rdB m A q) N).drop (q + 512) = fillR (rdB m A (q + 512)) N := by
  rw [rdB_appD m A q 512]
  exact fill_stepL _ _ q N (rdB_len _ _ _) (rdB_len _ _ _) h
theorem fill_zero (X : List Int) (N : Nat) (h : X.length + 512 ≤ N) : fillR X N = fillR (X ++ List.replicate 512 0) N := by
  unfold fillR
  obtain ⟨j, hj⟩ : ∃ j, N - X.length = 512 + j := ⟨N - X.length - 512, by omega⟩
  have e2 : N - (X ++ List.replicate 512 (0 : Int)).length = j := by rw [List.length_append, List.length_replicate]; omega
  rw [e2, hj, List.map_append, List.map_replicate, List.append_assoc, List.replicate_append_replicate]

section
variable {R : Ending → World → Prop} {W0 w : World} {H : Hp} {A F : List Hp} {b : Nat} {d : DiskG}

set_option maxRecDepth 100000 in
set_option maxHeartbeats 4000000 in
theorem c_diskReadOk (s : Sat W0 w H A) [fr : FrK (κ := Addr) (ρ := fun _ => DiskG) diskL ⟨b, 0, none⟩ A d F] (a n : Int) (ha : 0 ≤ a ∧ a ≤ 18446744073709551615) (hn : 0 ≤ n ∧ n ≤ 18446744073709551615)
    (hf1 : d.fault ≠ 1) (hp0 : pieceC d.count a n = 0)
    (k : ∀ w' v' h', OwnS 1 v' n.toNat ((rdB d.mem (512 * a) n.toNat).map (Value.int .u8)) h' → Sat W0 w' H (h' :: (diskL ⟨b, 0, none⟩ d.asked ++ F)) → R (.returned (.tuple #[v', .int .i64 0])) w') :
    Calls Try.prog 43 #[.pointer (some ⟨b, 0, none⟩), .int .u64 a, .int .u64 n] w R := by
  have hc := d.hcount
  have hpc : n % 512 = 0 ∧ a + n / 512 ≤ d.count := by
    unfold pieceC at hp0
    by_cases h1 : n % 512 = 0
    · rw [if_pos h1] at hp0
      by_cases h2 : a + n / 512 ≤ d.count
      · exact ⟨h1, h2⟩
      · rw [if_neg h2] at hp0; cases hp0
    · rw [if_neg h1] at hp0; cases hp0
  obtain ⟨N, rfl⟩ := Int.eq_ofNat_of_zero_le hn.1
  rw [Int.toNat_natCast] at k
  obtain ⟨M, hM⟩ : ∃ M : Nat, N = 512 * M := ⟨N / 512, by omega⟩
  have hM2 : (N : Int) / 512 = M := by omega
  have hMb : a + M ≤ 65536 := by omega
  have hMc : a + M ≤ d.count := by omega
  have hmk : ∀ W, (Instr.makeSlice 34 (.int .u64 N) (.int .u64 N)).run Try.prog W = .ok (.slice (some ⟨W.heap.size, 0, none⟩) N N) (W.alloc (.cells (List.replicate N (Value.int .u8 0)).toArray 5)) := fun W => by
    have := run_make8 .u64 .u64 N N (by omega) (by omega) (by omega) W
    simpa using this
  have hNb := aside (show 0 ≤ (N : Int) ∧ (N : Int) ≤ 18446744073709551615 by omega)
  replace hM := aside hM
  replace hp0 := aside hp0
  replace hMc := aside hMc
  replace hMb := aside hMb
  replace hf1 := aside hf1
  clear hpc hn
  go_enter Try.func43, Try.ntmps43
  go_wp2_with fail
  refine c_ask s ?_
  intro w2 s2
  rw [show askC d.fault = 0 by unfold askC; rw [if_neg hf1.out]]
  go_wp2_with fail
  refine c_piece s2 a N ha hNb.out ?_
  rw [show pieceC d.asked.count a N = 0 from hp0.out]
  have s3 : Sat W0 _ H (cellsH ⟨w2.heap.size, 0, none⟩ (List.replicate N (.int .u8 0)) :: (diskL ⟨b, 0, none⟩ d.asked ++ F)) := s2.alloc (t := 5)
  obtain ⟨B, hB⟩ : ∃ B, w2.heap.size = B := ⟨_, rfl⟩
  rw [hB] at s3
  clear s s2 fr hp0
  go_wp2
  go_loopg [11] M (fun q v11 w' => ∃ (i : Nat), q + i = M ∧ v11 = .int .u64 i ∧ Sat W0 w' H (cellsH ⟨B, 0, none⟩ (fillR (rdB d.mem (512 * a) (512 * i)) N) :: (diskL ⟨b, 0, none⟩ d.asked ++ F)))
  case atStart => exact ⟨0, by simp, rfl, by simpa [fillR, rdB] using s3⟩
  clear s3
  case round =>
    obtain ⟨i, hq, rfl, s'⟩ := hrel
    have hM1 := hM.out
    have hMb1 := hMb.out
    have hMc1 := hMc.out
    have hNb1 := hNb.out
    have eM : IntKind.u64.wrap (M : Int) = M := by rw [wrap_u64]; omega
    have ei1 : IntKind.u64.wrap ((i : Int) + 1) = (i : Int) + 1 := by rw [wrap_u64]; omega
    by_cases hi : i < M
    · obtain ⟨kk, hkk⟩ : ∃ kk : Nat, a + i = kk := ⟨(a + i).toNat, by omega⟩
      have e1 : IntKind.u64.wrap (a + i) = (kk : Int) := by rw [wrap_u64]; omega
      obtain ⟨q, hqq⟩ : ∃ q : Nat, 512 * i = q := ⟨_, rfl⟩
      have e2 : IntKind.u64.wrap ((i : Int) * 512) = (q : Int) := by rw [wrap_u64]; omega
      have hqN : q + 512 ≤ N := by omega
      have hstep := fill_step d.mem (512 * a) q N hqN
      have hAq : 512 * a + (q : Int) = 512 * (kk : Int) := by omega
      have hq1 : q + 512 = 512 * (i + 1) := by omega
      rw [hAq] at hstep
      rw [hqq] at s'
      obtain ⟨RI, hRI⟩ : ∃ RI, fillR (rdB d.mem (512 * a) q) N = RI := ⟨_, rfl⟩
      have hRl : RI.length = N := by rw [← hRI]; exact fillR_len (by rw [rdB_len]; omega)
      rw [hRI] at s' hstep
      obtain ⟨US, hUS⟩ : ∃ US, (rdB d.mem (512 * (kk : Int)) 512).map (Value.int .u8) = US := ⟨_, rfl⟩
      have hUl : US.length = 512 := by rw [← hUS, List.length_map, rdB_len]
      have hU1 : ∀ x ∈ US, x.oneCell' = true := by rw [← hUS]; exact oneCell_u8 _
      rw [hUS] at hstep
      simp only [diskL, List.cons_append, List.nil_append] at s'
      have c2 := s'.cel b 0 2 rfl
      simp only [Nat.zero_add] at c2
      have ho := s'.obj (b := d.asked.mb) (o := .map (d.asked.ents.map Ent.me).toArray d.asked.ck) (by simp)
      have hp := (Sat.pull (h := pagesH 0 512 d.asked.ents d.asked.mem) s').head
      have hlq : (q : Int) ≤ N := by omega
      have hnq : ¬ N = q := by omega
      by_cases he : ∃ e ∈ d.ents, e.key = kk
      · obtain ⟨e, hm, rfl⟩ := he
        have hl := run_lookup_yes (w := wr) Try.underlying151 Try.underlying28 ho d.hkey hm
        have hrow := pages_row hp d.hblk hm
        rw [show d.asked.mem = d.mem from rfl, hUS] at hrow
        have hU2 := aside hUl
        have hR2 := aside hRl
        have hNq := aside hqN
        rw [show fillR (rdB d.mem (512 * a) (q + 512)) N = fillR (rdB d.mem (512 * a) (512 * (i + 1))) N by rw [hq1]] at hstep
        replace hstep := aside hstep
        clear ho hp hUS hRI hUl hRl hqN hqq hAq hq1 hMc hc hkk hM1 hMb1 hMc1 hNb1 ha
        have hi2 : (i : Int) < M := by omega
        have hq2 := aside (show gk - 1 + (i + 1) = M ∧ gk - 1 < gk by omega)
        have hnn := aside (show 512 ≤ N - q by have := hNq.out; omega)
        clear hq hi
        go_wp2
        go_region_held3 (fun w' => True) (trivial)
          (first | (refine step_copyAt rfl (.tmp 49) (.tmp 52) 34 34 5 rfl Try.underlying34 hz8D (b := B) (o := 0) (vs := RI) s'.drew q rfl rfl US (fun _ => by simp) (by rw [hU2.out]; exact (Nat.min_eq_left hnn.out).symm) (by rw [hU2.out, hR2.out]; exact hNq.out) hrow hU1 ?_; intro w3 s3; rw [hU2.out, hstep.out] at s3))
        all_goals
          try simp only [Act.put, List.getElem_toArray, List.getElem_cons_succ, List.getElem_cons_zero, List.setIfInBounds_toArray, List.set_cons_succ, List.set_cons_zero]
          go_wp2
          go_roundg (gk - 1)
          case measure => exact hq2.out.2
          case rel => exact ⟨i + 1, hq2.out.1, by go_num, s3⟩
      · have hno : ∀ e ∈ d.ents, e.key ≠ kk := fun e hm h => he ⟨e, hm, h⟩
        have hl := run_lookup_no (w := wr) (z := .pointer none) Try.underlying151 Try.underlying28 ho hno (zero_sector wr)
        have hsame : RI = fillR (rdB d.mem (512 * a) (512 * (i + 1))) N := by
          rw [← hRI, ← hq1, rdB_appD, hAq, d.sect_zero hno]
          exact fill_zero _ N (by rw [rdB_len]; exact hqN)
        replace hsame := aside hsame
        clear ho hp hUS hRI hUl hRl hqN hqq hAq hq1 hMc hc hkk hstep hno he hM1 hMb1 hMc1 hNb1
        go_wp2
        go_roundg (gk - 1)
        case measure => omega
        case rel => exact ⟨i + 1, by omega, by go_num, by rw [← hsame.out]; exact s'⟩
    · obtain rfl : i = M := by omega
      have hff : fillR (rdB d.mem (512 * a) (512 * i)) N = (rdB d.mem (512 * a) N).map (.int .u8) ++ [] := by have := fillR_full (xs := rdB d.mem (512 * a) N); rw [rdB_len] at this; rw [← hM1, this, List.append_nil]
      rw [hff] at s'
      have own : OwnS 1 (.slice (some ⟨B, 0, none⟩) N N) N ((rdB d.mem (512 * a) N).map (.int .u8)) (cellsH ⟨B, 0, none⟩ ((rdB d.mem (512 * a) N).map (.int .u8) ++ [])) := OwnS.made [] (Nat.le_refl _) (by omega) (by rw [List.length_map, rdB_len]; omega) (by simp)
      have K := k wr _ _ own s'
      clear own hff s' hM1 hMb1 hMc1 hNb1
      go_wp2
      exact K
end
end Go.Proofs.Ytohccblfnjampaa
