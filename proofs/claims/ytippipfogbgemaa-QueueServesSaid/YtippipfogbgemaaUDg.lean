/-
  QUEUE, the document's: the device that is asked.
-/
import Derived.Test.YtippipfogbgemaaUDc
import Derived.Test.YtippipfogbgemaaG7
set_option linter.unusedVariables false
set_option linter.unusedSimpArgs false
namespace Go.Proofs.Ytippipfogbgemaa
open Go.RowKit
set_option linter.unusedVariables false
set_option linter.unusedSimpArgs false

section
variable {R : Ending → World → Prop} {W0 w : World} {H : Hp} {A F : List Hp} {v : Value} {size : Int} {m : Int → Int} {L : Nat} {B0 : Option Addr} {n0 c0 : Nat}


set_option maxRecDepth 100000 in
set_option maxHeartbeats 4000000 in
theorem c_refFill (s : Sat W0 w H A) (rm : RefM H (.agg #[.int .u64 size, .slice B0 n0 c0]) size m L) (hL : L ≤ 70000000000) (hz : 0 ≤ size ∧ size ≤ 268435456) {B : Option Addr} {n c : Nat} {hp : Hp} {segs : List SegM} (rd : Rd segE 3 hp (.slice B n c) segs)
    (hk : ∀ w', Sat W0 w' H A → Holds w' hp) (hb : segs.length ≤ 511 ∧ ∀ x ∈ segs, hasP size x.1 x.2.1 ∧ 0 ≤ x.2.1) (ta tl bt : Int) (hbt : 0 ≤ bt ∧ bt ≤ 255)
    (k : ∀ w' H' B' n' c', (∀ l c, H l = some c → H' l = some c) → RefM H' (.agg #[.int .u64 size, .slice B' n' c']) size (fillM bt segs m) (L + 4000) → Sat W0 w' H' A → R (.returned (.tuple #[.agg #[.int .u64 size, .slice B' n' c'], .int .u32 (fillC segs)])) w') :
    Calls Try.prog 108 #[.agg #[.int .u64 size, .slice B0 n0 c0], .agg #[.slice B n c, .int .u64 ta, .int .u64 tl], .int .u8 bt] w R := by
  have hB := aside (show segB segs from ⟨hb.1, fun x hx => by have := hb.2 x hx; unfold hasP at this; omega⟩)
  have hsm := hB.out.sums segs.length
  rw [List.take_length] at hsm
  have s1 := ((s.alloc (c := [.int .u64 size, .slice B0 n0 c0]) (t := 28)).alloc (c := [.slice B n c, .int .u64 ta, .int .u64 tl]) (t := 60)).alloc (c := [.int .u64 0, .slice none 0 0]) (t := 28)
  obtain ⟨Z, hZ⟩ : ∃ Z, w.heap.size = Z := ⟨_, rfl⟩
  obtain ⟨Y, hY⟩ : ∃ Y, Z + 1 = Y := ⟨_, rfl⟩
  obtain ⟨X, hX⟩ : ∃ X, Y + 1 = X := ⟨_, rfl⟩
  simp only [World.size_alloc, hZ, hY, hX] at s1
  have y0 := s1.cel Y 0 0 rfl
  have y1 := s1.cel Y 0 1 rfl
  have y2 := s1.cel Y 0 2 rfl
  simp only [Nat.zero_add] at y0 y1 y2
  have hk1 := aside (show ∀ w', Sat W0 w' H (cellsH ⟨X, 0, none⟩ [.int .u64 0, .slice none 0 0] :: cellsH ⟨Y, 0, none⟩ [.slice B n c, .int .u64 ta, .int .u64 tl] :: cellsH ⟨Z, 0, none⟩ [.int .u64 size, .slice B0 n0 c0] :: A) → Holds w' hp from fun w' t => hk _ t.tail1.tail1.tail1)
  obtain ⟨WS, hWS⟩ : ∃ y, wsum segs = y := ⟨_, rfl⟩
  obtain ⟨RS, hRS⟩ : ∃ y, rsum segs = y := ⟨_, rfl⟩
  rw [hWS] at hsm
  have hw0 : 0 ≤ WS ∧ WS ≤ 137170518016 := by omega
  have hM : fillM bt segs m = if 4000 < WS then m else scP 0 WS segs 0 (List.replicate WS.toNat bt) m := by unfold fillM; rw [hWS]
  have hC : fillC segs = if 4000 < WS then 0 else WS := by unfold fillC; rw [hWS]
  rw [hC] at k
  clear s hsm hC
  replace k := aside k
  replace hM := aside hM
  replace hWS := aside hWS
  replace hRS := aside hRS
  replace hb := aside hb
  replace rd := aside rd
  replace hk := aside hk
  replace rm := aside rm
  go_enter Try.func108, Try.ntmps108
  go_wp2_with fail
  refine c_refSizes s1 rd.out hk1.out hB.out ta tl ?_
  rw [hRS.out, hWS.out]
  intro w2 s2
  clear s1 hk1 y0 y1 y2
  by_cases hbig : 4000 < WS
  · have K := fun w' t => k.out w' H B0 n0 c0 (fun _ _ h => h) (by rw [hM.out, if_pos hbig]; exact rm.out.leM (by omega)) t
    rw [if_pos hbig] at K
    replace K := aside K
    clear k
    have xq0 := s2.cel X 0 0 rfl
    have xt0 := (s2.pc X 0).s0 (.int .u64 size)
    have xq1 := xt0.c 1 rfl
    have x := xt0.s 1 (by simp) (.slice B0 n0 c0)
    simp only [List.set_cons_succ, List.set_cons_zero, Nat.zero_add] at x xq0 xq1
    have f0 := x.c 0 rfl
    have f1 := x.c 1 rfl
    simp only [Nat.zero_add] at f0 f1
    have z0 := (Sat.pc s2 Z 0).c0
    have z1 := (Sat.pc s2 Z 0).c 1 rfl
    simp only [Nat.zero_add] at z0 z1
    go_wp2
    refine bodyPost_ret (by simp [results, Try.results108, go_sem, f0.1, f1.1]; try rfl) rfl ?_
    exact K.out _ x.wk
  · have k2 := k.out
    rw [if_neg hbig] at k2
    replace k2 := aside k2
    obtain ⟨m', rfl⟩ : ∃ m : Nat, WS = m := ⟨WS.toNat, by omega⟩
    have hM2 := aside (show fillM bt segs m = scP 0 m' segs 0 (List.replicate m' bt) m by rw [hM.out, if_neg hbig, Int.toNat_natCast])
    have hm4 : (m' : Int) ≤ 4000 := by omega
    have e32 : IntKind.u32.wrap (m' : Int) = m' := by rw [wrap_u32]; omega
    have hmk : ∀ W, (Instr.makeSlice 36 (.int .u64 m') (.int .u64 m')).run Try.prog W = .ok (.slice (some ⟨W.heap.size, 0, none⟩) m' m') (W.alloc (.cells (List.replicate m' (Value.int .u8 0)).toArray 5)) := fun W => by
      have := run_make8 .u64 .u64 m' m' (by omega) (by omega) (by omega) W
      simpa using this
    have s3 : Sat W0 _ H (cellsH ⟨w2.heap.size, 0, none⟩ (List.replicate m' (.int .u8 0)) :: cellsH ⟨Z, 0, none⟩ [.int .u64 size, .slice B0 n0 c0] :: cellsH ⟨Y, 0, none⟩ [.slice B n c, .int .u64 ta, .int .u64 tl] :: cellsH ⟨X, 0, none⟩ [.int .u64 0, .slice none 0 0] :: A) := (s2.alloc (c := List.replicate m' (.int .u8 0)) (t := 5)).wk
    obtain ⟨V, hV⟩ : ∃ V, w2.heap.size = V := ⟨_, rfl⟩
    rw [hV] at s3
    clear k hM s2
    go_wp2
    clear hmk
    go_loopg [11] m' (fun q v11 w' => ∃ (i : Nat), q + i = m' ∧ v11 = .int .i64 i ∧ Sat W0 w' H (cellsH ⟨V, 0, none⟩ (fillR (List.replicate i bt) m') :: cellsH ⟨Z, 0, none⟩ [.int .u64 size, .slice B0 n0 c0] :: cellsH ⟨Y, 0, none⟩ [.slice B n c, .int .u64 ta, .int .u64 tl] :: cellsH ⟨X, 0, none⟩ [.int .u64 0, .slice none 0 0] :: A))
    case atStart => exact ⟨0, by simp, rfl, by simpa [fillR] using s3⟩
    clear s3
    case round =>
      obtain ⟨i, hq, rfl, s'⟩ := hrel
      by_cases hi : i < m'
      · have hln : (List.replicate i bt).length = i := List.length_replicate
        have cc := s'.c i (v := .int .u8 0) (by have := fillR_at (xs := List.replicate i bt) (n := m') (by omega); rwa [hln] at this)
        have s2 := s'.s i (by rw [fillR_len (by omega)]; omega) (.int .u8 bt)
        have hst := fillR_set (xs := List.replicate i bt) (n := m') (by omega) bt
        rw [hln] at hst
        rw [hst, Nat.zero_add, show List.replicate i bt ++ [bt] = List.replicate (i + 1) bt from (List.replicate_succ' ..).symm] at s2
        rw [Nat.zero_add] at cc
        have i1 : (0 : Int) ≤ i ∧ (i : Int) < m' := by omega
        clear hst hln s'
        go_wp2
        go_roundg (gk - 1)
        case measure => omega
        case rel => exact ⟨i + 1, by omega, by go_num, s2⟩
      · obtain rfl : i = m' := by omega
        have hff : fillR (List.replicate i bt) i = (List.replicate i bt).map (.int .u8) ++ [] := by have := fillR_full (xs := List.replicate i bt); rw [List.length_replicate] at this; simpa using this
        rw [hff] at s'
        have own : OwnS 1 (.slice (some ⟨V, 0, none⟩) i i) i ((List.replicate i bt).map (.int .u8)) (cellsH ⟨V, 0, none⟩ ((List.replicate i bt).map (.int .u8) ++ [])) := OwnS.made [] (Nat.le_refl _) (by omega) (by simp) (by simp)
        have hds := aside (show ∀ x ∈ List.replicate i bt, 0 ≤ x ∧ x ≤ 255 from fun x hx => by rw [List.eq_of_mem_replicate hx]; exact hbt)
        have rdd := aside (own.rd hds.out)
        have hll := aside (show (List.replicate i bt).length = i from List.length_replicate)
        obtain ⟨DS, hDS⟩ : ∃ y, List.replicate i bt = y := ⟨_, rfl⟩
        rw [hDS] at s' rdd hM2 hll
        obtain ⟨hd, hhd⟩ : ∃ y, cellsH ⟨V, 0, none⟩ (DS.map (.int .u8) ++ []) = y := ⟨_, rfl⟩
        rw [hhd] at s' rdd
        have hco := aside (show (0 : Int) ≤ wsum segs ∧ ((DS.length : Nat) : Int) ≤ wsum segs - 0 by rw [hll.out, hWS.out]; omega)
        have hLd := aside (show L + DS.length ≤ 90000000000 by rw [hll.out]; omega)
        clear own hff hds hDS hhd
        have z0 := s'.cel Z 0 0 rfl
        have z1 := s'.cel Z 0 1 rfl
        simp only [Nat.zero_add] at z0 z1
        have y0 := s'.cel Y 0 0 rfl
        have y1 := s'.cel Y 0 1 rfl
        have y2 := s'.cel Y 0 2 rfl
        simp only [Nat.zero_add] at y0 y1 y2
        go_wp2_with fail
        refine c_refScatter s' rm.out rd.out rdd.out (fun w' t => ⟨hk.out _ t.tail1.tail1.tail1.tail1, t.head⟩) hb.out hLd.out hz ta tl 0 (by omega) (fun h => absurd hco.out h) ?_
        intro _ w8 H8 v8 le8 rm8 s8
        obtain ⟨B8, n8, c8, rfl⟩ := rm8.shapeM
        have rm9 := aside (show RefM H8 (.agg #[.int .u64 size, .slice B8 n8 c8]) size (fillM bt segs m) (L + 4000) by rw [hll.out, ← hM2.out] at rm8; exact rm8.leM (by omega))
        replace le8 := aside le8
        have s9q0 := s8.cel Z 0 0 rfl
        have s9t0 := (s8.pc Z 0).s0 (.int .u64 size)
        have s9q1 := s9t0.c 1 rfl
        have s9 := s9t0.s 1 (by simp) (.slice B8 n8 c8)
        simp only [List.set_cons_succ, List.set_cons_zero, Nat.zero_add] at s9 s9q0 s9q1
        clear s' y0 y1 y2 z0 z1 rm8 s8
        have xq0 := s9.cel X 0 0 rfl
        have xt0 := (s9.pc X 0).s0 (.int .u64 size)
        have xq1 := xt0.c 1 rfl
        have x := xt0.s 1 (by simp) (.slice B8 n8 c8)
        simp only [List.set_cons_succ, List.set_cons_zero, Nat.zero_add] at x xq0 xq1
        have f0 := x.c 0 rfl
        have f1 := x.c 1 rfl
        simp only [Nat.zero_add] at f0 f1
        have z0 := (Sat.pc s9 Z 0).c0
        have z1 := (Sat.pc s9 Z 0).c 1 rfl
        simp only [Nat.zero_add] at z0 z1
        go_wp2
        refine bodyPost_ret (by simp [results, Try.results108, go_sem, f0.1, f1.1]; try rfl) rfl ?_
        exact k2.out _ H8 B8 n8 c8 le8.out rm9.out x.wk
end
end Go.Proofs.Ytippipfogbgemaa
