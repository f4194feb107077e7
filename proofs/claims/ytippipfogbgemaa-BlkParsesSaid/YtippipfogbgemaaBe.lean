/-
  BLK: a chain whose request is of no known kind is served.
-/
import Derived.Test.YtippipfogbgemaaBd
import Derived.Deep.RegionHeld3
import Derived.Deep.RegionLaw
namespace Go.Proofs.Ytippipfogbgemaa
open Go.RowKit
set_option linter.unusedVariables false
set_option linter.unusedSimpArgs false

theorem info_done : ∃ i, Try.prog.info? 126 = some i ∧ i.zero = some (.agg #[.int .u32 0, .int .u64 0, .int .u8 0, .int .u32 0]) ∧ i.size = 4 ∧ i.bytes = 24 := by
  have h : (Try.prog.info? 126).map (fun i => (i.zero, i.size, i.bytes)) = some (some (.agg #[.int .u32 0, .int .u64 0, .int .u8 0, .int .u32 0]), 4, 24) := by kernel_rfl
  cases hi : Try.prog.info? 126 with
  | none => simp [hi] at h
  | some i => simp [hi] at h; exact ⟨i, rfl, h⟩
theorem row_done {w : World} {a b c d : Int} {t : TypeId} : RowR (w.alloc (.cells #[.int .u32 a, .int .u64 b, .int .u8 c, .int .u32 d] t)) (some ⟨w.heap.size, 0, none⟩) [.int .u32 a, .int .u64 b, .int .u8 c, .int .u32 d] := by
  intro _
  exact ⟨_, _, rfl, fun j u hu => by rw [Nat.zero_add]; simp [hu]⟩

section
variable {R : Ending → World → Prop} {W0 w : World} {H : Hp} {A F : List Hp}

set_option maxRecDepth 100000 in
set_option maxHeartbeats 4000000 in
theorem c_useOther (bb rb db mb : Nat) {nm : List Value} (hnm : nm.length = 20) {r : RamG} {B : Option Addr} {n c : Nat} {hp : Hp} {segs : List SegM} (rd : Rd segE 3 hp (.slice B n c) segs)
    (s : Sat W0 w H (cellsH ⟨bb, 0, none⟩ (blkV rb db mb nm (.slice none 0 0)) :: (ramL ⟨mb, 0, none⟩ (r, none) ++ F))) (hk : ∀ w', Sat W0 w' H F → Holds w' hp) (hb : segs.length ≤ 511 ∧ ∀ x ∈ segs, hasP r.size x.1 x.2.1 ∧ 0 ≤ x.2.1)
    (hr16 : 16 ≤ rsum segs) (hw1 : 1 ≤ wsum segs) {ds : List Int} (hds : gaP 0 16 segs 0 r.mem = ds) (hdl : ds.length = 16) {kd : Int} (hkd : ofB (ds.take 4) = kd) (h0 : kd ≠ 0) (h1 : kd ≠ 1) (h4 : kd ≠ 4) (h8 : kd ≠ 8) (ta tl : Int)
    (k : ∀ w' r' h lv, r'.mem = scP (wsum segs - 1) 1 segs 0 [2] r.mem → r'.size = r.size → Sat W0 w' H (cellsH ⟨bb, 0, none⟩ (blkV rb db mb nm lv) :: h :: (ramL ⟨mb, 0, none⟩ (r', none) ++ F)) → R (.returned (.tuple #[.int .u32 1, .bool true])) w') :
    Calls Try.prog 42 #[.pointer (some ⟨bb, 0, none⟩), .agg #[.slice B n c, .int .u64 ta, .int .u64 tl]] w R := by
  have hrs := r.hsize
  have hB := aside (show segB segs from ⟨hb.1, fun x hx => by have := hb.2 x hx; unfold hasP at this; omega⟩)
  have hrb := rdB_bd r.hmem
  have hsm := hB.out.sums segs.length
  rw [List.take_length] at hsm
  have s1 := s.alloc (c := [.slice B n c, .int .u64 ta, .int .u64 tl]) (t := 56)
  obtain ⟨Z, hZ⟩ : ∃ Z, w.heap.size = Z := ⟨_, rfl⟩
  rw [hZ] at s1
  have y0 := s1.cel Z 0 0 rfl
  have y1 := s1.cel Z 0 1 rfl
  have y2 := s1.cel Z 0 2 rfl
  simp only [Nat.zero_add] at y0 y1 y2
  obtain ⟨RS, hRS⟩ : ∃ y, rsum segs = y := ⟨_, rfl⟩
  obtain ⟨WS, hWS⟩ : ∃ y, wsum segs = y := ⟨_, rfl⟩
  rw [hRS] at hr16 hsm
  rw [hWS] at hw1 hsm k
  have hsm2 : RS ≤ 137170518016 ∧ WS ≤ 137170518016 := ⟨hsm.2.2.2.2.2, hsm.2.2.2.2.1⟩
  have hdb : ∀ x ∈ ds, 0 ≤ x ∧ x ≤ 255 := by rw [← hds]; exact gaP_bd r.hmem
  obtain ⟨hn0, hcap, hcap2, gg⟩ := rd.seg
  clear hn0 gg hsm hrb
  have hkz := aside (show ∀ (G : List Hp) w', Sat W0 w' H (G ++ F) → Holds w' hp from fun G w' t => hk _ (Sat.tail t))
  have hkz1 := aside (show ∀ w', Sat W0 w' H (cellsH ⟨Z, 0, none⟩ [.slice B n c, .int .u64 ta, .int .u64 tl] :: cellsH ⟨bb, 0, none⟩ (blkV rb db mb nm (.slice none 0 0)) :: (ramL ⟨mb, 0, none⟩ (r, none) ++ F)) → Holds w' hp from fun w' t => hkz.out _ w' (Sat.tail1 (Sat.tail1 t)))
  have hkz2 := aside (show ∀ w', Sat W0 w' H (cellsH ⟨Z, 0, none⟩ [.slice B n c, .int .u64 ta, .int .u64 tl] :: cellsH ⟨bb, 0, none⟩ (blkV rb db mb nm (.slice none 0 0)) :: F) → Holds w' hp from fun w' t => hk _ (Sat.tail1 (Sat.tail1 t)))
  have hg1 := aside (show (0 : Int) ≤ rsum segs ∧ (16 : Int) ≤ rsum segs - 0 by omega)
  clear s
  replace hk := aside hk
  replace hRS := aside hRS
  replace hWS := aside hWS
  replace hds := aside hds
  replace hdl := aside hdl
  replace hkd := aside hkd
  replace hdb := aside hdb
  replace hb := aside hb
  replace rd := aside rd
  replace k := aside k
  replace hrs := aside hrs
  obtain ⟨i0, hi, hz, hs1, hb1⟩ := info_done
  go_enter Try.func42, Try.ntmps42
  go_wp2_with fail
  refine c_sizes s1 rd.out hkz1.out hB.out ta tl ?_
  rw [hRS.out, hWS.out]
  intro w2 s2
  have s2d := s2.drew
  have y0 := s2.cel Z 0 0 rfl
  have y1 := s2.cel Z 0 1 rfl
  have y2 := s2.cel Z 0 2 rfl
  simp only [Nat.zero_add] at y0 y1 y2
  have c2 := s2.cel bb 0 2 blkV_c2
  simp only [Nat.zero_add] at c2
  clear s1
  have hrq : ¬ RS < 16 := by omega
  have hwq : ¬ WS < 1 := by omega
  go_wp2
  go_region_held3 (fun w' => w'.cell? ⟨Z, 0, none⟩ = some (.slice B n c) ∧ w'.cell? ⟨Z, 1, none⟩ = some (.int .u64 ta) ∧ w'.cell? ⟨Z, 2, none⟩ = some (.int .u64 tl) ∧ w'.cell? ⟨bb, 2, none⟩ = some (.pointer (some ⟨mb, 0, none⟩))) (first | exact ⟨y0.1, y1.1, y2.1, c2.1⟩ | exact ⟨m0.1, m1.1, m2.1, e2.1⟩)
    (first
      | (go_at_call 95; refine c_gather s2d rd.out hkz2.out hb.out ta tl 0 16 (by omega) (by omega) (fun h => absurd hg1.out h) ?_; intro _ w3 v3 h3 l3 own3 hl3 s3; have m0 := s3.cel Z 0 0 rfl; have m1 := s3.cel Z 0 1 rfl; have m2 := s3.cel Z 0 2 rfl; have e2 := s3.cel bb 0 2 blkV_c2; simp only [Nat.zero_add] at m0 m1 m2 e2))
  all_goals
    obtain rfl : l3 = none := by first | exact hl3 rfl | exact hl3 trivial
    rw [hds.out] at own3
    have rd3 := aside (own3.rd hdb.out)
    obtain ⟨SC, hSC⟩ : ∃ y, ofB ((ds.take 16).drop 8) = y := ⟨_, rfl⟩
    clear y0 y1 y2 c2 s2 s2d own3 hkz1 hg1
    go_wp2_with fail
    refine c_parse s3 (fun w' t => (Sat.pull (h := h3) t).head) rd3.out (fun h => absurd h (by have := hdl.out; omega)) ?_
    intro _ w4 s4
    rw [hkd.out, hSC]
    clear hSC
    have s5 := s4.alloc (c := [.int .u32 kd, .int .u64 SC]) (t := 79)
    obtain ⟨V, hV⟩ : ∃ V, w4.heap.size = V := ⟨_, rfl⟩
    rw [hV] at s5
    have y0 := s5.cel Z 0 0 rfl
    have y1 := s5.cel Z 0 1 rfl
    have y2 := s5.cel Z 0 2 rfl
    simp only [Nat.zero_add] at y0 y1 y2
    have z0 := s5.cel V 0 0 rfl
    have z1 := s5.cel V 0 1 rfl
    simp only [Nat.zero_add] at z0 z1
    have e16 : IntKind.u64.wrap (RS - 16) = RS - 16 := by rw [wrap_u64]; omega
    have e1 : IntKind.u64.wrap (WS - 1) = WS - 1 := by rw [wrap_u64]; omega
    clear s3 s4 m0 m1 m2 e2
    go_wp2_with fail
    refine c_reqOther s5 _ B n c ta tl kd SC _ _ h0 h1 h4 h8 ?_
    intro w6 s6
    clear s5 y0 y1 y2 z0 z1
    have s6d := s6.drew
    have s7 := (s6.alloc (c := [.int .u8 2]) (t := 5)).drew
    obtain ⟨Y, hY⟩ : ∃ Y, w6.heap.size = Y := ⟨_, rfl⟩
    rw [hY] at s7
    have p0 := s6d.cel Z 0 0 rfl
    have p1 := s6d.cel Z 0 1 rfl
    have p2 := s6d.cel Z 0 2 rfl
    have p3 := s6d.cel bb 0 2 blkV_c2
    have q0 := s7.cel Z 0 0 rfl
    have q1 := s7.cel Z 0 1 rfl
    have q2 := s7.cel Z 0 2 rfl
    have q3 := s7.cel bb 0 2 blkV_c2
    simp only [Nat.zero_add] at p0 p1 p2 p3 q0 q1 q2 q3
    have rdd : Rd u8E 1 (cellsH ⟨Y, 0, none⟩ [.int .u8 2]) (.slice (some ⟨Y, 0, none⟩) 1 1) [2] := Rd.ofCells (xs := [2]) [] (by simp) (by simp) (by omega)
    have hg2 := aside (show WS - 1 ≤ wsum segs ∧ ((([2] : List Int).length : Nat) : Int) ≤ wsum segs - (WS - 1) by rw [hWS.out]; simp; omega)
    replace rdd := aside rdd
    go_wp2
    go_region_held3 (fun w' => w'.cell? ⟨Z, 0, none⟩ = some (.slice B n c) ∧ w'.cell? ⟨Z, 1, none⟩ = some (.int .u64 ta) ∧ w'.cell? ⟨Z, 2, none⟩ = some (.int .u64 tl) ∧ w'.cell? ⟨bb, 2, none⟩ = some (.pointer (some ⟨mb, 0, none⟩))) (first | exact ⟨p0.1, p1.1, p2.1, p3.1⟩ | exact ⟨q0.1, q1.1, q2.1, q3.1⟩ | exact ⟨m0.1, m1.1, m2.1, m3.1⟩)
      (first
        | (go_at_call 33; refine c_scatter s7 rd.out rdd.out (fun w' t => ⟨hk.out _ (Sat.wk t), t.head⟩) hb.out ta tl (WS - 1) (by omega) (fun h => absurd hg2.out h) ?_; intro _ w8 r8 l8 hm8 hz8 hl8 s8; have m0 := s8.cel Z 0 0 rfl; have m1 := s8.cel Z 0 1 rfl; have m2 := s8.cel Z 0 2 rfl; have m3 := s8.cel bb 0 2 blkV_c2; simp only [Nat.zero_add] at m0 m1 m2 m3))
    all_goals
      obtain rfl : l8 = none := by first | exact hl8 rfl | exact hl8 trivial
      replace hm8 : Aside (r8.mem = scP (WS - 1) 1 segs 0 [2] r.mem) := aside hm8
      replace hz8 := aside hz8
      clear s6 s6d s7 p0 p1 p2 p3 q0 q1 q2 q3 m0 m1 m2 m3 rdd hg2
      have b23 := s8.cel bb 0 23 (blkV_c23 hnm)
      have f0 := s8.cel V 0 0 rfl
      have f1 := s8.cel V 0 1 rfl
      simp only [Nat.zero_add] at b23 f0 f1
      have ew1 : IntKind.u32.wrap 1 = 1 := by decide
      have t0 := s8.alloc (c := [.int .u32 kd, .int .u64 SC, .int .u8 2, .int .u32 1]) (t := 126)
      have u23 := t0.cel bb 0 23 (blkV_c23 hnm)
      have u0 := t0.cel V 0 0 rfl
      have u1 := t0.cel V 0 1 rfl
      simp only [Nat.zero_add] at u23 u0 u1
      go_wp2
      go_region_law ((refine step_append rfl (.tmp 70) (.tmp 76) 122 122 126 rfl i0 (.agg #[.int .u32 0, .int .u64 0, .int .u8 0, .int .u32 0]) 4 24 Try.underlying122 Try.underlying122 hi hz hs1 hb1 rfl (by decide) rfl (OwnS.nil 4) (s8.drew.alloc).emp rfl (us := [.int .u32 kd, .int .u64 SC, .int .u8 2, .int .u32 1]) rfl row_done (by simp [Value.oneCell']) (by omega) (by omega) ?_; intro A2 cap2 w9 h9 ho hs; have e23 := hs.cel bb 0 23 (blkV_c23 hnm); rw [Nat.zero_add] at e23))
      all_goals
        try simp only [Act.put, List.getElem_toArray, List.getElem_cons_succ, List.getElem_cons_zero, List.setIfInBounds_toArray, List.set_cons_succ, List.set_cons_zero]
        have s9 := (hs.pc bb 0).s 23 (by rw [blkV_len hnm]; omega) (.slice A2 (0 + 1) cap2)
        rw [blkV_set23 hnm] at s9
        go_wp2
        exact k.out _ r8 h9 (.slice A2 (0 + 1) cap2) hm8.out hz8.out s9.wk
end
end Go.Proofs.Ytippipfogbgemaa
