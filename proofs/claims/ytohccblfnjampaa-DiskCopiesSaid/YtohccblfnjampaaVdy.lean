/-
  DISK: what stands on it at the beginning (Fill); a Write that is refused.
-/
import Derived.Test.YtohccblfnjampaaVdx
namespace Go.Proofs.Ytohccblfnjampaa
open Go.RowKit
set_option linter.unusedVariables false

def padC (ds : List Int) : List Int := ds ++ List.replicate ((ds.length + 511) / 512 * 512 - ds.length) 0
theorem sect_pad (ds : List Int) (q : Nat) (h : q ≤ ds.length) : ((ds ++ List.replicate 512 (0 : Int)).drop q).take 512 = (ds.drop q).take 512 ++ List.replicate (512 - ((ds.drop q).take 512).length) 0 := by
  rw [List.drop_append_of_le_length h, List.take_append, List.take_replicate]
  congr 1
  rw [List.length_take]
  congr 1
  omega
theorem pad_same (ds : List Int) (i : Nat) (m : Int → Int) (ct : Int) (h0 : (i : Int) = ct ∨ ds.length ≤ 512 * i) (h1 : 512 * i < ds.length + 512) (x : Int) (hx : 0 ≤ x ∧ x < 512 * ct) :
    putB m 0 ((ds ++ List.replicate 512 0).take (512 * i)) x = putB m 0 (padC ds) x := by
  unfold putB padC
  rw [if_pos hx.1, if_pos hx.1]
  obtain ⟨j, rfl⟩ := Int.eq_ofNat_of_zero_le hx.1
  rw [Int.sub_zero, Int.toNat_natCast, List.getElem?_take]
  by_cases hj : j < 512 * i
  · rw [if_pos hj]
    by_cases h2 : j < ds.length
    · rw [List.getElem?_append_left h2, List.getElem?_append_left h2]
    · rw [List.getElem?_append_right (by omega), List.getElem?_append_right (by omega), List.getElem?_replicate, List.getElem?_replicate, if_pos (by omega), if_pos (by omega)]
  · rw [if_neg hj, List.getElem?_eq_none (by rw [List.length_append, List.length_replicate]; omega)]

section
variable {R : Ending → World → Prop} {W0 w : World} {H : Hp} {A F : List Hp} {b : Nat} {d : DiskG}

def wrC (d : DiskG) (a n : Int) : Int := if d.fault = 1 then 133 else if d.locked = true then 132 else pieceC d.count a n

set_option maxRecDepth 100000 in
set_option maxHeartbeats 4000000 in
theorem c_diskWriteBad (s : Sat W0 w H A) [fr : FrK (κ := Addr) (ρ := fun _ => DiskG) diskL ⟨b, 0, none⟩ A d F] (a : Int) (ha : 0 ≤ a ∧ a ≤ 18446744073709551615) {dv : Value} {ds : List Int} (rd : Rd u8E 1 H dv ds)
    (hbad : wrC d a ds.length ≠ 0)
    (k : ∀ w', Sat W0 w' H (diskL ⟨b, 0, none⟩ d.asked ++ F) → R (.returned (.int .i64 (wrC d a ds.length))) w') :
    Calls Try.prog 42 #[.pointer (some ⟨b, 0, none⟩), .int .u64 a, dv] w R := by
  obtain ⟨E, ec, rfl, rd⟩ := rd.open_
  obtain ⟨_, hec, hec2, _⟩ := rd.u8
  obtain ⟨N, hN⟩ : ∃ N, ds.length = N := ⟨_, rfl⟩
  rw [hN] at hec hbad k ⊢
  clear rd hN
  have eN : IntKind.u64.wrap (N : Int) = N := by rw [wrap_u64]; omega
  have hNb := aside (show 0 ≤ (N : Int) ∧ (N : Int) ≤ 18446744073709551615 by omega)
  by_cases f1 : d.fault = 1
  · unfold wrC at k
    rw [if_pos f1] at k
    clear hbad
    go_enter Try.func42, Try.ntmps42
    go_wp2_with fail
    refine c_ask s ?_
    intro w2 s2
    rw [show askC d.fault = 133 by rw [f1]; rfl]
    go_wp2
    exact s2
  · unfold wrC at k hbad
    rw [if_neg f1] at k hbad
    by_cases l1 : d.locked = true
    · rw [if_pos l1] at k
      clear hbad
      go_enter Try.func42, Try.ntmps42
      go_wp2_with fail
      refine c_ask s ?_
      intro w2 s2
      rw [show askC d.fault = 0 by unfold askC; rw [if_neg f1]]
      have c1 := (s2.front (mk := diskL) (k := ⟨b, 0, none⟩)).c 1 rfl
      rw [show d.asked.locked = true from l1] at c1
      simp only [Nat.zero_add] at c1
      go_wp2
      exact s2
    · rw [if_neg l1] at k hbad
      have l2 : d.locked = false := by simpa using l1
      obtain ⟨p, hp⟩ : ∃ p, pieceC d.count a N = p := ⟨_, rfl⟩
      rw [hp] at k hbad
      have hpb : (p != 0) = true := by simp [hbad]
      clear l1 hbad
      go_enter Try.func42, Try.ntmps42
      go_wp2_with fail
      refine c_ask s ?_
      intro w2 s2
      rw [show askC d.fault = 0 by unfold askC; rw [if_neg f1]]
      have c1 := (s2.front (mk := diskL) (k := ⟨b, 0, none⟩)).c 1 rfl
      rw [show d.asked.locked = false from l2] at c1
      simp only [Nat.zero_add] at c1
      go_wp2_with fail
      refine c_piece s2 a N ha hNb.out ?_
      rw [show pieceC d.asked.count a N = p from hp]
      clear hp
      go_wp2
      exact s2

set_option maxRecDepth 100000 in
set_option maxHeartbeats 4000000 in
theorem c_diskFill (s : Sat W0 w H A) [fr : FrK (κ := Addr) (ρ := fun _ => DiskG) diskL ⟨b, 0, none⟩ A d F] {dv : Value} {ds : List Int} (rd : Rd u8E 1 H dv ds) (hsm : ds.length ≤ 10000)
    (k : ∀ w' d', DiskG.Like d d' → (∀ x, 0 ≤ x ∧ x < 512 * d.count → d'.mem x = putB d.mem 0 (padC ds) x) → Sat W0 w' H (diskL ⟨b, 0, none⟩ d' ++ F) → R (.returned (.tuple #[])) w') :
    Calls Try.prog 105 #[.pointer (some ⟨b, 0, none⟩), dv] w R := by
  have hc := d.hcount
  obtain ⟨E, ec, rfl, rd⟩ := rd.open_
  obtain ⟨_, hec, hec2, _⟩ := rd.u8
  have hdb := rd.bytes
  obtain ⟨N, hN⟩ : ∃ N, ds.length = N := ⟨_, rfl⟩
  rw [hN] at hec rd hsm
  obtain ⟨C, hC⟩ : ∃ C : Nat, d.count = C := ⟨d.count.toNat, by omega⟩
  have eN : IntKind.u64.wrap (N : Int) = N := by rw [wrap_u64]; omega
  have hCb := aside (show (C : Int) ≤ 65536 ∧ (N : Int) ≤ 10000 by omega)
  have ecN := aside hec
  replace hN := aside hN
  replace hC := aside hC
  clear hc hec hsm
  rw [hN.out]
  go_enter Try.func105, Try.ntmps105
  go_wp2
  go_loopg [4, 5] C (fun q v4 v5 w' => ∃ (i : Nat) (d' : DiskG), q + i = C ∧ v4 = .int .u64 i ∧ DiskG.Like d d' ∧ Aside (512 * i < N + 512) ∧ Aside (d'.mem = putB d.mem 0 ((ds ++ List.replicate 512 0).take (512 * i))) ∧ Sat W0 w' H (diskL ⟨b, 0, none⟩ d' ++ F))
  case atStart => exact ⟨0, d, by simp, rfl, DiskG.Like.refl _, by show _ < _; omega, by show _ = _; rw [Nat.mul_zero, List.take_zero, putB_nil], s.front (mk := diskL) (k := ⟨b, 0, none⟩)⟩
  clear s fr
  case round =>
    obtain ⟨i, d', hq, rfl, lk, hiN, hmem, s'⟩ := hrel
    have hCb1 := hCb.out
    have ei1 : IntKind.u64.wrap ((i : Int) + 1) = (i : Int) + 1 := by rw [wrap_u64]; omega
    have e2 : IntKind.u64.wrap ((i : Int) * 512) = ((512 * i : Nat) : Int) := by rw [wrap_u64]; omega
    obtain ⟨q, hqq⟩ : ∃ q : Nat, 512 * i = q := ⟨_, rfl⟩
    rw [hqq] at e2
    have s't := s'
    simp only [diskL, List.cons_append, List.nil_append] at s't
    have c0 := s't.c0
    rw [show d'.count = (C : Int) from lk.count.trans hC.out] at c0
    by_cases hi : i < C ∧ q < N
    · obtain ⟨hi1, hi2⟩ := hi
      have hlq : (q : Int) ≤ N := by omega
      have hlq2 : (q : Int) < N := by omega
      have hi3 : (i : Int) < C := by omega
      have hnq : ¬ ec = q := by have := ecN.out; omega
      have hkc := aside (show (i : Int) < d'.count by rw [lk.count, hC.out]; omega)
      obtain ⟨US0, hUS0⟩ : ∃ U, (ds.drop q).take 512 = U := ⟨_, rfl⟩
      have hu0 : US0.length = min 512 (N - q) := by rw [← hUS0, List.length_take, List.length_drop, hN.out]
      obtain ⟨BS, hBS⟩ : ∃ BS, US0 ++ List.replicate (512 - US0.length) 0 = BS := ⟨_, rfl⟩
      have hBl : BS.length = 512 := by rw [← hBS, List.length_append, List.length_replicate]; omega
      have hBb : ∀ x ∈ BS, 0 ≤ x ∧ x ≤ 255 := by
        rw [← hBS, ← hUS0]
        intro x hx
        rcases List.mem_append.1 hx with h | h
        · exact hdb x (List.mem_of_mem_drop (List.mem_of_mem_take h))
        · obtain ⟨_, rfl⟩ := List.mem_replicate.1 h; omega
      have hmem2 := aside (show putB d'.mem ((512 * i : Nat) : Int) BS = putB d.mem 0 ((ds ++ List.replicate 512 0).take (512 * (i + 1))) by
        rw [hmem.out, show 512 * (i + 1) = q + 512 by omega, hqq, ← hBS, ← hUS0, ← sect_pad ds q (by rw [hN.out]; omega)]
        have e := putB_app d.mem 0 ((ds ++ List.replicate 512 0).take q) (((ds ++ List.replicate 512 0).drop q).take 512)
        rw [show (((ds ++ List.replicate 512 (0 : Int)).take q).length : Int) = q by rw [List.length_take, List.length_append, List.length_replicate, hN.out]; omega, Int.zero_add] at e
        rw [e, List.take_add])
      have rdq := rd.drop8D q (by omega)
      rw [if_neg hnq] at rdq
      have hrow0 := fun (w : World) (hh : Holds w H) => rdq.row hh 512
      rw [hUS0] at hrow0
      obtain ⟨US, hUS⟩ : ∃ US, US0.map (Value.int .u8) = US := ⟨_, rfl⟩
      have hUl := aside (show US.length = US0.length by rw [← hUS, List.length_map])
      have hU1 : ∀ x ∈ US, x.oneCell' = true := by rw [← hUS]; exact oneCell_u8 _
      rw [hUS] at hrow0
      obtain ⟨ZL, hZL⟩ : ∃ ZL, List.replicate 512 (Value.int .u8 0) = ZL := ⟨_, rfl⟩
      have hZl := aside (show ZL.length = 512 by rw [← hZL]; exact List.length_replicate)
      have s2 : Sat W0 (wr.alloc (.cells sectZ 156)) H (cellsH ⟨wr.heap.size, 0, none⟩ ZL :: (diskL ⟨b, 0, none⟩ d' ++ F)) := by
        have := s'.alloc (c := List.replicate 512 (Value.int .u8 0)) (t := 156)
        rw [hZL] at this
        rw [show sectZ = ZL.toArray by rw [← hZL]; rfl]; exact this
      rw [sect_zero] at s2
      obtain ⟨P, hP⟩ : ∃ P, wr.heap.size = P := ⟨_, rfl⟩
      rw [hP] at s2
      have hfin := aside (show ZL.take 0 ++ US ++ ZL.drop (0 + US.length) = BS.map (Value.int .u8) by
        rw [List.take_zero, List.nil_append, ← hBS, List.map_append, hUS, ← hZL, List.drop_replicate, List.map_replicate, hUl.out, Nat.zero_add])
      have hrow := hrow0 _ s2.drew.ro
      have hpb := run_sectBuild
      have hq2 := aside (show gk - 1 + (i + 1) = C ∧ gk - 1 < gk by omega)
      have hmn := aside (show US0.length = min (N - q) 512 by omega)
      have hfit := aside (show US0.length ≤ 512 by omega)
      have hnx := aside (show 512 * (i + 1) < N + 512 by omega)
      have hBlA := aside hBl
      clear hq hi1 hi2 hCb1 hqq hBS hBl rdq hZL hrow0 hu0 hUS hUS0 hiN
      go_wp2
      go_region_held3 (fun w' => True) (trivial)
        (first | (refine step_copyAt rfl (.tmp 26) (.tmp 30) 34 34 5 rfl Try.underlying34 hz8D (b := P) (o := 0) (vs := ZL) s2.drew 0 rfl rfl US (fun _ => rfl) (by rw [hUl.out]; exact hmn.out) (by rw [hUl.out, hZl.out]; have := hfit.out; omega) hrow hU1 ?_; intro w3 s3; rw [hfin.out] at s3))
      all_goals
        try simp only [Act.put, List.getElem_toArray, List.getElem_cons_succ, List.getElem_cons_zero, List.setIfInBounds_toArray, List.set_cons_succ, List.set_cons_zero]
        have hmap := run_mapPut (w := w3) (ents := d'.ents) (mb := d'.mb) (ck := d'.ck) Try.underlying151 Try.underlying28 d'.hkey (s3.obj (b := d'.mb) (o := .map (d'.ents.map Ent.me).toArray d'.ck) (by simp [diskL])) i P
        obtain ⟨d2, lk2, hm2, hmb2, s4⟩ := disk_put s3 hBlA.out hBb hkc.out
        have s3t := s3.tail1
        simp only [diskL, List.cons_append, List.nil_append] at s3t
        have c2 := s3t.c 2 rfl
        simp only [Nat.zero_add] at c2
        generalize Obj.map ((putEnt d'.ents i P d'.ck).map Ent.me).toArray (putCk d'.ents i d'.ck) = ob at hmap s4
        have hm3 := aside (hm2.trans hmem2.out)
        clear s3 s3t s2 s' s't c0 hrow hpb hm2 hmem2
        go_wp2
        go_roundg (gk - 1)
        case measure => exact hq2.out.2
        case rel => exact ⟨i + 1, d2, hq2.out.1, by go_num, lk.trans lk2, hnx, hm3, s4⟩
    · have hd : ∀ x, 0 ≤ x ∧ x < 512 * d.count → d'.mem x = putB d.mem 0 (padC ds) x := fun x hx => by
        rw [hmem.out]
        exact pad_same ds i d.mem d.count (by rw [hC.out, hN.out]; omega) (by rw [hN.out]; exact hiN.out) x hx
      have K := k wr d' lk hd s'
      by_cases h1 : i < C
      · have h2 : (N : Int) ≤ q := by omega
        have h3 : (i : Int) < C := by omega
        clear hCb1 s' s't hd hi h1 k hq
        go_wp2
        go_end0
        exact K
      · have h3 : (C : Int) ≤ i := by omega
        clear hCb1 s' s't hd hi h1 k hq
        go_wp2
        go_end0
        exact K
end
end Go.Proofs.Ytohccblfnjampaa
