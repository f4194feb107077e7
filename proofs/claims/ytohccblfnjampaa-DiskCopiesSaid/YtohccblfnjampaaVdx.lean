/-
  DISK: bytes written.
-/
import Derived.Test.YtohccblfnjampaaVdw
namespace Go.Proofs.Ytohccblfnjampaa
open Go.RowKit
set_option linter.unusedVariables false

def sectZ : Array Value := (List.replicate 512 (.int .u8 0)).toArray
theorem info_sect : ∃ i, Try.prog.info? 156 = some i ∧ i.zero = some (.agg sectZ) := by
  have h : (Try.prog.info? 156).map (fun i => i.zero) = some (some (.agg sectZ)) := by kernel_rfl
  cases hi : Try.prog.info? 156 with
  | none => simp [hi] at h
  | some i => simp [hi] at h; exact ⟨i, rfl, h⟩
theorem run_sectBuild (w : World) : (Instr.build 156 #[]).run Try.prog w = .ok (.agg sectZ) w := by
  obtain ⟨i, hi, hz⟩ := info_sect
  obtain ⟨j, hj, hs⟩ := info_u8s
  simp [Instr.build, zeroValue, typeInfo, hi, hz, run_underlying Try.underlying156, sizeOf, hj, Instr.fill, Value.cells]
theorem sect_zero : sectZ = Try.zeroCells156 := by kernel_rfl

theorem Rd.drop8D {H : Hp} {A : Option Addr} {n c : Nat} {xs : List Int} (r : Rd u8E 1 H (.slice A n c) xs) (m : Nat) (hm : m ≤ n) : Rd u8E 1 H (.slice (if c = m then A else A.map (·.add m)) (n - m) (c - m)) (xs.drop m) := by
  obtain ⟨rfl, hc, hc2, g⟩ := r.u8
  refine ⟨_, _, by rw [List.length_drop], by rw [List.length_drop]; omega, by omega, fun i x hx => ?_⟩
  rw [List.getElem?_drop] at hx
  have hlt : m + i < xs.length := by
    rcases Nat.lt_or_ge (m + i) xs.length with h0 | h0
    · exact h0
    · rw [List.getElem?_eq_none h0] at hx; cases hx
  obtain ⟨b, o, rfl, hcell, h0, h1⟩ := g (m + i) hlt
  rw [List.getElem?_eq_getElem hlt] at hx
  obtain rfl := Option.some.inj hx
  refine ⟨b, o + m, [.int .u8 xs[m + i]], ?_, ⟨rfl, h0, h1⟩, rfl, fun j u hu => ?_⟩
  · rw [if_neg (by omega)]
    show some _ = some _
    unfold Addr.add
    by_cases hz : m = 0
    · simp [hz]
    · simp [hz]
  · cases j with
    | succ j => simp at hu
    | zero =>
      simp at hu
      subst hu
      have e : o + m + i * 1 + 0 = o + (m + i) := by omega
      rw [e]; exact hcell

theorem pieceC_ok {ct a n : Int} (h : pieceC ct a n = 0) : n % 512 = 0 ∧ a + n / 512 ≤ ct := by
  unfold pieceC at h
  by_cases h1 : n % 512 = 0
  · rw [if_pos h1] at h
    by_cases h2 : a + n / 512 ≤ ct
    · exact ⟨h1, h2⟩
    · rw [if_neg h2] at h; cases h
  · rw [if_neg h1] at h; cases h

section
variable {R : Ending → World → Prop} {W0 w : World} {H : Hp} {A F : List Hp} {b : Nat} {d : DiskG}

set_option maxRecDepth 100000 in
set_option maxHeartbeats 4000000 in
theorem c_diskWriteOk (s : Sat W0 w H A) [fr : FrK (κ := Addr) (ρ := fun _ => DiskG) diskL ⟨b, 0, none⟩ A d F] (a : Int) (ha : 0 ≤ a ∧ a ≤ 18446744073709551615) {dv : Value} {ds : List Int} (rd : Rd u8E 1 H dv ds)
    (hf1 : d.fault ≠ 1) (hlk : d.locked = false) (hp0 : pieceC d.count a ds.length = 0)
    (k : ∀ w' d', DiskG.Like d.asked d' → d'.mem = putB d.mem (512 * a) ds → Sat W0 w' H (diskL ⟨b, 0, none⟩ d' ++ F) → R (.returned (.int .i64 0)) w') :
    Calls Try.prog 42 #[.pointer (some ⟨b, 0, none⟩), .int .u64 a, dv] w R := by
  have hc := d.hcount
  have hpc := pieceC_ok hp0
  obtain ⟨E, ec, rfl, rd⟩ := rd.open_
  obtain ⟨_, hec, hec2, _⟩ := rd.u8
  have hdb := rd.bytes
  obtain ⟨N, hN⟩ : ∃ N, ds.length = N := ⟨_, rfl⟩
  rw [hN] at hpc hec rd hp0
  obtain ⟨M, hM⟩ : ∃ M : Nat, N = 512 * M := ⟨N / 512, by omega⟩
  have hM2 : (N : Int) / 512 = M := by omega
  have hMb := aside (show a + M ≤ 65536 ∧ a + M ≤ d.count by omega)
  have hNb := aside (show 0 ≤ (N : Int) ∧ (N : Int) ≤ 18446744073709551615 by omega)
  have eN : IntKind.u64.wrap (N : Int) = N := by rw [wrap_u64]; have := hNb.out; omega
  have ecN := aside hec
  replace hM := aside hM
  replace hp0 := aside hp0
  replace hf1 := aside hf1
  replace hN := aside hN
  clear hpc hc hec
  rw [hN.out]
  go_enter Try.func42, Try.ntmps42
  go_wp2_with fail
  refine c_ask s ?_
  intro w2 s2
  rw [show askC d.fault = 0 by unfold askC; rw [if_neg hf1.out]]
  have c1 := (s2.front (mk := diskL) (k := ⟨b, 0, none⟩)).c 1 rfl
  rw [show d.asked.locked = false from hlk] at c1
  simp only [Nat.zero_add] at c1
  go_wp2_with fail
  refine c_piece s2 a N ha hNb.out ?_
  rw [show pieceC d.asked.count a N = 0 from hp0.out]
  clear s fr hp0 c1
  go_wp2
  go_loopg [9, 10] M (fun q v9 v10 w' => ∃ (i : Nat) (d' : DiskG), q + i = M ∧ v9 = .int .u64 i ∧ DiskG.Like d.asked d' ∧ Aside (d'.mem = putB d.mem (512 * a) (ds.take (512 * i))) ∧ Sat W0 w' H (diskL ⟨b, 0, none⟩ d' ++ F))
  case atStart => exact ⟨0, d.asked, by simp, rfl, DiskG.Like.refl _, by show _ = _; rw [Nat.mul_zero, List.take_zero, putB_nil]; rfl, s2⟩
  clear s2
  case round =>
    obtain ⟨i, d', hq, rfl, lk, hmem, s'⟩ := hrel
    have hM1 := hM.out
    have hMb1 := hMb.out
    have hNb1 := hNb.out
    have eM : IntKind.u64.wrap (M : Int) = M := by rw [wrap_u64]; omega
    have ei1 : IntKind.u64.wrap ((i : Int) + 1) = (i : Int) + 1 := by rw [wrap_u64]; omega
    by_cases hi : i < M
    · obtain ⟨kk, hkk⟩ : ∃ kk : Nat, a + i = kk := ⟨(a + i).toNat, by omega⟩
      have e1 : IntKind.u64.wrap (a + i) = (kk : Int) := by rw [wrap_u64]; omega
      obtain ⟨q, hqq⟩ : ∃ q : Nat, 512 * i = q := ⟨_, rfl⟩
      have e2 : IntKind.u64.wrap ((i : Int) * 512) = (q : Int) := by rw [wrap_u64]; omega
      have hqN := aside (show q + 512 ≤ N by omega)
      have hlq : (q : Int) ≤ N := by omega
      have hnq : ¬ ec = q := by have := ecN.out; omega
      have hkc := aside (show (kk : Int) < d'.count by rw [lk.count]; show (kk : Int) < d.count; omega)
      have hA : 512 * a + (q : Int) = ((512 * kk : Nat) : Int) := by omega
      obtain ⟨BS, hBS⟩ : ∃ BS, (ds.drop q).take 512 = BS := ⟨_, rfl⟩
      have hBl : BS.length = 512 := by rw [← hBS, List.length_take, List.length_drop, hN.out]; omega
      have hBb : ∀ x ∈ BS, 0 ≤ x ∧ x ≤ 255 := by rw [← hBS]; exact fun x hx => hdb x (List.mem_of_mem_drop (List.mem_of_mem_take hx))
      have hmem2 := aside (show putB d'.mem ((512 * kk : Nat) : Int) BS = putB d.mem (512 * a) (ds.take (512 * (i + 1))) by
        rw [hmem.out, ← hA, show 512 * (i + 1) = q + 512 by omega, hqq]
        have e := putB_app d.mem (512 * a) (ds.take q) BS
        rw [show ((ds.take q).length : Int) = q by rw [List.length_take, hN.out]; omega] at e
        rw [e, ← hBS, List.take_add])
      have rdq := rd.drop8D q (by omega)
      rw [if_neg hnq] at rdq
      have hrow0 := fun (w : World) (hh : Holds w H) => rdq.row hh 512
      rw [hBS] at hrow0
      obtain ⟨US, hUS⟩ : ∃ US, BS.map (Value.int .u8) = US := ⟨_, rfl⟩
      have hUl := aside (show US.length = 512 by rw [← hUS, List.length_map]; exact hBl)
      have hU1 : ∀ x ∈ US, x.oneCell' = true := by rw [← hUS]; exact oneCell_u8 _
      rw [hUS] at hrow0
      obtain ⟨ZL, hZL⟩ : ∃ ZL, List.replicate 512 (Value.int .u8 0) = ZL := ⟨_, rfl⟩
      have hZl := aside (show ZL.length = 512 by rw [← hZL]; exact List.length_replicate)
      have s2 : Sat W0 (wr.alloc (.cells sectZ 156)) H (cellsH ⟨wr.heap.size, 0, none⟩ ZL :: (diskL ⟨b, 0, none⟩ d' ++ F)) := by
        have := s'.alloc (c := List.replicate 512 (Value.int .u8 0)) (t := 156)
        rw [hZL] at this
        rw [show sectZ = ZL.toArray by rw [← hZL]; rfl]; exact this
      rw [sect_zero] at s2
      obtain ⟨P, hP⟩ : ∃ P, wr.heap.size = P := ⟨_, rfl⟩
      rw [hP] at s2
      have hfin := aside (show ZL.take 0 ++ US ++ ZL.drop (0 + US.length) = US by rw [List.take_zero, List.nil_append, List.drop_eq_nil_of_le (by have := hUl.out; have := hZl.out; omega), List.append_nil])
      have hrow := hrow0 _ s2.drew.ro
      have hpb := run_sectBuild
      have hi2 : (i : Int) < M := by omega
      have hq2 := aside (show gk - 1 + (i + 1) = M ∧ gk - 1 < gk by omega)
      have hmn := aside (show 512 = min (N - q) 512 by have := hqN.out; omega)
      have hBlA := aside hBl
      replace hUS := aside hUS
      clear hq hi hM1 hMb1 hNb1 hkk hqq hA hBS hBl rdq hZL ha hrow0
      go_wp2
      go_region_held3 (fun w' => True) (trivial)
        (first | (refine step_copyAt rfl (.tmp 41) (.tmp 45) 34 34 5 rfl Try.underlying34 hz8D (b := P) (o := 0) (vs := ZL) s2.drew 0 rfl rfl US (fun _ => rfl) (by rw [hUl.out]; exact hmn.out) (by rw [hUl.out, hZl.out]; omega) hrow hU1 ?_; intro w3 s3; rw [hfin.out] at s3))
      all_goals
        try simp only [Act.put, List.getElem_toArray, List.getElem_cons_succ, List.getElem_cons_zero, List.setIfInBounds_toArray, List.set_cons_succ, List.set_cons_zero]
        rw [← hUS.out] at s3
        have hmap := run_mapPut (w := w3) (ents := d'.ents) (mb := d'.mb) (ck := d'.ck) Try.underlying151 Try.underlying28 d'.hkey (s3.obj (b := d'.mb) (o := .map (d'.ents.map Ent.me).toArray d'.ck) (by simp [diskL])) kk P
        obtain ⟨d2, lk2, hm2, hmb2, s4⟩ := disk_put s3 hBlA.out hBb hkc.out
        have s3t := s3.tail1
        simp only [diskL, List.cons_append, List.nil_append] at s3t
        have c2 := s3t.c 2 rfl
        simp only [Nat.zero_add] at c2
        generalize Obj.map ((putEnt d'.ents kk P d'.ck).map Ent.me).toArray (putCk d'.ents kk d'.ck) = ob at hmap s4
        have hm3 := aside (hm2.trans hmem2.out)
        clear s3 s3t s2 s' hrow hpb hm2 hmem2
        go_wp2
        go_roundg (gk - 1)
        case measure => exact hq2.out.2
        case rel => exact ⟨i + 1, d2, hq2.out.1, by go_num, lk.trans lk2, hm3, s4⟩
    · obtain rfl : i = M := by omega
      have hd : d'.mem = putB d.mem (512 * a) ds := by rw [hmem.out, ← hM1, List.take_of_length_le (by rw [hN.out]; omega)]
      have K := k wr d' lk hd s'
      clear hM1 hMb1 hNb1 s' hd
      go_wp2
      exact K
end
end Go.Proofs.Ytohccblfnjampaa
