/-
  The document's row of bytes (vireoref14): Put.
-/
import Derived.Test.YtmdhhidcbcgbjaaVg
namespace Go.Proofs.Ytmdhhidcbcgbjaa
open Go.RowKit
set_option linter.unusedVariables false

section
variable {R : Ending → World → Prop} {W0 w : World} {H : Hp} {A F : List Hp} {v : Value} {xs : List Int} {room : Nat} {lost taken : Int}

set_option maxRecDepth 100000 in
set_option maxHeartbeats 4000000 in
theorem c_refFPut (s : Sat W0 w H A) (rf : RefF H v xs room lost taken) {dv : Value} {ds : List Int} (rd : Rd u8E 1 H dv ds) (hr : xs.length ≤ room) (hr2 : room ≤ 4096) (hlo : 0 ≤ lost ∧ lost ≤ 18446744073709551615) (hd : ds.length ≤ 1000)
    (k : ∀ w' H' v' (n : Nat), (∀ l c, H l = some c → H' l = some c) → n = min ds.length (room - xs.length) → RefF H' v' (xs ++ ds.take n) room ((lost + (ds.length - n : Nat)) % 18446744073709551616) taken → Sat W0 w' H' A → R (.returned (.tuple #[v', .int .i64 n])) w') :
    Calls Try.prog 60 #[v, dv] w R := by
  obtain ⟨B, c, rfl, rdx⟩ := rf.open_
  obtain ⟨E, ec, rfl, rdd⟩ := rd.open_
  obtain ⟨_, hc, hc2, gx⟩ := rdx.u8
  obtain ⟨_, hec, hec2, g⟩ := rdd.u8
  have hbx := rdx.bytes
  have hbd := rdd.bytes
  have s1 := (s.alloc (c := [.slice B xs.length c, .int .i64 room, .int .u64 lost, .int .u64 taken]) (t := 48)).alloc (c := [.slice none 0 0, .int .i64 0, .int .u64 0, .int .u64 0]) (t := 48)
  rw [World.size_alloc] at s1
  obtain ⟨Z, hZ⟩ : ∃ Z, w.heap.size = Z := ⟨_, rfl⟩
  rw [hZ] at s1
  have s2 := s1.alloc (c := List.replicate xs.length (.int .u8 0)) (t := 5)
  have hY : ((w.alloc (.cells [.slice B xs.length c, .int .i64 room, .int .u64 lost, .int .u64 taken].toArray 48)).alloc (.cells [.slice none 0 0, .int .i64 0, .int .u64 0, .int .u64 0].toArray 48)).heap.size = Z + 2 := by rw [World.size_alloc, World.size_alloc, hZ]
  rw [hY] at s2
  have y0 := s1.cel Z 0 0 rfl
  have x0 := s2.cel Z 0 0 rfl
  simp only [Nat.zero_add] at y0 x0
  have hlx : (xs.length : Int) ≤ 4096 := by omega
  have hmk : ∀ W, (Instr.makeSlice 37 (.int .i64 xs.length) (.int .i64 xs.length)).run Try.prog W = .ok (.slice (some ⟨W.heap.size, 0, none⟩) xs.length xs.length) (W.alloc (.cells (List.replicate xs.length (Value.int .u8 0)).toArray 5)) := fun W => by
    have := run_make8 .i64 .i64 xs.length xs.length (by omega) (by omega) (by omega) W
    simpa using this
  have own0 : OwnS 1 (.slice (some ⟨Z + 2, 0, none⟩) xs.length xs.length) xs.length (List.replicate xs.length (Value.int .u8 0)) (cellsH ⟨Z + 2, 0, none⟩ (List.replicate xs.length (Value.int .u8 0))) := by
    have := OwnS.made (size := 1) (b := Z + 2) (o := 0) (n := xs.length) (c := xs.length) (vs := List.replicate xs.length (Value.int .u8 0)) [] (Nat.le_refl _) (by omega) (by simp) (by simp)
    simpa using this
  have hz8 : (Try.prog.info? 5).map (·.size) = some 1 := by kernel_rfl
  have row0 := Rd.row s2.ro rdx xs.length
  rw [List.take_length] at row0
  clear s rf
  go_enter Try.func60, Try.ntmps60
  go_wp2_with (refine wpList_copy rfl (.tmp 13) (.tmp 15) 37 37 5 rfl Try.underlying37 hz8 rfl own0 s2 rfl (us := xs.map (Value.int .u8)) (by simp) (Nat.le_refl _) row0 (oneCell_u8 _) ?_; intro w3 h3 own3 s3)
  have own4 : OwnS 1 (.slice (some ⟨Z + 2, 0, none⟩) xs.length xs.length) xs.length (xs.map (Value.int .u8)) h3 := by simpa using own3
  clear own3 own0 s1 s2 y0 x0 row0 hmk hY
  go_loopg [6, 7, 8] ds.length (fun q v6 v7 v8 w' => ∃ (i m : Nat) (h' : Hp) (L : Int), q + i = ds.length ∧ v7 = .int .i64 m ∧ v8 = .int .i64 i ∧ m = min i (room - xs.length) ∧ L = (lost + (i - m : Nat)) % 18446744073709551616 ∧ OwnS 1 v6 (xs.length + m) ((xs ++ ds.take m).map (Value.int .u8)) h' ∧
    Sat W0 w' H (h' :: cellsH ⟨Z, 0, none⟩ [.slice B xs.length c, .int .i64 room, .int .u64 L, .int .u64 taken] :: cellsH ⟨Z + 1, 0, none⟩ [.slice none 0 0, .int .i64 0, .int .u64 0, .int .u64 0] :: A))
  case atStart => exact ⟨0, 0, h3, lost, by simp, rfl, rfl, by simp, by simp; omega, by simpa using own4, s3.wk⟩
  case round =>
    obtain ⟨i, m, h', L, hq, rfl, rfl, hm, hL, own, s'⟩ := hrel
    have y0 := s'.cel Z 0 0 rfl
    have y1 := s'.cel Z 0 1 rfl
    have y2 := s'.cel Z 0 2 rfl
    have y3 := s'.cel Z 0 3 rfl
    simp only [Nat.zero_add] at y0 y1 y2 y3
    obtain ⟨A1, c1, sp1, rfl, _⟩ := id own
    by_cases hi : i < ds.length
    · by_cases hmr : xs.length + m < room
      · obtain rfl : m = i := by omega
        obtain ⟨bb, ob, rfl, hcell, hx0, hx1⟩ := g m hi
        have cc := s'.ro.cell hcell
        have htk : ds.take (m + 1) = ds.take m ++ [ds[m]] := List.take_succ_eq_append_getElem hi
        obtain ⟨y, hy⟩ : ∃ y, ds[m] = y := ⟨_, rfl⟩
        rw [hy] at htk cc hx0 hx1
        replace htk := aside htk
        have hL' := aside hL
        clear hcell g hy hbd hbx gx k hm hL own4 s3
        go_wp2_with (at_builtin; refine append8 rfl (.tmp 28) (.tmp 33) rfl rfl own s'.alloc rfl [y] rfl row_lit (by omega) ?_; intro A2 cap2 w2 h2 ho hs)
        go_roundg (gk - 1)
        case measure => omega
        case rel => exact ⟨m + 1, m + 1, h2, L, by omega, by go_num, by go_num, by omega, by rw [hL'.out]; simp, by rw [htk.out, ← List.append_assoc, List.map_append]; exact ho, hs.wk⟩
      · have s5 := (Sat.pull (h := cellsH ⟨Z, 0, none⟩ [.slice B xs.length c, .int .i64 room, .int .u64 L, .int .u64 taken]) s').s 2 (by simp) (.int .u64 (IntKind.u64.wrap (L + 1)))
        simp only [List.set_cons_succ, List.set_cons_zero, Nat.zero_add] at s5
        have hL2 : IntKind.u64.wrap (L + 1) = (lost + (i + 1 - m : Nat)) % 18446744073709551616 := by rw [wrap_u64, hL]; omega
        replace hL2 := aside hL2
        have hm2 := aside (show m = min (i + 1) (room - xs.length) by omega)
        clear g hbd hbx gx k hm hL own4 s3 hlo
        go_wp2
        go_roundg (gk - 1)
        case measure => omega
        case rel => exact ⟨i + 1, m, h', _, by omega, rfl, by go_num, hm2.out, hL2.out, own, s5.wk⟩
    · obtain rfl : i = ds.length := by omega
      have t2 := (Sat.pull (h := cellsH ⟨Z, 0, none⟩ [.slice B xs.length c, .int .i64 room, .int .u64 L, .int .u64 taken]) s').s0 (.slice A1 (xs.length + m) c1)
      have t6 := ((((Sat.pull (h := cellsH ⟨Z + 1, 0, none⟩ [.slice none 0 0, .int .i64 0, .int .u64 0, .int .u64 0]) t2).s0 (.slice A1 (xs.length + m) c1)).s 1 (by simp) (.int .i64 room)).s 2 (by simp) (.int .u64 L)).s 3 (by simp) (.int .u64 taken)
      simp only [List.set_cons_succ, List.set_cons_zero, Nat.zero_add] at t6
      have f0 := t6.c0
      have f1 := t6.c 1 rfl
      have f2 := t6.c 2 rfl
      have f3 := t6.c 3 rfl
      simp only [Nat.zero_add] at f0 f1 f2 f3
      have z0 := s'.cel (Z + 1) 0 0 rfl
      have z1 := s'.cel (Z + 1) 0 1 rfl
      have z2 := s'.cel (Z + 1) 0 2 rfl
      have z3 := s'.cel (Z + 1) 0 3 rfl
      simp only [Nat.zero_add] at z0 z1 z2 z3
      have hb2 : ∀ x ∈ xs ++ ds.take m, 0 ≤ x ∧ x ≤ 255 := fun x hx => by
        rcases List.mem_append.1 hx with h | h
        · exact hbx x h
        · exact hbd x (List.mem_of_mem_take h)
      have t7 := (Sat.pull (h := h') t6).freeze
      have K := k _ (un H h') (.agg #[.slice A1 (xs.length + m) c1, .int .i64 room, .int .u64 L, .int .u64 taken]) m un_leftG hm (by rw [← hL]; exact ⟨_, rfl, own.rdU hb2 (Sat.pull (h := h') t6).frozenG⟩) t7.wk
      clear k g hbd hbx gx hm hL own4 s3 hlo hb2 own t7 t6 t2 s'
      go_wp2
      refine bodyPost_ret (by simp [results, Try.results60, go_sem, f0.1, f1.1, f2.1, f3.1]; try rfl) rfl ?_
      exact K
end
end Go.Proofs.Ytmdhhidcbcgbjaa
