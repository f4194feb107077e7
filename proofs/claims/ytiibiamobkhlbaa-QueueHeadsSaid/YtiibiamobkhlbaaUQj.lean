/-
  QUEUE: the closure of QueueWrites is a device: it lists what may be written, and fills.
-/
import Derived.Test.YtiibiamobkhlbaaG7
set_option linter.unusedVariables false
set_option linter.unusedSimpArgs false
namespace Go.Proofs.Ytiibiamobkhlbaa
open Go.RowKit
set_option linter.unusedVariables false
set_option linter.unusedSimpArgs false

theorem oneCell_Gj (l : List SegM) : ∀ x ∈ encG l, x.oneCell' = true := by
  intro x hx
  unfold encG at hx
  rw [List.mem_flatMap] at hx
  obtain ⟨y, _, hy⟩ := hx
  simp at hy
  rcases hy with rfl | rfl | rfl <;> rfl

/-- a device that fills, can have so many chains, and lists their pieces -/
def wrDev (bt : Int) : DevF (Nat × List SegM) := fun x m segs => match x with
  | (0, _) => none
  | (k + 1, ys) => some ((k, ys ++ segs), fillM bt segs m, fillC segs)
def wrX (rb yb pb ob mb : Nat) (bt h1 : Int) : Hp → Nat × List SegM → List Hp → Prop := fun _ x X => x.1 ≤ 100 ∧ x.2.length + 511 * x.1 ≤ 60000 ∧
  ∃ A c hp, OwnS 3 (.slice A x.2.length c) x.2.length (encG x.2) hp ∧ X = [cellsH ⟨rb, 0, none⟩ [.int .i64 x.1], cellsH ⟨yb, 0, none⟩ [.slice A x.2.length c], hp, cellsH ⟨pb, 0, none⟩ [.pointer (some ⟨mb, 0, none⟩)], cellsH ⟨ob, 0, none⟩ [.int .i64 bt, .int .i64 h1]]

section
variable {W0 : World}

set_option maxRecDepth 100000 in
set_option maxHeartbeats 4000000 in
theorem dev_wr (rb yb pb ob mb : Nat) (bt h1 : Int) (hbt : 0 ≤ bt ∧ bt ≤ 255) : DevC 29 #[.pointer (some ⟨rb, 0, none⟩), .pointer (some ⟨yb, 0, none⟩), .pointer (some ⟨pb, 0, none⟩), .pointer (some ⟨ob, 0, none⟩)] mb W0 (wrDev bt) (wrX rb yb pb ob mb bt h1) := by
  intro R w H X G x r l h B n c segs ta tl hX own hb hord s kn ks
  obtain ⟨x, ys⟩ := x
  obtain ⟨hx, hys, A, cy, hp, ownh, rfl⟩ := hX
  simp only at hx hys ownh s kn ks
  show Calls Try.prog 29 #[.agg #[.slice B n c, .int .u64 ta, .int .u64 tl], .pointer (some ⟨rb, 0, none⟩), .pointer (some ⟨yb, 0, none⟩), .pointer (some ⟨pb, 0, none⟩), .pointer (some ⟨ob, 0, none⟩)] w R
  simp only [List.cons_append, List.nil_append] at s kn ks
  obtain ⟨_, _, hsh, _⟩ := own.shp
  obtain ⟨rfl, rfl, rfl⟩ := Value.slice.inj hsh
  clear hsh
  have rd := aside own.rdG
  have hrs := r.hsize
  have hB : segB segs := ⟨hb.1, fun x hx => by have := hb.2 x hx; unfold hasP at this; omega⟩
  have hsm := hB.sums segs.length
  rw [List.take_length] at hsm
  have hfc := fillC_bd (segs := segs) (by omega)
  have s1 : Sat W0 _ H (cellsH ⟨rb, 0, none⟩ [.int .i64 x] :: cellsH ⟨yb, 0, none⟩ [.slice A ys.length cy] :: hp :: cellsH ⟨pb, 0, none⟩ [.pointer (some ⟨mb, 0, none⟩)] :: cellsH ⟨ob, 0, none⟩ [.int .i64 bt, .int .i64 h1] :: (ramL ⟨mb, 0, none⟩ (r, l) ++ (cellsH ⟨w.heap.size, 0, none⟩ [.slice B segs.length c, .int .u64 ta, .int .u64 tl] :: h :: G))) := (s.alloc (c := [.slice B segs.length c, .int .u64 ta, .int .u64 tl]) (t := 50)).wk
  obtain ⟨Z, hZ⟩ : ∃ Z, w.heap.size = Z := ⟨_, rfl⟩
  rw [hZ] at s1
  obtain ⟨N, hN⟩ : ∃ N, ys.length = N := ⟨_, rfl⟩
  obtain ⟨M, hM⟩ : ∃ M, segs.length = M := ⟨_, rfl⟩
  rw [hN] at s1 ownh hys kn
  rw [hM] at s1 own rd ⊢
  have hM5 : M ≤ 511 := by have := hb.1; omega
  have hel : (encG segs).length = M * 3 := by rw [encG_len, hM]
  have y0 := s1.cel Z 0 0 rfl
  have y1 := s1.cel Z 0 1 rfl
  have y2 := s1.cel Z 0 2 rfl
  simp only [Nat.zero_add] at y0 y1 y2
  have c0 := s1.c0
  have v0 := s1.cel yb 0 0 rfl
  have p0 := s1.cel pb 0 0 rfl
  have b0 := s1.cel ob 0 0 rfl
  simp only [Nat.zero_add] at p0 b0 v0
  clear s hB hsm hrs
  cases x with
  | zero =>
    have K := aside (kn rfl)
    clear ks kn hb
    replace hN := aside hN
    replace hM := aside hM
    replace hel := aside hel
    go_enter Try.func29, Try.ntmps29
    go_wp2
    exact K.out _ s1.wk
  | succ x =>
    have K := aside (ks (x, ys ++ segs) _ _ rfl)
    clear ks kn
    obtain ⟨FC, hFC⟩ : ∃ y, fillC segs = y := ⟨_, rfl⟩
    rw [hFC] at hfc K
    have s2 := s1.s0 (.int .i64 x)
    have ew : IntKind.i64.wrap (((x + 1 : Nat) : Int) - 1) = (x : Int) := by simp [IntKind.wrap, IntKind.bits, IntKind.signed]; omega
    have hx1 : ¬ (((x + 1 : Nat) : Int) = 0) := by omega
    have hx2 : ((((x + 1 : Nat) : Int)) == 0) = false := by simp; omega
    have e8 : IntKind.u8.wrap bt = bt := by rw [wrap_u8]; omega
    have hx100 := aside hx
    have hy6 := aside (show N + M + 511 * x ≤ 60000 by omega)
    have hNM : N ≤ 60000 := by omega
    obtain ⟨XX, hXX⟩ : ∃ y, ((x + 1 : Nat) : Int) = y := ⟨_, rfl⟩
    rw [hXX] at c0 ew hx1 hx2 s1
    have v1 := s2.cel yb 0 0 rfl
    have z0 := s2.cel Z 0 0 rfl
    simp only [Nat.zero_add] at v1 z0
    obtain ⟨i0, hi0, hz0, hs0, hb0⟩ := info_seg
    have hr : RowR (w.alloc (.cells #[.slice B M c, .int .u64 ta, .int .u64 tl] 50) |>.setCell ⟨rb, 0, none⟩ (.int .i64 x)) B (encG segs) := by
      have := OwnS.row0 own (Sat.pull (h := h) s2).head (encG segs).length
      rwa [List.take_length] at this
    replace own := aside own
    replace hb := aside hb
    replace hFC := aside hFC
    replace hXX := aside hXX
    replace hord := aside hord
    replace hN := aside hN
    replace hM := aside hM
    replace hel := aside hel
    clear s1 hx hys y0 y1 y2 p0 b0 v0
    go_enter Try.func29, Try.ntmps29
    go_wp2_with
      (at_builtin
       refine wpList_append rfl (.tmp 12) (.tmp 14) 46 46 81 rfl i0 (.agg #[.int .u64 0, .int .u64 0, .bool false]) 3 24 Try.underlying46 Try.underlying46 hi0 hz0 hs0 hb0 rfl (by decide) rfl ownh (Sat.pull (h := hp) s2) rfl (us := encG segs) hel.out hr (oneCell_Gj _) (by omega) (by omega) ?_
       intro A6 c6 w6 h6 own6 s6
       have v6 := s6.cel yb 0 0 rfl
       simp only [Nat.zero_add] at v6
       have s7 : Sat W0 _ H (cellsH ⟨yb, 0, none⟩ [.slice A6 (N + M) c6] :: (ramL ⟨mb, 0, none⟩ (r, l) ++ (cellsH ⟨rb, 0, none⟩ [.int .i64 x] :: h6 :: cellsH ⟨pb, 0, none⟩ [.pointer (some ⟨mb, 0, none⟩)] :: cellsH ⟨ob, 0, none⟩ [.int .i64 bt, .int .i64 h1] :: cellsH ⟨Z, 0, none⟩ [.slice B M c, .int .u64 ta, .int .u64 tl] :: h :: G))) := ((s6.pc yb 0).s0 (.slice A6 (N + M) c6)).wk
       have p7 := s7.cel pb 0 0 rfl
       have b7 := s7.cel ob 0 0 rfl
       simp only [Nat.zero_add] at p7 b7
       have y0 := s7.cel Z 0 0 rfl
       have y1 := s7.cel Z 0 1 rfl
       have y2 := s7.cel Z 0 2 rfl
       simp only [Nat.zero_add] at y0 y1 y2
       clear v1 z0 s6)
    refine c_fill s7 rd.out (fun w' t => (Sat.pull (h := h) t).head) hb.out ta tl bt hbt ?_
    rw [hFC.out]
    intro w3 r3 l3 hm3 hz3 hl3 s3
    have own7 : OwnS 3 (.slice A6 (ys ++ segs).length c6) (ys ++ segs).length (encG (ys ++ segs)) h6 := by
      rw [List.length_append, hN.out, hM.out]
      simpa [encG, List.flatMap_append] using own6
    replace hm3 := aside hm3
    replace hz3 := aside hz3
    replace hl3 := aside hl3
    have hl7 := aside (show (ys ++ segs).length = N + M by rw [List.length_append, hN.out, hM.out])
    clear s2 s7 p7 b7 y0 y1 y2 c0 v6
    go_wp2
    have K1 := K.out w3 H _ r3 l3 (fun _ _ h => h) ⟨by have := hx100.out; simp only; omega, by have := hy6.out; simp only [hl7.out]; omega, A6, c6, h6, own7, rfl⟩ hm3.out hz3.out (hl3.out.mono (fun _ _ h => h.elim) (fun _ _ h => h)) hfc
    rw [hl7.out] at K1
    simp only [List.cons_append, List.nil_append] at K1
    exact K1 s3.wk
end
end Go.Proofs.Ytiibiamobkhlbaa
