/-
  A row of bytes and the document's: is it as the document's (vireolaw14.Same)?
-/
import Derived.Test.YtiibiamobkhlbaaUVgp
import Derived.Deep.RegionHeld3
set_option linter.unusedVariables false
set_option linter.unusedSimpArgs false
namespace Go.Proofs.Ytiibiamobkhlbaa
open Go.RowKit
set_option linter.unusedVariables false

section
variable {R : Ending → World → Prop} {W0 w : World} {H : Hp} {A F : List Hp} {v : Value} {f : FifoG} {b : Nat}

set_option maxRecDepth 100000 in
set_option maxHeartbeats 4000000 in
theorem c_lawFSame (s : Sat W0 w H A) [fr : FrK (κ := Addr) (ρ := fun _ => FifoG) fifoL ⟨b, 0, none⟩ A f F] (rf : RefF H v f.xs f.room f.lost f.taken)
    (k : ∀ w', Sat W0 w' H (fifoL ⟨b, 0, none⟩ f ++ F) → R (.returned (.bool true)) w') :
    Calls Try.prog 114 #[.pointer (some ⟨b, 0, none⟩), v] w R := by
  obtain ⟨B, c, rfl, rd⟩ := rf.open_
  obtain ⟨_, hc, hc2, g⟩ := rd.u8
  have s0 := s.front (mk := fifoL) (k := ⟨b, 0, none⟩)
  have s1 := s0.alloc (c := [.slice B f.xs.length c, .int .i64 f.room, .int .u64 f.lost, .int .u64 f.taken]) (t := 125)
  obtain ⟨Z, hZ⟩ : ∃ Z, w.heap.size = Z := ⟨_, rfl⟩
  rw [hZ] at s1
  clear s s0 fr rf g
  have hl := f.fits
  have hl2 := f.hroom
  obtain ⟨X, hX⟩ : ∃ X, f.xs = X := ⟨_, rfl⟩
  obtain ⟨r, hr⟩ : ∃ r, f.room = r := ⟨_, rfl⟩
  obtain ⟨lo, hlo⟩ : ∃ r, f.lost = r := ⟨_, rfl⟩
  obtain ⟨ta, hta⟩ : ∃ r, f.taken = r := ⟨_, rfl⟩
  rw [hX] at s1 rd hl hc
  rw [hr] at s1 hl hl2
  rw [hlo, hta] at s1
  rw [hX, hr, hlo, hta]
  replace hX := aside hX
  replace hr := aside hr
  replace hlo := aside hlo
  replace hta := aside hta
  have y0 := s1.cel Z 0 0 rfl
  have y1 := s1.cel Z 0 1 rfl
  have y2 := s1.cel Z 0 2 rfl
  have y3 := s1.cel Z 0 3 rfl
  simp only [Nat.zero_add] at y0 y1 y2 y3
  go_enter Try.func114, Try.ntmps114
  go_wp2
  go_region_held3 (fun w' => w'.cell? ⟨Z, 0, none⟩ = some (.slice B X.length c) ∧ w'.cell? ⟨Z, 1, none⟩ = some (.int .i64 r) ∧ w'.cell? ⟨Z, 2, none⟩ = some (.int .u64 lo) ∧ w'.cell? ⟨Z, 3, none⟩ = some (.int .u64 ta))
    (first
      | exact ⟨y0.1, y1.1, y2.1, y3.1⟩
      | exact ⟨(s8.cel Z 0 0 rfl).1, (s8.cel Z 0 1 rfl).1, (s8.cel Z 0 2 rfl).1, (s8.cel Z 0 3 rfl).1⟩
      | exact ⟨(s7.cel Z 0 0 rfl).1, (s7.cel Z 0 1 rfl).1, (s7.cel Z 0 2 rfl).1, (s7.cel Z 0 3 rfl).1⟩)
    (first
      | (go_at_call 150; refine c_fifoLen s1.drew ?_; rw [hX.out])
      | (go_at_call 151; refine c_fifoRoom s1.drew ?_; rw [hr.out])
      | (go_at_call 152; refine c_fifoLost s1.drew ?_; rw [hlo.out])
      | (go_at_call 153; refine c_fifoTaken s1.drew ?_; rw [hta.out])
      | (go_at_call 154; refine c_fifoPeek s1.drew 5000 ?_; intro w7 v7 h7 m7 hm7 o7 s7; rw [hX.out] at hm7 o7; rw [show List.take m7 X = X from List.take_of_length_le (by omega)] at o7)
      | (go_at_call 104; refine c_Bytes (Sat.pull (h := h7) s7.drew).head s7.ro (o7.rd rd.bytes) rd ?_; intro n8; have s8 := s7.drewN n8; rw [decide_eq_true (show X = X from rfl)]))
  all_goals
    go_wp2
    exact s8.tail1.wk
end
end Go.Proofs.Ytiibiamobkhlbaa
