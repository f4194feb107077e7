/-
  BlkTells returns true for every start and number; no condition.
-/
import Derived.Test.YtiibiamobkhlbaaUMa
import Derived.Test.YtiibiamobkhlbaaG5
import Derived.Test.YtiibiamobkhlbaaUBg
import Derived.Test.YtiibiamobkhlbaaG2
import Derived.LaidEqlPtr
set_option linter.unusedVariables false
set_option linter.unusedSimpArgs false
namespace Go.Proofs.Ytiibiamobkhlbaa
open Go.RowKit
set_option linter.unusedVariables false
set_option linter.unusedSimpArgs false

section
variable {R : Ending → World → Prop} {W0 w : World} {H : Hp} {A F : List Hp}
set_option maxRecDepth 100000 in
set_option maxHeartbeats 4000000 in
theorem c_blkDisk {bb db : Nat} (hc : w.cell? ⟨bb, 1, none⟩ = some (.pointer (some ⟨db, 0, none⟩))) (k : R (.returned (.pointer (some ⟨db, 0, none⟩))) w) :
    Calls Try.prog 47 #[.pointer (some ⟨bb, 0, none⟩)] w R := by
  replace k := aside k
  go_enter Try.func47, Try.ntmps47
  go_wp2
  exact k.out
end

set_option maxRecDepth 100000 in
set_option maxHeartbeats 4000000 in
theorem law_BlkTells (W : World) {cs0 : Array Value} {v1 : Value} {st : StartM} {q : Int} (e0 : startE (look W) st cs0.toList) (e1 : u64E (look W) q [v1]) :
    Calls Try.prog 8 #[.agg cs0, v1] W fun e w' => e = .returned (.bool true) ∧ Below W.heap.size W w' := by
  obtain ⟨h1, a1, b1⟩ := e1
  obtain rfl : v1 = _ := List.cons.inj h1 |>.1
  clear h1
  obtain ⟨dv, hcs, rdv⟩ := e0
  obtain rfl : cs0 = (st.vals dv).toArray := by apply Array.ext'; simpa using hcs
  clear hcs
  obtain ⟨lk, sd, f, nm, hf, hnm⟩ := st
  simp only [StartM.vals] at *
  obtain ⟨D, dc, rfl, rdv⟩ := rdv.open_
  obtain ⟨M, hM⟩ : ∃ M, sd.length = M := ⟨_, rfl⟩
  have s0 := (Sat.start W).alloc (c := [.bool lk, .slice D sd.length dc, .int .u64 f, .string nm]) (t := 59)
  obtain ⟨X, hX⟩ : ∃ X, W.heap.size = X := ⟨_, rfl⟩
  rw [hX] at s0
  rw [hM] at s0 rdv ⊢
  replace hM := aside hM
  replace rdv := aside rdv
  go_enter Try.func8, Try.ntmps8
  go_wp2_with fail
  refine c_blkAwake s0 ?_
  intro wA s1
  clear s0
  go_wp2_with fail
  refine c_Memory s1 Rd.nil ?_ ?_
  · intro w2 H2 v2 m2 le2 r2 s2
    obtain ⟨B, n2, c, rfl⟩ := r2.shapeM
    have s3 := s2.alloc (c := [.int .u64 8192, .slice B n2 c]) (t := 32)
    obtain ⟨Y, hY⟩ : ∃ Y, w2.heap.size = Y := ⟨_, rfl⟩
    rw [hY] at s3
    have x0 := s3.cel X 0 0 rfl
    have x1 := s3.cel X 0 1 rfl
    have x2 := s3.cel X 0 2 rfl
    have x3 := s3.cel X 0 3 rfl
    simp only [Nat.zero_add] at x0 x1 x2 x3
    clear s1 s2
    go_wp2_with fail
    refine c_lawDisk s3 lk (rdv.out.mono u8E_mono le2) f hf nm hnm ?_ ?_
    · intro w4 H4 B4 N4 c4 le4 s4
      have s5 := s4.alloc (c := [.slice B4 N4 c4, .bool lk, .int .u64 0, .int .u64 0, .int .u64 0]) (t := 63)
      clear s3
      go_wp2
      go_ret
      exact ⟨rfl, hX ▸ s5.below⟩
    · intro hs64 hs100 w4 H4 v4 db d le4 hc4 hl4 hf4 hm4 rf4 s4
      obtain ⟨B4, N4, c4, rfl, hN4, _⟩ := rf4.open_
      have s5 := s4.alloc (c := [.slice B4 N4 c4, .bool lk, .int .u64 f, .int .u64 0, .int .u64 0]) (t := 63)
      clear s3 hN4 rf4
      go_wp2
      go_ret
      exact ⟨rfl, hX ▸ s5.below⟩
  intro w2 H2 v2 mb r le2 hz rm s2
  obtain ⟨B, n2, c2, rfl⟩ := rm.shapeM
  have s3 := s2.alloc (c := [.int .u64 8192, .slice B n2 c2]) (t := 32)
  obtain ⟨Y, hY⟩ : ∃ Y, w2.heap.size = Y := ⟨_, rfl⟩
  rw [hY] at s3
  have x0 := s3.cel X 0 0 rfl
  have x1 := s3.cel X 0 1 rfl
  have x2 := s3.cel X 0 2 rfl
  have x3 := s3.cel X 0 3 rfl
  simp only [Nat.zero_add] at x0 x1 x2 x3
  have rdv2 := aside (rdv.out.mono u8E_mono le2)
  replace rm := aside rm
  replace hz := aside hz
  clear s1 s2
  go_wp2_with fail
  refine c_lawDisk s3 lk rdv2.out f hf nm hnm ?_ ?_
  · intro w4 H4 B4 N4 c4 le4 s4
    have s5 := s4.alloc (c := [.slice B4 N4 c4, .bool lk, .int .u64 0, .int .u64 0, .int .u64 0]) (t := 63)
    clear s3
    go_wp2
    go_ret
    exact ⟨rfl, hX ▸ s5.below⟩
  intro hs64 hs100 w4 H4 v4 db d le4 hc4 hl4 hf4 hm4 rf4 s4
  obtain ⟨B4, N4, c4, rfl, hN4, _⟩ := rf4.open_
  have s5 := s4.alloc (c := [.slice B4 N4 c4, .bool lk, .int .u64 f, .int .u64 0, .int .u64 0]) (t := 63)
  have x3' := s5.cel X 0 3 rfl
  have x0' := s5.cel X 0 0 rfl
  simp only [Nat.zero_add] at x3' x0'
  clear hs64 hs100 hm4 hN4 rf4 hf4 s3 s4 x0 x1 x2 x3
  go_wp2_with fail
  refine c_blkNew s5 mb nm ?_
  intro w6 bb rb qb sv h6 own6 s6
  rw [hc4] at own6
  rw [hl4] at s6
  have rd6 := own6.rd (fun x hx => leb_bd 4 8 x hx)
  have hln : ((leb 4 8).map (Value.int .u8)).length = 8 := by rw [List.length_map, leb_len]
  obtain ⟨S, SC, SL, rfl, hSL, hSC⟩ : ∃ S SC SL, sv = .slice S SL SC ∧ SL = 8 ∧ SC ≤ 9223372036854775807 := by
    obtain ⟨A', c', sp, rfl, q1, q2, _⟩ := own6
    exact ⟨A', c', 8, rfl, rfl, q2⟩
  subst hSL
  have hv : ofB (rdB (spF (leb 4 8)) (256 - 256) (8 : Int).toNat) = 4 := by decide
  have ht : telOk (256 - 256) 8 := by decide
  have b0 := s6.cel bb 0 0 rfl
  have b1 := s6.cel bb 0 1 rfl
  simp only [Nat.zero_add] at b0 b1
  have g0 := s6.cel rb 0 0 rfl
  have g1 := s6.cel rb 0 1 rfl
  have g2 := s6.cel rb 0 2 rfl
  have g3 := s6.cel rb 0 3 rfl
  have g4 := s6.cel rb 0 4 rfl
  have g5 := s6.cel rb 0 5 rfl
  have g6 := s6.cel rb 0 6 rfl
  have g7 := s6.cel rb 0 7 rfl
  have g8 := s6.cel rb 0 8 rfl
  have g9 := s6.cel rb 0 9 rfl
  have g10 := s6.cel rb 0 10 rfl
  simp only [Nat.zero_add] at g0 g1 g2 g3 g4 g5 g6 g7 g8 g9 g10
  have x0 := s6.cel X 0 0 rfl
  simp only [Nat.zero_add] at x0
  have hh6 := (Sat.pull (h := h6) s6).head
  clear s5 own6 hc4 hl4 hln x3' x0'
  replace rd6 := aside rd6
  replace ht := aside ht
  replace hv := aside hv
  have hinf : ∃ j, Try.prog.info? 162 = some j := by
    have h : (Try.prog.info? 162).isSome = true := by kernel_rfl
    exact Option.isSome_iff_exists.1 h
  obtain ⟨j, hj⟩ := hinf
  have hpe : ∀ w, Sem.run Try.prog (binOp .eql 61 (.pointer (some ⟨db, 0, none⟩)) (.pointer (some ⟨db, 0, none⟩))) w = .ok (.bool true) w := fun w => run_eql_ptr_same w _ Try.underlying61 hj
  replace hj := aside hj
  cases lk with
  | false =>
    have eo : offB false = 5100274176 := rfl
    rw [eo] at g1
    clear eo
    go_wp2_with fail
    refine c_regLoadSp g10.1 hh6 rd6.out 256 8 (by omega) (by omega) (fun h => absurd ht.out h) (fun _ => ?_)
    rw [hv.out]
    go_wp2_with fail
    refine c_blkDisk b1.1 ?_
    go_wp2
    go_ret
    exact ⟨by simp, hX ▸ s6.below⟩
  | true =>
    have eo : offB true = 5100274208 := rfl
    rw [eo] at g1
    clear eo
    go_wp2_with fail
    refine c_regLoadSp g10.1 hh6 rd6.out 256 8 (by omega) (by omega) (fun h => absurd ht.out h) (fun _ => ?_)
    rw [hv.out]
    go_wp2_with fail
    refine c_blkDisk b1.1 ?_
    go_wp2
    go_ret
    exact ⟨by simp, hX ▸ s6.below⟩
end Go.Proofs.Ytiibiamobkhlbaa
