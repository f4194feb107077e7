/-
  TTY: what a console does while its registers are not live.
-/
import Derived.Test.YtiibiamobkhlbaaUMh
import Derived.BigQuiet
set_option linter.unusedVariables false
set_option linter.unusedSimpArgs false
namespace Go.Proofs.Ytiibiamobkhlbaa
open Go.RowKit
set_option linter.unusedVariables false
set_option linter.unusedSimpArgs false

section
variable {R : Ending → World → Prop} {W0 w : World} {H : Hp} {A F : List Hp}
set_option maxRecDepth 100000 in
set_option maxHeartbeats 4000000 in
theorem c_liveDead {rb : Nat} (hc : w.cell? ⟨rb, 7, none⟩ = some (.int .u32 0)) (k : R (.returned (.bool false)) w) : Calls Try.prog 145 #[.pointer (some ⟨rb, 0, none⟩)] w R := by
  replace k := aside k
  go_enter Try.func145, Try.ntmps145
  go_wp2
  exact k.out
set_option maxRecDepth 100000 in
set_option maxHeartbeats 4000000 in
theorem c_serveDead (s : Sat W0 w H A) {rb mb : Nat} {p : RegP} (iv : Value) (h1 : iv.cells = #[iv]) (h2 : iv.oneCell' = true) (hp : p.g.bits = 0) {n : Int} (hA : A = regL rb p ++ F)
    (k : ∀ w', Sat W0 w' H A → R (.returned (.tuple #[])) w') : Calls Try.prog 111 #[.pointer (some ⟨rb, 0, none⟩), .pointer (some ⟨mb, 0, none⟩), .int .i64 n, iv] w R := by
  have hc : ∀ w', Sat W0 w' H A → w'.cell? ⟨rb, 7, none⟩ = some (.int .u32 0) := fun w' s => by
    have := (s.cells (a := ⟨rb, 0, none⟩) (vs := p.g.vals p.qb p.cq p.spv) (by rw [hA]; simp [regL]) (i := 7) rfl).1
    rw [Nat.zero_add, hp] at this
    exact this
  have s1 := s.alloc (c := [iv]) (t := 252)
  have c1 : (w.alloc (.cells #[iv] 252)).cell? ⟨rb, 7, none⟩ = some (.int .u32 0) := hc _ s1.wk
  have c0 := hc _ s
  replace k := aside k
  replace hc := aside hc
  have d1 : (w.alloc (.cells #[iv] 252)).drew.cell? ⟨rb, 7, none⟩ = some (.int .u32 0) := hc.out _ s1.wk.drew
  go_enter Try.func111, Try.ntmps111
  go_wp2_with fail
  refine c_liveDead c1 ?_
  go_wp2
  refine bodyPost_ret (results_none rfl _ _ _) rfl ?_
  exact k.out _ s1.wk
set_option maxRecDepth 100000 in
set_option maxHeartbeats 4000000 in
theorem c_notifiedDead (s : Sat W0 w H A) {tb rb fb mb : Nat} {ov : Value} {lost : Int} {p : RegP} (hp : p.g.bits = 0) (hA : A = cellsH ⟨tb, 0, none⟩ (ttyV rb fb mb ov lost) :: (regL rb p ++ F))
    (k : ∀ w', Sat W0 w' H A → R (.returned (.tuple #[])) w') : Calls Try.prog 51 #[.pointer (some ⟨tb, 0, none⟩), .int .i64 0] w R := by
  have hc : ∀ w', Sat W0 w' H A → w'.cell? ⟨tb, 0, none⟩ = some (.pointer (some ⟨rb, 0, none⟩)) ∧ w'.cell? ⟨tb, 4, none⟩ = some (.pointer (some ⟨mb, 0, none⟩)) := fun w' s => by
    have a := (s.cells (a := ⟨tb, 0, none⟩) (vs := ttyV rb fb mb ov lost) (by rw [hA]; simp) (i := 0) rfl).1
    have b := (s.cells (a := ⟨tb, 0, none⟩) (vs := ttyV rb fb mb ov lost) (by rw [hA]; simp) (i := 4) rfl).1
    rw [Nat.zero_add] at b
    exact ⟨a, b⟩
  have sd := s.drew
  have d := hc _ sd
  have hperm : A.Perm (regL rb p ++ (cellsH ⟨tb, 0, none⟩ (ttyV rb fb mb ov lost) :: F)) := by
    rw [hA]; exact List.perm_middle.symm
  replace k := aside k
  replace hc := aside hc
  replace hA := aside hA
  go_enter Try.func51, Try.ntmps51
  go_wp2
  go_region_held3 (fun w' => w'.cell? ⟨tb, 0, none⟩ = some (.pointer (some ⟨rb, 0, none⟩)) ∧ w'.cell? ⟨tb, 4, none⟩ = some (.pointer (some ⟨mb, 0, none⟩))) (first | exact d | exact e) (first | (go_at_call 111; refine c_serveDead (sd.perm hperm) _ rfl rfl hp rfl ?_; intro w3 s3; have e := hc.out w3 (s3.perm hperm.symm)))
  all_goals
    go_wp2
    refine bodyPost_end (results_none rfl _ _ _) rfl ?_
    exact k.out _ (s3.perm hperm.symm)
set_option maxRecDepth 100000 in
set_option maxHeartbeats 4000000 in
theorem c_notifiedNo {tb : Nat} {n : Int} (h0 : n ≠ 0) (h1 : n ≠ 1) (k : R (.returned (.tuple #[])) w) : Calls Try.prog 51 #[.pointer (some ⟨tb, 0, none⟩), .int .i64 n] w R := by
  replace k := aside k
  go_enter Try.func51, Try.ntmps51
  go_wp2
  refine bodyPost_end (results_none rfl _ _ _) rfl ?_
  exact k.out
set_option maxRecDepth 100000 in
set_option maxHeartbeats 4000000 in
theorem c_typeDead (s : Sat W0 w H A) {tb rb fb mb : Nat} {ov : Value} {lost : Int} {p : RegP} {f : FifoG} (hp : p.g.bits = 0) (hA : A = cellsH ⟨tb, 0, none⟩ (ttyV rb fb mb ov lost) :: (regL rb p ++ (fifoL ⟨fb, 0, none⟩ f ++ F))) {X : Option Addr} {c : Nat} {ds : List Int}
    {hd : Hp} (hh : Holds w hd) (rd : Rd u8E 1 hd (.slice X ds.length c) ds)
    (k : ∀ w' (f' : FifoG) n, n = min ds.length (f.room - f.xs.length) → Sat W0 w' H (cellsH ⟨tb, 0, none⟩ (ttyV rb fb mb ov lost) :: (regL rb p ++ (fifoL ⟨fb, 0, none⟩ f' ++ F))) → R (.returned (.int .i64 (n : Nat))) w') :
    Calls Try.prog 109 #[.pointer (some ⟨tb, 0, none⟩), .slice X ds.length c] w R := by
  subst hA
  have c1 : w.cell? ⟨tb, 1, none⟩ = some (.pointer (some ⟨fb, 0, none⟩)) := by
    have b := (s.cells (a := ⟨tb, 0, none⟩) (vs := ttyV rb fb mb ov lost) (by simp) (i := 1) rfl).1
    rwa [Nat.zero_add] at b
  have hperm : ∀ f : FifoG, (cellsH ⟨tb, 0, none⟩ (ttyV rb fb mb ov lost) :: (regL rb p ++ (fifoL ⟨fb, 0, none⟩ f ++ F))).Perm (fifoL ⟨fb, 0, none⟩ f ++ (cellsH ⟨tb, 0, none⟩ (ttyV rb fb mb ov lost) :: (regL rb p ++ F))) := fun f => by
    refine List.Perm.trans (List.Perm.cons _ ?_) List.perm_middle.symm
    rw [← List.append_assoc, ← List.append_assoc]
    exact List.Perm.append_right _ List.perm_append_comm
  have s1 := s.perm (hperm f)
  replace k := aside k
  replace rd := aside rd
  go_enter Try.func109, Try.ntmps109
  go_wp2_with fail
  refine c_fifoPut s1 hh rd.out ?_
  intro w3 f' n hn _ _ _ _ s3
  replace hn := aside hn
  go_wp2_with fail
  refine c_notifiedDead (s3.perm (hperm f').symm) hp rfl ?_
  intro w4 s4
  go_wp2
  exact k.out _ _ _ hn.out s4
end
end Go.Proofs.Ytiibiamobkhlbaa
