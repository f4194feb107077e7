/-
  TTY: what it gives of itself; the law's Same.
-/
import Derived.Test.YtiibiamobkhlbaaUMg
import Derived.Test.YtiibiamobkhlbaaUMd
import Derived.Test.YtiibiamobkhlbaaUVgs
import Derived.Test.YtiibiamobkhlbaaUOl
set_option linter.unusedVariables false
set_option linter.unusedSimpArgs false
namespace Go.Proofs.Ytiibiamobkhlbaa
open Go.RowKit
set_option linter.unusedVariables false
set_option linter.unusedSimpArgs false

section
variable {R : Ending → World → Prop} {W0 w : World} {H : Hp} {A F : List Hp}
theorem c_ttyInput {tb fb : Nat} (hc : w.cell? ⟨tb, 1, none⟩ = some (.pointer (some ⟨fb, 0, none⟩))) (k : R (.returned (.pointer (some ⟨fb, 0, none⟩))) w) : Calls Try.prog 108 #[.pointer (some ⟨tb, 0, none⟩)] w R := by
  replace k := aside k
  go_enter Try.func108, Try.ntmps108
  go_wp2
  exact k.out
theorem c_ttyLost {tb : Nat} {lost : Int} (hc : w.cell? ⟨tb, 3, none⟩ = some (.int .u64 lost)) (k : R (.returned (.int .u64 lost)) w) : Calls Try.prog 116 #[.pointer (some ⟨tb, 0, none⟩)] w R := by
  replace k := aside k
  go_enter Try.func116, Try.ntmps116
  go_wp2
  exact k.out
set_option maxRecDepth 100000 in
set_option maxHeartbeats 4000000 in
theorem c_ttyOutput (s : Sat W0 w H A) {tb : Nat} {O : Option Addr} {c : Nat} {out : List Int} (hc : w.cell? ⟨tb, 2, none⟩ = some (.slice O out.length c)) (hr : RowR w O (out.map (Value.int .u8))) (hl : out.length ≤ 9000000000000000000)
    (hb : out.length ≤ 140737488355328) (k : ∀ w' v h, OwnS 1 v out.length (out.map (Value.int .u8)) h → Sat W0 w' H (h :: A) → R (.returned v) w') :
    Calls Try.prog 115 #[.pointer (some ⟨tb, 0, none⟩)] w R := by
  have s0 := s.alloc (c := []) (t := 5)
  replace k := aside k
  have hr2 := aside hr
  have hc2 : (w.alloc (.cells #[] 5)).cell? ⟨tb, 2, none⟩ = some (.slice O out.length c) := by rw [World.cell?_alloc_some _ _ _ (by rw [hc]; rfl)]; exact hc
  clear hr
  go_enter Try.func115, Try.ntmps115
  go_wp2_with (at_builtin; refine append8 rfl (.tmp 3) (.tmp 7) rfl rfl (OwnS.zero 1 _) s0.emp rfl out rfl (rowR_old (f := fun _ => out.map (Value.int .u8)) (fun _ => hr2.out) 0 _) (by omega) ?_; intro A6 c6 w6 h6 own6 s6)
  rw [Nat.zero_add] at own6
  exact k.out _ _ h6 own6 s6.wk

/-- a console as the document's, but for its memory -/
def RefT (H : Hp) (v : Value) (g : RegM) (f : FifoG) (out : List Int) (lost : Int) : Prop :=
  ∃ size MB mn mc cs Q qc S sn sc FB fc OB on oc, v = .agg (.int .u64 size :: .slice MB mn mc :: (cs ++ [.slice FB f.xs.length fc, .int .i64 f.room, .int .u64 f.lost, .int .u64 f.taken, .slice OB on oc, .int .u64 lost])).toArray ∧
    cs = g.dvals (.slice Q g.qs.length qc) (.slice S sn sc) ∧ Rd quE 9 H (.slice Q g.qs.length qc) g.qs ∧ Rd u8E 1 H (.slice S sn sc) g.sp ∧ Rd u8E 1 H (.slice FB f.xs.length fc) f.xs ∧ Rd u8E 1 H (.slice OB on oc) out

set_option maxRecDepth 100000 in
set_option maxHeartbeats 4000000 in
theorem c_ttySame (s : Sat W0 w H A) {tb rb fb mb : Nat} {p : RegP} {f : FifoG} {OA : Option Addr} {OC : Nat} {out : List Int} {oh : Hp} {lost : Int} {v : Value} (own : OwnS 1 (.slice OA out.length OC) out.length (out.map (Value.int .u8)) oh) (hob : ∀ x ∈ out, 0 ≤ x ∧ x ≤ 255) (hol : out.length ≤ 1000000)
    (hA : A = cellsH ⟨tb, 0, none⟩ (ttyV rb fb mb (.slice OA out.length OC) lost) :: oh :: (regL rb p ++ (fifoL ⟨fb, 0, none⟩ f ++ F))) (rt : RefT H v p.g f out lost)
    (k : ∀ w', Sat W0 w' H (cellsH ⟨tb, 0, none⟩ (ttyV rb fb mb (.slice OA out.length OC) lost) :: oh :: (regL rb p ++ (fifoL ⟨fb, 0, none⟩ f ++ F))) → R (.returned (.bool true)) w') :
    Calls Try.prog 53 #[.pointer (some ⟨tb, 0, none⟩), v] w R := by
  subst hA
  obtain ⟨size, MB, mn, mc, cs, Q, qc, S, sn, sc, FB, fc, OB, on, oc, rfl, rfl, r1, r2, r3, r4⟩ := rt
  have rR : RefR H (.agg (p.g.dvals (.slice Q p.g.qs.length qc) (.slice S sn sc)).toArray) p.g := ⟨_, _, _, _, _, rfl, r1, r2⟩
  have rF : RefF H (.agg #[.slice FB f.xs.length fc, .int .i64 f.room, .int .u64 f.lost, .int .u64 f.taken]) f.xs f.room f.lost f.taken := ⟨_, rfl, r3⟩
  obtain ⟨OL, hOL⟩ : ∃ n, out.length = n := ⟨_, rfl⟩
  obtain ⟨QN, hQN⟩ : ∃ n, p.g.qs.length = n := ⟨_, rfl⟩
  obtain ⟨FN, hFN⟩ : ∃ n, f.xs.length = n := ⟨_, rfl⟩
  rw [hOL] at s k own
  rw [hQN] at rR
  rw [hFN] at rF
  simp only [RegM.dvals, List.cons_append, List.nil_append, hQN, hFN] at *
  have s1 := s.alloc (c := [.int .u64 size, .slice MB mn mc, .int .u32 p.g.id, .int .u32 p.g.ds, .int .u32 p.g.rs, .int .u32 p.g.qsl, .int .u32 p.g.bits, .int .u32 p.g.pend, .int .u32 p.g.gen, .int .u64 p.g.off, .int .u64 p.g.agr, .slice Q QN qc, .slice S sn sc, .slice FB FN fc, .int .i64 f.room, .int .u64 f.lost, .int .u64 f.taken, .slice OB on oc, .int .u64 lost]) (t := 127)
  obtain ⟨Z, hZ⟩ : ∃ Z, w.heap.size = Z := ⟨_, rfl⟩
  rw [hZ] at s1
  have hF : ∀ w' A', Sat W0 w' H (cellsH ⟨Z, 0, none⟩ [.int .u64 size, .slice MB mn mc, .int .u32 p.g.id, .int .u32 p.g.ds, .int .u32 p.g.rs, .int .u32 p.g.qsl, .int .u32 p.g.bits, .int .u32 p.g.pend, .int .u32 p.g.gen, .int .u64 p.g.off, .int .u64 p.g.agr, .slice Q QN qc, .slice S sn sc, .slice FB FN fc, .int .i64 f.room, .int .u64 f.lost, .int .u64 f.taken, .slice OB on oc, .int .u64 lost] :: A') → (cellsH ⟨tb, 0, none⟩ (ttyV rb fb mb (.slice OA OL OC) lost)) ∈ A' → (w'.cell? ⟨Z, 0, none⟩ = some (.int .u64 size) ∧ w'.cell? ⟨Z, 1, none⟩ = some (.slice MB mn mc) ∧ w'.cell? ⟨Z, 2, none⟩ = some (.int .u32 p.g.id) ∧ w'.cell? ⟨Z, 3, none⟩ = some (.int .u32 p.g.ds) ∧ w'.cell? ⟨Z, 4, none⟩ = some (.int .u32 p.g.rs) ∧ w'.cell? ⟨Z, 5, none⟩ = some (.int .u32 p.g.qsl) ∧ w'.cell? ⟨Z, 6, none⟩ = some (.int .u32 p.g.bits) ∧ w'.cell? ⟨Z, 7, none⟩ = some (.int .u32 p.g.pend) ∧ w'.cell? ⟨Z, 8, none⟩ = some (.int .u32 p.g.gen) ∧ w'.cell? ⟨Z, 9, none⟩ = some (.int .u64 p.g.off) ∧ w'.cell? ⟨Z, 10, none⟩ = some (.int .u64 p.g.agr) ∧ w'.cell? ⟨Z, 11, none⟩ = some (.slice Q QN qc) ∧ w'.cell? ⟨Z, 12, none⟩ = some (.slice S sn sc) ∧ w'.cell? ⟨Z, 13, none⟩ = some (.slice FB FN fc) ∧ w'.cell? ⟨Z, 14, none⟩ = some (.int .i64 f.room) ∧ w'.cell? ⟨Z, 15, none⟩ = some (.int .u64 f.lost) ∧ w'.cell? ⟨Z, 16, none⟩ = some (.int .u64 f.taken) ∧ w'.cell? ⟨Z, 17, none⟩ = some (.slice OB on oc) ∧ w'.cell? ⟨Z, 18, none⟩ = some (.int .u64 lost)) ∧ (w'.cell? ⟨tb, 0, none⟩ = some (.pointer (some ⟨rb, 0, none⟩)) ∧ w'.cell? ⟨tb, 1, none⟩ = some (.pointer (some ⟨fb, 0, none⟩)) ∧ w'.cell? ⟨tb, 2, none⟩ = some (.slice OA OL OC) ∧ w'.cell? ⟨tb, 3, none⟩ = some (.int .u64 lost)) := fun w' A' t hm => by
    have hm2 := List.mem_cons_of_mem (cellsH ⟨Z, 0, none⟩ [.int .u64 size, .slice MB mn mc, .int .u32 p.g.id, .int .u32 p.g.ds, .int .u32 p.g.rs, .int .u32 p.g.qsl, .int .u32 p.g.bits, .int .u32 p.g.pend, .int .u32 p.g.gen, .int .u64 p.g.off, .int .u64 p.g.agr, .slice Q QN qc, .slice S sn sc, .slice FB FN fc, .int .i64 f.room, .int .u64 f.lost, .int .u64 f.taken, .slice OB on oc, .int .u64 lost]) hm
    have c := fun (j : Nat) (u : Value) (hu : (ttyV rb fb mb (.slice OA OL OC) lost)[j]? = some u) => (t.cells hm2 hu).1
    have d := fun (j : Nat) (u : Value) (hu : [.int .u64 size, .slice MB mn mc, .int .u32 p.g.id, .int .u32 p.g.ds, .int .u32 p.g.rs, .int .u32 p.g.qsl, .int .u32 p.g.bits, .int .u32 p.g.pend, .int .u32 p.g.gen, .int .u64 p.g.off, .int .u64 p.g.agr, .slice Q QN qc, .slice S sn sc, .slice FB FN fc, .int .i64 f.room, .int .u64 f.lost, .int .u64 f.taken, .slice OB on oc, .int .u64 lost][j]? = some u) => (t.c j hu).1
    simp only [Nat.zero_add] at c d
    exact ⟨⟨d 0 _ rfl, d 1 _ rfl, d 2 _ rfl, d 3 _ rfl, d 4 _ rfl, d 5 _ rfl, d 6 _ rfl, d 7 _ rfl, d 8 _ rfl, d 9 _ rfl, d 10 _ rfl, d 11 _ rfl, d 12 _ rfl, d 13 _ rfl, d 14 _ rfl, d 15 _ rfl, d 16 _ rfl, d 17 _ rfl, d 18 _ rfl⟩, ⟨c 0 _ rfl, c 1 _ rfl, c 2 _ rfl, c 3 _ rfl⟩⟩
  have sd := s1.drew
  have gd := hF _ _ sd (by simp)
  replace hF := aside hF
  replace k := aside k
  have rdo := aside (own.rd hob)
  clear s s1
  replace hOL := aside hOL
  replace hQN := aside hQN
  replace hFN := aside hFN
  replace rR := aside rR
  replace rF := aside rF
  replace r1 := aside r1
  replace r2 := aside r2
  replace r3 := aside r3
  replace r4 := aside r4
  replace own := aside own
  go_enter Try.func53, Try.ntmps53
  go_wp2
  refine wp_region_L [] (fun w' => (w'.cell? ⟨Z, 0, none⟩ = some (.int .u64 size) ∧ w'.cell? ⟨Z, 1, none⟩ = some (.slice MB mn mc) ∧ w'.cell? ⟨Z, 2, none⟩ = some (.int .u32 p.g.id) ∧ w'.cell? ⟨Z, 3, none⟩ = some (.int .u32 p.g.ds) ∧ w'.cell? ⟨Z, 4, none⟩ = some (.int .u32 p.g.rs) ∧ w'.cell? ⟨Z, 5, none⟩ = some (.int .u32 p.g.qsl) ∧ w'.cell? ⟨Z, 6, none⟩ = some (.int .u32 p.g.bits) ∧ w'.cell? ⟨Z, 7, none⟩ = some (.int .u32 p.g.pend) ∧ w'.cell? ⟨Z, 8, none⟩ = some (.int .u32 p.g.gen) ∧ w'.cell? ⟨Z, 9, none⟩ = some (.int .u64 p.g.off) ∧ w'.cell? ⟨Z, 10, none⟩ = some (.int .u64 p.g.agr) ∧ w'.cell? ⟨Z, 11, none⟩ = some (.slice Q QN qc) ∧ w'.cell? ⟨Z, 12, none⟩ = some (.slice S sn sc) ∧ w'.cell? ⟨Z, 13, none⟩ = some (.slice FB FN fc) ∧ w'.cell? ⟨Z, 14, none⟩ = some (.int .i64 f.room) ∧ w'.cell? ⟨Z, 15, none⟩ = some (.int .u64 f.lost) ∧ w'.cell? ⟨Z, 16, none⟩ = some (.int .u64 f.taken) ∧ w'.cell? ⟨Z, 17, none⟩ = some (.slice OB on oc) ∧ w'.cell? ⟨Z, 18, none⟩ = some (.int .u64 lost)) ∧ (w'.cell? ⟨tb, 0, none⟩ = some (.pointer (some ⟨rb, 0, none⟩)) ∧ w'.cell? ⟨tb, 1, none⟩ = some (.pointer (some ⟨fb, 0, none⟩)) ∧ w'.cell? ⟨tb, 2, none⟩ = some (.slice OA OL OC) ∧ w'.cell? ⟨tb, 3, none⟩ = some (.int .u64 lost))) (by kernel_rfl) gd (fun hHeld => ?_)
  refine wpAnyL_pure (i := 0) (v := ?_) rfl (by kernel_rfl) (by kernel_rfl) (by kernel_rfl) (by kernel_rfl) (by rfl) (fun _ _ _ h => h) (Or.inl ⟨by rfl, ?_⟩) (fun _ => by assumption) ?_
  rotate_left
  · (intro w hSw; go_simp; try with_reducible rfl)
  try simp only [Act.put, List.getElem_toArray, List.getElem_cons_succ, List.getElem_cons_zero, List.setIfInBounds_toArray, List.set_cons_zero, List.set_cons_succ]
  refine wpAnyL_pure (i := 1) (v := ?_) rfl (by kernel_rfl) (by kernel_rfl) (by kernel_rfl) (by kernel_rfl) (by rfl) (fun _ _ _ h => h) (Or.inl ⟨by rfl, ?_⟩) (fun _ => by assumption) ?_
  rotate_left
  · (intro w hSw; go_simp; try with_reducible rfl)
  try simp only [Act.put, List.getElem_toArray, List.getElem_cons_succ, List.getElem_cons_zero, List.setIfInBounds_toArray, List.set_cons_zero, List.set_cons_succ]
  refine wpAnyL_pure (i := 2) (v := ?_) rfl (by kernel_rfl) (by kernel_rfl) (by kernel_rfl) (by kernel_rfl) (by rfl) (fun _ _ _ h => h) (Or.inl ⟨by rfl, ?_⟩) (fun _ => by assumption) ?_
  rotate_left
  · (intro w hSw; go_simp; try with_reducible rfl)
  try simp only [Act.put, List.getElem_toArray, List.getElem_cons_succ, List.getElem_cons_zero, List.setIfInBounds_toArray, List.set_cons_zero, List.set_cons_succ]
  refine wpAnyL_load (i := 3) (v := ?_) rfl (by kernel_rfl) (by kernel_rfl) (by kernel_rfl) (by kernel_rfl) (by rfl) (by kernel_rfl) (fun _ _ _ h => h) (by assumption) (Or.inl ⟨by rfl, ?_⟩) ?_
  rotate_left
  · (intro w hSw; (try dsimp only at hSw); go_simp; try with_reducible rfl)
  try simp only [Act.put, List.getElem_toArray, List.getElem_cons_succ, List.getElem_cons_zero, List.setIfInBounds_toArray, List.set_cons_zero, List.set_cons_succ]
  refine wpAnyL_pure (i := 4) (v := ?_) rfl (by kernel_rfl) (by kernel_rfl) (by kernel_rfl) (by kernel_rfl) (by rfl) (fun _ _ _ h => h) (Or.inl ⟨by rfl, ?_⟩) (fun _ => by assumption) ?_
  rotate_left
  · (intro w hSw; go_simp; try with_reducible rfl)
  try simp only [Act.put, List.getElem_toArray, List.getElem_cons_succ, List.getElem_cons_zero, List.setIfInBounds_toArray, List.set_cons_zero, List.set_cons_succ]
  refine wpAnyL_load (i := 5) (v := ?_) rfl (by kernel_rfl) (by kernel_rfl) (by kernel_rfl) (by kernel_rfl) (by rfl) (by kernel_rfl) (fun _ _ _ h => h) (by assumption) (Or.inl ⟨by rfl, ?_⟩) ?_
  rotate_left
  · (intro w hSw; (try dsimp only at hSw); go_simp; try with_reducible rfl)
  try simp only [Act.put, List.getElem_toArray, List.getElem_cons_succ, List.getElem_cons_zero, List.setIfInBounds_toArray, List.set_cons_zero, List.set_cons_succ]
  refine wpAnyL_ready (rs := [6]) (by kernel_rfl) (by simp) ?_
  refine AllReadyL.cons rfl (fun K hK => ?_) AllReadyL.nil
  try simp only [List.getElem_toArray, List.getElem_cons_succ, List.getElem_cons_zero]
  rw [if_pos (by rfl)]
  go_simp
  refine c_regSame (rb := rb) (p := p) sd rR.out ?_
  intro wA sA
  go_wp2_with fail
  refine hK.out _ _ (hF.out _ _ (Sat.pull (h := cellsH ⟨Z, 0, none⟩ [.int .u64 size, .slice MB mn mc, .int .u32 p.g.id, .int .u32 p.g.ds, .int .u32 p.g.rs, .int .u32 p.g.qsl, .int .u32 p.g.bits, .int .u32 p.g.pend, .int .u32 p.g.gen, .int .u64 p.g.off, .int .u64 p.g.agr, .slice Q QN qc, .slice S sn sc, .slice FB FN fc, .int .i64 f.room, .int .u64 f.lost, .int .u64 f.taken, .slice OB on oc, .int .u64 lost]) sA) (by simp)) (fun hHeld => ?_)
  clear hK K
  try simp only [Act.put, List.getElem_toArray, List.getElem_cons_succ, List.getElem_cons_zero, List.setIfInBounds_toArray, List.set_cons_zero, List.set_cons_succ]
  refine wpAnyL_pure (i := 7) (v := ?_) rfl (by kernel_rfl) (by kernel_rfl) (by kernel_rfl) (by kernel_rfl) (by rfl) (fun _ _ _ h => h) (Or.inl ⟨by rfl, ?_⟩) (fun _ => by assumption) ?_
  rotate_left
  · (intro w hSw; go_simp; try with_reducible rfl)
  try simp only [Act.put, List.getElem_toArray, List.getElem_cons_succ, List.getElem_cons_zero, List.setIfInBounds_toArray, List.set_cons_zero, List.set_cons_succ]
  refine wpAnyL_pure (i := 8) (v := ?_) rfl (by kernel_rfl) (by kernel_rfl) (by kernel_rfl) (by kernel_rfl) (by rfl) (fun _ _ _ h => h) (Or.inl ⟨by rfl, ?_⟩) (fun _ => by assumption) ?_
  rotate_left
  · (intro w hSw; go_simp; try with_reducible rfl)
  try simp only [Act.put, List.getElem_toArray, List.getElem_cons_succ, List.getElem_cons_zero, List.setIfInBounds_toArray, List.set_cons_zero, List.set_cons_succ]
  refine wpAnyL_pure (i := 10) (v := ?_) rfl (by kernel_rfl) (by kernel_rfl) (by kernel_rfl) (by kernel_rfl) (by rfl) (fun _ _ _ h => h) (Or.inl ⟨by rfl, ?_⟩) (fun _ => by assumption) ?_
  rotate_left
  · (intro w hSw; go_simp; try with_reducible rfl)
  try simp only [Act.put, List.getElem_toArray, List.getElem_cons_succ, List.getElem_cons_zero, List.setIfInBounds_toArray, List.set_cons_zero, List.set_cons_succ]
  refine wpAnyL_load (i := 11) (v := ?_) rfl (by kernel_rfl) (by kernel_rfl) (by kernel_rfl) (by kernel_rfl) (by rfl) (by kernel_rfl) (fun _ _ _ h => h) (by assumption) (Or.inl ⟨by rfl, ?_⟩) ?_
  rotate_left
  · (intro w hSw; (try dsimp only at hSw); go_simp; try with_reducible rfl)
  try simp only [Act.put, List.getElem_toArray, List.getElem_cons_succ, List.getElem_cons_zero, List.setIfInBounds_toArray, List.set_cons_zero, List.set_cons_succ]
  refine wpAnyL_ready (rs := [9]) (by kernel_rfl) (by simp) ?_
  refine AllReadyL.cons rfl (fun K hK => ?_) AllReadyL.nil
  try simp only [List.getElem_toArray, List.getElem_cons_succ, List.getElem_cons_zero]
  rw [if_pos (by rfl)]
  go_simp
  refine c_ttyInput (hHeld.2.2.1) ?_
  go_wp2_with fail
  refine hK.out _ _ hHeld (fun hHeld => ?_)
  clear hK K
  try simp only [Act.put, List.getElem_toArray, List.getElem_cons_succ, List.getElem_cons_zero, List.setIfInBounds_toArray, List.set_cons_zero, List.set_cons_succ]
  refine wpAnyL_ready (rs := [12]) (by kernel_rfl) (by simp) ?_
  refine AllReadyL.cons rfl (fun K hK => ?_) AllReadyL.nil
  try simp only [List.getElem_toArray, List.getElem_cons_succ, List.getElem_cons_zero]
  rw [if_pos (by rfl)]
  go_simp
  refine c_lawFSame (b := fb) (f := f) sA rF.out ?_
  intro wB sB
  go_wp2_with fail
  refine hK.out _ _ (hF.out _ _ (Sat.pull (h := cellsH ⟨Z, 0, none⟩ [.int .u64 size, .slice MB mn mc, .int .u32 p.g.id, .int .u32 p.g.ds, .int .u32 p.g.rs, .int .u32 p.g.qsl, .int .u32 p.g.bits, .int .u32 p.g.pend, .int .u32 p.g.gen, .int .u64 p.g.off, .int .u64 p.g.agr, .slice Q QN qc, .slice S sn sc, .slice FB FN fc, .int .i64 f.room, .int .u64 f.lost, .int .u64 f.taken, .slice OB on oc, .int .u64 lost]) sB) (by simp)) (fun hHeld => ?_)
  clear hK K
  try simp only [Act.put, List.getElem_toArray, List.getElem_cons_succ, List.getElem_cons_zero, List.setIfInBounds_toArray, List.set_cons_zero, List.set_cons_succ]
  refine wpAnyL_pure (i := 13) (v := ?_) rfl (by kernel_rfl) (by kernel_rfl) (by kernel_rfl) (by kernel_rfl) (by rfl) (fun _ _ _ h => h) (Or.inl ⟨by rfl, ?_⟩) (fun _ => by assumption) ?_
  rotate_left
  · (intro w hSw; go_simp; try with_reducible rfl)
  try simp only [Act.put, List.getElem_toArray, List.getElem_cons_succ, List.getElem_cons_zero, List.setIfInBounds_toArray, List.set_cons_zero, List.set_cons_succ]
  refine wpAnyL_pure (i := 14) (v := ?_) rfl (by kernel_rfl) (by kernel_rfl) (by kernel_rfl) (by kernel_rfl) (by rfl) (fun _ _ _ h => h) (Or.inl ⟨by rfl, ?_⟩) (fun _ => by assumption) ?_
  rotate_left
  · (intro w hSw; go_simp; try with_reducible rfl)
  try simp only [Act.put, List.getElem_toArray, List.getElem_cons_succ, List.getElem_cons_zero, List.setIfInBounds_toArray, List.set_cons_zero, List.set_cons_succ]
  refine wpAnyL_pure (i := 15) (v := ?_) rfl (by kernel_rfl) (by kernel_rfl) (by kernel_rfl) (by kernel_rfl) (by rfl) (fun _ _ _ h => h) (Or.inl ⟨by rfl, ?_⟩) (fun _ => by assumption) ?_
  rotate_left
  · (intro w hSw; go_simp; try with_reducible rfl)
  try simp only [Act.put, List.getElem_toArray, List.getElem_cons_succ, List.getElem_cons_zero, List.setIfInBounds_toArray, List.set_cons_zero, List.set_cons_succ]
  refine wpAnyL_pure (i := 17) (v := ?_) rfl (by kernel_rfl) (by kernel_rfl) (by kernel_rfl) (by kernel_rfl) (by rfl) (fun _ _ _ h => h) (Or.inl ⟨by rfl, ?_⟩) (fun _ => by assumption) ?_
  rotate_left
  · (intro w hSw; go_simp; try with_reducible rfl)
  try simp only [Act.put, List.getElem_toArray, List.getElem_cons_succ, List.getElem_cons_zero, List.setIfInBounds_toArray, List.set_cons_zero, List.set_cons_succ]
  refine wpAnyL_load (i := 18) (v := ?_) rfl (by kernel_rfl) (by kernel_rfl) (by kernel_rfl) (by kernel_rfl) (by rfl) (by kernel_rfl) (fun _ _ _ h => h) (by assumption) (Or.inl ⟨by rfl, ?_⟩) ?_
  rotate_left
  · (intro w hSw; (try dsimp only at hSw); go_simp; try with_reducible rfl)
  try simp only [Act.put, List.getElem_toArray, List.getElem_cons_succ, List.getElem_cons_zero, List.setIfInBounds_toArray, List.set_cons_zero, List.set_cons_succ]
  refine wpAnyL_ready (rs := [16]) (by kernel_rfl) (by simp) ?_
  refine AllReadyL.cons rfl (fun K hK => ?_) AllReadyL.nil
  try simp only [List.getElem_toArray, List.getElem_cons_succ, List.getElem_cons_zero]
  rw [if_pos (by rfl)]
  go_simp
  have hrw := OwnS.row0 own.out (Sat.pull (h := oh) sB).head OL
  rw [List.take_of_length_le (by rw [List.length_map, hOL.out]; exact Nat.le_refl _)] at hrw
  have hc2 := hHeld.2.2.2.1
  rw [← hOL.out] at hc2
  refine c_ttyOutput sB hc2 hrw (by omega) (by omega) ?_
  intro wC vC hC ownC sC
  have rdC := ownC.rd hob
  go_wp2_with fail
  refine hK.out _ _ (hF.out _ _ (Sat.pull (h := cellsH ⟨Z, 0, none⟩ [.int .u64 size, .slice MB mn mc, .int .u32 p.g.id, .int .u32 p.g.ds, .int .u32 p.g.rs, .int .u32 p.g.qsl, .int .u32 p.g.bits, .int .u32 p.g.pend, .int .u32 p.g.gen, .int .u64 p.g.off, .int .u64 p.g.agr, .slice Q QN qc, .slice S sn sc, .slice FB FN fc, .int .i64 f.room, .int .u64 f.lost, .int .u64 f.taken, .slice OB on oc, .int .u64 lost]) sC) (by simp)) (fun hHeld => ?_)
  clear hK K
  try simp only [Act.put, List.getElem_toArray, List.getElem_cons_succ, List.getElem_cons_zero, List.setIfInBounds_toArray, List.set_cons_zero, List.set_cons_succ]
  refine wpAnyL_ready (rs := [19]) (by kernel_rfl) (by simp) ?_
  refine AllReadyL.cons rfl (fun K hK => ?_) AllReadyL.nil
  try simp only [List.getElem_toArray, List.getElem_cons_succ, List.getElem_cons_zero]
  rw [if_pos (by rfl)]
  go_simp
  refine c_Bytes (h1 := hC) (h2 := H) sC.head sC.ro rdC r4.out ?_
  intro n5
  rw [show decide (out = out) = true from decide_eq_true rfl]
  have sD := sC.drewN n5
  go_wp2_with fail
  refine hK.out _ _ (hF.out _ _ (Sat.pull (h := cellsH ⟨Z, 0, none⟩ [.int .u64 size, .slice MB mn mc, .int .u32 p.g.id, .int .u32 p.g.ds, .int .u32 p.g.rs, .int .u32 p.g.qsl, .int .u32 p.g.bits, .int .u32 p.g.pend, .int .u32 p.g.gen, .int .u64 p.g.off, .int .u64 p.g.agr, .slice Q QN qc, .slice S sn sc, .slice FB FN fc, .int .i64 f.room, .int .u64 f.lost, .int .u64 f.taken, .slice OB on oc, .int .u64 lost]) sD) (by simp)) (fun hHeld => ?_)
  clear hK K
  try simp only [Act.put, List.getElem_toArray, List.getElem_cons_succ, List.getElem_cons_zero, List.setIfInBounds_toArray, List.set_cons_zero, List.set_cons_succ]
  refine wpAnyL_pure (i := 20) (v := ?_) rfl (by kernel_rfl) (by kernel_rfl) (by kernel_rfl) (by kernel_rfl) (by rfl) (fun _ _ _ h => h) (Or.inl ⟨by rfl, ?_⟩) (fun _ => by assumption) ?_
  rotate_left
  · (intro w hSw; go_simp; try with_reducible rfl)
  try simp only [Act.put, List.getElem_toArray, List.getElem_cons_succ, List.getElem_cons_zero, List.setIfInBounds_toArray, List.set_cons_zero, List.set_cons_succ]
  refine wpAnyL_pure (i := 21) (v := ?_) rfl (by kernel_rfl) (by kernel_rfl) (by kernel_rfl) (by kernel_rfl) (by rfl) (fun _ _ _ h => h) (Or.inl ⟨by rfl, ?_⟩) (fun _ => by assumption) ?_
  rotate_left
  · (intro w hSw; go_simp; try with_reducible rfl)
  try simp only [Act.put, List.getElem_toArray, List.getElem_cons_succ, List.getElem_cons_zero, List.setIfInBounds_toArray, List.set_cons_zero, List.set_cons_succ]
  refine wpAnyL_pure (i := 22) (v := ?_) rfl (by kernel_rfl) (by kernel_rfl) (by kernel_rfl) (by kernel_rfl) (by rfl) (fun _ _ _ h => h) (Or.inl ⟨by rfl, ?_⟩) (fun _ => by assumption) ?_
  rotate_left
  · (intro w hSw; go_simp; try with_reducible rfl)
  try simp only [Act.put, List.getElem_toArray, List.getElem_cons_succ, List.getElem_cons_zero, List.setIfInBounds_toArray, List.set_cons_zero, List.set_cons_succ]
  refine wpAnyL_pure (i := 24) (v := ?_) rfl (by kernel_rfl) (by kernel_rfl) (by kernel_rfl) (by kernel_rfl) (by rfl) (fun _ _ _ h => h) (Or.inl ⟨by rfl, ?_⟩) (fun _ => by assumption) ?_
  rotate_left
  · (intro w hSw; go_simp; try with_reducible rfl)
  try simp only [Act.put, List.getElem_toArray, List.getElem_cons_succ, List.getElem_cons_zero, List.setIfInBounds_toArray, List.set_cons_zero, List.set_cons_succ]
  refine wpAnyL_load (i := 25) (v := ?_) rfl (by kernel_rfl) (by kernel_rfl) (by kernel_rfl) (by kernel_rfl) (by rfl) (by kernel_rfl) (fun _ _ _ h => h) (by assumption) (Or.inl ⟨by rfl, ?_⟩) ?_
  rotate_left
  · (intro w hSw; (try dsimp only at hSw); go_simp; try with_reducible rfl)
  try simp only [Act.put, List.getElem_toArray, List.getElem_cons_succ, List.getElem_cons_zero, List.setIfInBounds_toArray, List.set_cons_zero, List.set_cons_succ]
  refine wpAnyL_ready (rs := [23]) (by kernel_rfl) (by simp) ?_
  refine AllReadyL.cons rfl (fun K hK => ?_) AllReadyL.nil
  try simp only [List.getElem_toArray, List.getElem_cons_succ, List.getElem_cons_zero]
  rw [if_pos (by rfl)]
  go_simp
  refine c_ttyLost (hHeld.2.2.2.2) ?_
  go_wp2_with fail
  refine hK.out _ _ hHeld (fun hHeld => ?_)
  clear hK K
  try simp only [Act.put, List.getElem_toArray, List.getElem_cons_succ, List.getElem_cons_zero, List.setIfInBounds_toArray, List.set_cons_zero, List.set_cons_succ]
  refine wpAnyL_pure (i := 26) (v := ?_) rfl (by kernel_rfl) (by kernel_rfl) (by kernel_rfl) (by kernel_rfl) (by rfl) (fun _ _ _ h => h) (Or.inl ⟨by rfl, ?_⟩) (fun _ => by assumption) ?_
  rotate_left
  · (intro w hSw; go_simp; try with_reducible rfl)
  try simp only [Act.put, List.getElem_toArray, List.getElem_cons_succ, List.getElem_cons_zero, List.setIfInBounds_toArray, List.set_cons_zero, List.set_cons_succ]
  refine wpAnyL_pure (i := 27) (v := ?_) rfl (by kernel_rfl) (by kernel_rfl) (by kernel_rfl) (by kernel_rfl) (by rfl) (fun _ _ _ h => h) (Or.inl ⟨by rfl, ?_⟩) (fun _ => by assumption) ?_
  rotate_left
  · (intro w hSw; go_simp; try with_reducible rfl)
  try simp only [Act.put, List.getElem_toArray, List.getElem_cons_succ, List.getElem_cons_zero, List.setIfInBounds_toArray, List.set_cons_zero, List.set_cons_succ]
  refine wpAnyL_pure (i := 28) (v := ?_) rfl (by kernel_rfl) (by kernel_rfl) (by kernel_rfl) (by kernel_rfl) (by rfl) (fun _ _ _ h => h) (Or.inl ⟨by rfl, ?_⟩) (fun _ => by assumption) ?_
  rotate_left
  · (intro w hSw; go_simp; try with_reducible rfl)
  try simp only [Act.put, List.getElem_toArray, List.getElem_cons_succ, List.getElem_cons_zero, List.setIfInBounds_toArray, List.set_cons_zero, List.set_cons_succ]
  refine wpAnyL_done (by kernel_rfl) ?_ _
  clear hHeld gd
  go_wp2
  exact k.out _ sD.wk
end
end Go.Proofs.Ytiibiamobkhlbaa
