/-
  THE LAW PlicPlays: any calls in any order do what the page says.
-/
import Derived.Test.YtohccblfnjampaaPq
namespace Go.Proofs.Ytohccblfnjampaa
open Go.RowKit
set_option linter.unusedVariables false
set_option linter.unusedSimpArgs false

set_option maxRecDepth 100000 in
set_option maxHeartbeats 4000000 in
theorem law_PlicPlays (W : World) {v0 : Value} {qs : List OpP} (e0 : sliceE opPE 6 (look W) qs [v0]) :
    Calls Try.prog 9 #[v0] W fun e w' => e = .returned (.bool true) ∧ Below W.heap.size W w' := by
  obtain ⟨_, hv0, rq⟩ := e0
  obtain rfl := (List.cons.inj hv0).1
  clear hv0
  go_enter Try.func9, Try.ntmps9
  go_wp2_with fail
  refine c_plAwake (Sat.start W) ?_
  intro w1 t1
  go_wp2_with fail
  refine c_plPlayed t1 rq ?_
  intro S w2 t2
  clear t1
  have t3 := (t2.alloc (c := pl0.enc) (t := 98)).alloc (c := pl0.ref) (t := 104)
  rw [pl0_enc, pl0_ref] at t3
  obtain ⟨Z, hZ⟩ : ∃ Z, w2.heap.size = Z := ⟨_, rfl⟩
  simp only [World.size_alloc] at t3
  rw [hZ] at t3
  have hsl := S.r_size
  have hsn := S.ref_len
  have hso := S.r_one
  have hcl := S.c_size
  have hcn := S.enc_len
  have hco := S.c_one
  have hlz := pl0.ref_len
  have hcz := pl0.enc_len
  obtain ⟨L, hL⟩ : ∃ L, S.ref = L := ⟨_, rfl⟩
  obtain ⟨C, hC⟩ : ∃ L, S.enc = L := ⟨_, rfl⟩
  rw [hL] at hsl hsn hso ⊢
  rw [hC] at hcl hcn hco ⊢
  obtain ⟨LZ, hLZ⟩ : ∃ L, pl0.ref = L := ⟨_, rfl⟩
  obtain ⟨CZ, hCZ⟩ : ∃ L, pl0.enc = L := ⟨_, rfl⟩
  rw [hLZ] at t3 hlz
  rw [hCZ] at t3 hcz
  clear t2
  replace hL := aside hL
  replace hC := aside hC
  replace hsl := aside hsl
  replace hsn := aside hsn
  replace hso := aside hso
  replace hcl := aside hcl
  replace hcn := aside hcn
  replace hco := aside hco
  replace hlz := aside hlz
  replace hcz := aside hcz
  replace hLZ := aside hLZ
  replace hCZ := aside hCZ
  go_wp2_with (first
    | (refine wpList_storeS rfl 98 (.tmp 3) (.tmp 11) rfl Z 0 rfl rfl t3.swap (by rw [hcz.out, hcn.out]; decide) hcl.out hco.out ?_; intro w4 t4; rw [setR_all (by rw [hcz.out, hcn.out])] at t4)
    | (refine wpList_storeS rfl 104 (.tmp 4) (.tmp 12) rfl (Z + 1) 0 rfl rfl t4.swap (by rw [hlz.out, hsn.out]; decide) hsl.out hso.out ?_; intro w5 t5; rw [setR_all (by rw [hlz.out, hsn.out])] at t5))
  go_ret
  exact ⟨rfl, t5.below⟩
end Go.Proofs.Ytohccblfnjampaa
