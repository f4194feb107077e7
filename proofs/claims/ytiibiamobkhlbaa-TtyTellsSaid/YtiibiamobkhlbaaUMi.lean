/-
  TTY, the document's: the console as it begins.
-/
import Derived.Test.YtiibiamobkhlbaaUMf
import Derived.Test.YtiibiamobkhlbaaUMh
import Derived.Test.YtiibiamobkhlbaaUOs
set_option linter.unusedVariables false
set_option linter.unusedSimpArgs false
namespace Go.Proofs.Ytiibiamobkhlbaa
open Go.RowKit
set_option linter.unusedVariables false
set_option linter.unusedSimpArgs false

theorem ttyR_len : ttyR.qs.length = 2 := rfl
theorem ttyR_sp : ttyR.sp = [] := rfl
section
variable {R : Ending → World → Prop} {W0 w : World} {H : Hp} {A F : List Hp}

set_option maxRecDepth 100000 in
set_option maxHeartbeats 4000000 in
theorem c_ref20New (s : Sat W0 w H A) (size : Int) (MB : Option Addr) (mn mc : Nat)
    (k : ∀ w' H' v, (∀ l c, H l = some c → H' l = some c) → (∀ f : FifoG, f.xs = [] → f.room = 4096 → f.lost = 0 → f.taken = 0 → RefT H' v ttyR f [] 0) → Sat W0 w' H' A → R (.returned v) w') :
    Calls Try.prog 52 #[.agg #[.int .u64 size, .slice MB mn mc]] w R := by
  have s1 := (s.alloc (c := [.int .u64 size, .slice MB mn mc]) (t := 32)).alloc (c := [.int .u64 0, .slice none 0 0, .int .u32 0, .int .u32 0, .int .u32 0, .int .u32 0, .int .u32 0, .int .u32 0, .int .u32 0, .int .u64 0, .int .u64 0, .slice none 0 0, .slice none 0 0, .slice none 0 0, .int .i64 0, .int .u64 0, .int .u64 0, .slice none 0 0, .int .u64 0]) (t := 127)
  obtain ⟨Z, hZ⟩ : ∃ Z, w.heap.size = Z := ⟨_, rfl⟩
  obtain ⟨Y, hY⟩ : ∃ y, Z + 1 = y := ⟨_, rfl⟩
  simp only [World.size_alloc, hZ, hY] at s1
  have sd := s1.drew
  have z0 := sd.cel Z 0 0 rfl
  have z1 := sd.cel Z 0 1 rfl
  simp only [Nat.zero_add] at z0 z1
  replace k := aside k
  have hnil : Rd u8E 1 H (.slice none 0 0) ([] : List Int) := Rd.nil
  go_enter Try.func52, Try.ntmps52
  go_wp2
  refine wp_region_L [4] (fun w' => w'.cell? ⟨Z, 0, none⟩ = some (.int .u64 size) ∧ w'.cell? ⟨Z, 1, none⟩ = some (.slice MB mn mc)) (by kernel_rfl) ⟨z0.1, z1.1⟩ (fun hHeld => ?_)
  refine wpAnyL_load (i := 0) (v := ?_) rfl (by kernel_rfl) (by kernel_rfl) (by kernel_rfl) (by kernel_rfl) (by rfl) (by kernel_rfl) (fun _ _ _ h => h) (by assumption) (Or.inl ⟨by rfl, ?_⟩) ?_
  rotate_left
  · (intro w hSw; (try dsimp only at hSw); go_simp; try with_reducible rfl)
  try simp only [Act.put, List.getElem_toArray, List.getElem_cons_succ, List.getElem_cons_zero, List.setIfInBounds_toArray, List.set_cons_zero, List.set_cons_succ]
  refine wpAnyL_pure (i := 2) (v := ?_) rfl (by kernel_rfl) (by kernel_rfl) (by kernel_rfl) (by kernel_rfl) (by rfl) (fun _ _ _ h => h) (Or.inl ⟨by rfl, ?_⟩) (fun _ => by assumption) ?_
  rotate_left
  · (intro w hSw; go_simp; try with_reducible rfl)
  try simp only [Act.put, List.getElem_toArray, List.getElem_cons_succ, List.getElem_cons_zero, List.setIfInBounds_toArray, List.set_cons_zero, List.set_cons_succ]
  refine wpAnyL_ready (rs := [1]) (by kernel_rfl) (by simp) ?_
  refine AllReadyL.cons rfl (fun K hK => ?_) AllReadyL.nil
  try simp only [List.getElem_toArray, List.getElem_cons_succ, List.getElem_cons_zero]
  rw [if_pos (by rfl)]
  go_simp
  refine c_refRegNew2i (id := 3) (off := 805306368) sd rfl rfl (by omega) (by omega) hnil (fun x hx => by cases hx) putN_tty ?_
  intro w3 H3 vR le3 rR s3
  replace rR : RefR H3 vR ttyR := rR
  obtain ⟨Q, qc, S, sn, sc, hvR, r1, r2⟩ := rR
  rw [ttyR_len] at hvR r1
  obtain ⟨i0, hi0⟩ : ∃ y : Int, ((ttyR.id : Nat) : Int) = y := ⟨_, rfl⟩
  obtain ⟨i1, hi1⟩ : ∃ y : Int, ((ttyR.ds : Nat) : Int) = y := ⟨_, rfl⟩
  obtain ⟨i2, hi2⟩ : ∃ y : Int, ((ttyR.rs : Nat) : Int) = y := ⟨_, rfl⟩
  obtain ⟨i3, hi3⟩ : ∃ y : Int, ((ttyR.qsl : Nat) : Int) = y := ⟨_, rfl⟩
  obtain ⟨i4, hi4⟩ : ∃ y : Int, ((ttyR.bits : Nat) : Int) = y := ⟨_, rfl⟩
  obtain ⟨i5, hi5⟩ : ∃ y : Int, ((ttyR.pend : Nat) : Int) = y := ⟨_, rfl⟩
  obtain ⟨i6, hi6⟩ : ∃ y : Int, ((ttyR.gen : Nat) : Int) = y := ⟨_, rfl⟩
  obtain ⟨i7, hi7⟩ : ∃ y : Int, ((ttyR.off : Nat) : Int) = y := ⟨_, rfl⟩
  obtain ⟨i8, hi8⟩ : ∃ y : Int, ((ttyR.agr : Nat) : Int) = y := ⟨_, rfl⟩
  have hvR2 : vR = .agg #[.int .u32 i0, .int .u32 i1, .int .u32 i2, .int .u32 i3, .int .u32 i4, .int .u32 i5, .int .u32 i6, .int .u64 i7, .int .u64 i8, .slice Q 2 qc, .slice S sn sc] := by
    rw [hvR]
    simp only [RegM.dvals, hi0, hi1, hi2, hi3, hi4, hi5, hi6, hi7, hi8]
  clear hvR
  subst hvR2
  go_wp2_with fail
  refine hK.out _ _ ⟨(s3.cel Z 0 0 rfl).1, (s3.cel Z 0 1 rfl).1⟩ (fun hHeld => ?_)
  clear hK K
  try simp only [Act.put, List.getElem_toArray, List.getElem_cons_succ, List.getElem_cons_zero, List.setIfInBounds_toArray, List.set_cons_zero, List.set_cons_succ]
  refine wpAnyL_pure (i := 3) (v := ?_) rfl (by kernel_rfl) (by kernel_rfl) (by kernel_rfl) (by kernel_rfl) (by rfl) (fun _ _ _ h => h) (Or.inl ⟨by rfl, ?_⟩) (fun _ => by assumption) ?_
  rotate_left
  · (intro w hSw; go_simp; try with_reducible rfl)
  try simp only [Act.put, List.getElem_toArray, List.getElem_cons_succ, List.getElem_cons_zero, List.setIfInBounds_toArray, List.set_cons_zero, List.set_cons_succ]
  replace hi0 := aside hi0
  replace hi1 := aside hi1
  replace hi2 := aside hi2
  replace hi3 := aside hi3
  replace hi4 := aside hi4
  replace hi5 := aside hi5
  replace hi6 := aside hi6
  replace hi7 := aside hi7
  replace hi8 := aside hi8
  replace r1 := aside r1
  replace r2 := aside r2
  replace le3 := aside le3
  clear z0 z1 hHeld
  obtain ⟨G, hG⟩ : ∃ g : List Value, [.int .u64 size, .slice MB mn mc, .int .u32 i0, .int .u32 i1, .int .u32 i2, .int .u32 i3, .int .u32 i4, .int .u32 i5, .int .u32 i6, .int .u64 i7, .int .u64 i8, .slice Q 2 qc, .slice S sn sc, .slice none 0 0, .int .i64 4096, .int .u64 0, .int .u64 0, .slice none 0 0, .int .u64 0] = g := ⟨_, rfl⟩
  have hGl : 19 = G.length := by rw [← hG]; rfl
  have hGo : ∀ v ∈ G, v.oneCell' = true := by
    rw [← hG]
    intro v hv
    simp only [List.mem_cons, List.not_mem_nil, or_false] at hv
    rcases hv with h | h | h | h | h | h | h | h | h | h | h | h | h | h | h | h | h | h | h <;> subst h <;> rfl
  have hGi : ((Try.prog).info? 127).map (·.size) = some G.length := by rw [← hGl]; rfl
  replace hGl := aside hGl
  replace hGo := aside hGo
  replace hGi := aside hGi
  refine wpAnyL_ready (rs := [4]) (by kernel_rfl) (by simp) ?_
  refine AllReadyL.last rfl (by rfl) (fun K hK => ?_) (by kernel_rfl) AllReadyL.nil
  try simp only [List.getElem_toArray, List.getElem_cons_succ, List.getElem_cons_zero]
  rw [if_pos (by rfl)]
  refine wp_storeRow 127 (.tmp 2) (.tmp 6) rfl Y (us := G) rfl (by rw [← hG]; rfl) s3 (by rw [← hGl.out]; rfl) hGi.out hGo.out (fun w9 t9 => ?_)
  refine hK.out _ _ ?_
  clear hK K
  try simp only [Act.put, List.getElem_toArray, List.getElem_cons_succ, List.getElem_cons_zero, List.setIfInBounds_toArray, List.set_cons_zero, List.set_cons_succ]
  refine wpAnyL_done (by kernel_rfl) ?_ _
  go_wp2
  refine bodyPost_ret (results_row Try.results52 _ Y rfl t9 Try.underlying127 rfl hGi.out) rfl ?_
  refine k.out _ H3 _ le3.out (fun f h1 h2 h3 h4 => ?_) t9.wk
  subst hG
  refine ⟨size, MB, mn, mc, _, Q, qc, S, sn, sc, none, 0, none, 0, 0, ?_, rfl, by rw [ttyR_len]; exact r1.out, r2.out, by rw [h1]; exact Rd.nil, Rd.nil⟩
  rw [h1, h2, h3, h4, ttyR_len]
  simp only [RegM.dvals, hi0.out, hi1.out, hi2.out, hi3.out, hi4.out, hi5.out, hi6.out, hi7.out, hi8.out]
  rfl
end
end Go.Proofs.Ytiibiamobkhlbaa
