/-
  BLK: the page's example.
-/
import Derived.Test.YtippipfogbgemaaBe
import Derived.Test.YtippipfogbgemaaVs
namespace Go.Proofs.Ytippipfogbgemaa
open Go.RowKit
set_option linter.unusedVariables false
set_option linter.unusedSimpArgs false

def bkM : Int → Int := putB (fun _ => 0) 2147483648 [99]
def bkS : List SegM := [(2147483648, 16, false), (2147483904, 1, true)]
theorem bk_ga : gaP 0 16 bkS 0 bkM = rdB bkM 2147483648 16 := by decide
theorem bk_99 : ofB ((rdB bkM 2147483648 16).take 4) = 99 := by decide
theorem bk_end : ofB (rdB (scP (wsum bkS - 1) 1 bkS 0 [2] bkM) 2147483904 1) = 2 := by decide
theorem bk_sums : rsum bkS = 16 ∧ wsum bkS = 1 := by decide

section
variable {R : Ending → World → Prop} {W0 w : World} {H : Hp} {A : List Hp}

set_option maxRecDepth 100000 in
set_option maxHeartbeats 4000000 in
theorem c_blkAwake (s : Sat W0 w H A) (k : ∀ w', Sat W0 w' H A → R (.returned (.bool true)) w') :
    Calls Try.prog 34 #[] w R := by
  replace k := aside k
  go_enter Try.func34, Try.ntmps34
  go_wp2_with fail
  refine c_ramNew2 s _ (by omega) ?_
  intro w1 b r hz hm s1
  replace hz := aside hz
  replace hm := aside hm
  go_wp2_with fail
  refine c_diskNew s1 1 false (by omega) ?_
  intro w2 db mb s2
  clear s1
  go_wp2_with fail
  refine c_blkNew s2 b _ ?_
  intro w3 bb rb qb sv h3 own3 s3
  clear s2
  have x0 := s3.cel bb 0 0 rfl
  simp only [Nat.zero_add] at x0
  have hb1 := aside (show sizedP 1 ∧ r.has 2147483648 1 from ⟨by unfold sizedP; omega, by unfold RamG.has; rw [hz.out]; omega⟩)
  go_wp2_with fail
  refine c_ramStore s3 2147483648 1 99 (by omega) (by omega) (by omega) (fun h => absurd hb1.out h) ?_
  intro _ w5 r5 l5 hm5 hz5 hl5 s5
  have hm5' : r5.mem = bkM := by rw [hm5, show r.mem = fun _ => 0 from hm.out]; rfl
  have hz5' : r5.size = 4096 := hz5.trans hz.out
  have hl5' : l5 = none := by
    cases l5 with
    | none => rfl
    | some x => simp [lgs, addW] at hl5
  subst hl5'
  replace hm5' := aside hm5'
  replace hz5' := aside hz5'
  clear s3 hm5 hz5 hl5 x0
  have s6 := s5.alloc (c := [.int .u64 2147483648, .int .u64 16, .bool false, .int .u64 2147483904, .int .u64 1, .bool true]) (t := 71)
  obtain ⟨Y, hY⟩ : ∃ Y, w5.heap.size = Y := ⟨_, rfl⟩
  rw [hY] at s6
  have own : OwnS 3 (.slice (some ⟨Y, 0, none⟩) 2 2) bkS.length (encG bkS) (cellsH ⟨Y, 0, none⟩ [.int .u64 2147483648, .int .u64 16, .bool false, .int .u64 2147483904, .int .u64 1, .bool true]) := OwnS.made (n := 2) (c := 2) (vs := encG bkS) [] (by omega) (by omega) rfl rfl
  have rd := aside own.rdG
  have s7 : Sat W0 _ H (cellsH ⟨bb, 0, none⟩ (blkV rb db b (nameV { data := #[120] }) (.slice none 0 0)) :: (ramL ⟨b, 0, none⟩ (r5, none) ++ (cellsH ⟨Y, 0, none⟩ [.int .u64 2147483648, .int .u64 16, .bool false, .int .u64 2147483904, .int .u64 1, .bool true] :: A))) := s6.wk
  have hbs : bkS.length ≤ 511 ∧ ∀ x ∈ bkS, hasP r5.size x.1 x.2.1 ∧ 0 ≤ x.2.1 := by
    rw [hz5'.out]
    refine ⟨by decide, fun x hx => ?_⟩
    simp only [bkS, List.mem_cons, List.not_mem_nil, or_false] at hx
    rcases hx with rfl | rfl <;> (unfold hasP; simp)
  replace hbs := aside hbs
  clear s5 s6 own
  go_wp2_with fail
  refine c_useOther bb rb db b (nameV_len _) rd.out s7 (fun w' t => t.head) hbs.out (by rw [bk_sums.1]; omega) (by rw [bk_sums.2]; omega) (ds := rdB bkM 2147483648 16) (by rw [hm5'.out]; exact bk_ga) (rdB_len _ _ _) bk_99 (by omega) (by omega) (by omega) (by omega) 0 0 ?_
  intro w8 r8 h8 lv hm8 hz8 s8
  have hm8' := aside (show ofB (rdB r8.mem 2147483904 (1 : Int).toNat) = 2 by rw [hm8, hm5'.out]; exact bk_end)
  have hb8 := aside (show sizedP 1 ∧ r8.has 2147483904 1 from ⟨by unfold sizedP; omega, by unfold RamG.has; rw [hz8, hz5'.out]; omega⟩)
  clear s7 hm8 hz8
  go_wp2_with fail
  refine c_ramLoad s8 2147483904 1 (by omega) (by omega) (fun h => absurd hb8.out h) (fun _ => ?_)
  rw [hm8'.out]
  go_wp2
  exact k.out _ s8.wk
end
end Go.Proofs.Ytippipfogbgemaa
