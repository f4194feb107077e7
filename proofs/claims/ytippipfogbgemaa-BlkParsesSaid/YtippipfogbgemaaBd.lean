/-
  BLK: a request of no known kind.
-/
import Derived.Test.YtippipfogbgemaaBc
import Derived.Test.YtippipfogbgemaaBa
import Derived.Test.YtippipfogbgemaaCp
namespace Go.Proofs.Ytippipfogbgemaa
open Go.RowKit
set_option linter.unusedVariables false
set_option linter.unusedSimpArgs false

theorem blkV_c2 {rb db mb : Nat} {nm : List Value} {log : Value} : (blkV rb db mb nm log)[2]? = some (.pointer (some ⟨mb, 0, none⟩)) := rfl
theorem blkV_c23 {rb db mb : Nat} {nm : List Value} {log : Value} (h : nm.length = 20) : (blkV rb db mb nm log)[23]? = some log := by
  unfold blkV
  simp only [List.getElem?_cons_succ]
  rw [List.getElem?_append_right (by omega), h]
  rfl
theorem blkV_set23 {rb db mb : Nat} {nm : List Value} {log log' : Value} (h : nm.length = 20) : (blkV rb db mb nm log).set 23 log' = blkV rb db mb nm log' := by
  unfold blkV
  simp only [List.set_cons_succ]
  rw [List.set_append_right _ _ (by omega), h]
  rfl
theorem blkV_len {rb db mb : Nat} {nm : List Value} {log : Value} (h : nm.length = 20) : (blkV rb db mb nm log).length = 24 := by
  unfold blkV; simp [h]

section
variable {R : Ending → World → Prop} {W0 w : World} {H : Hp} {A F : List Hp}

set_option maxRecDepth 100000 in
set_option maxHeartbeats 4000000 in
theorem c_reqOther (s : Sat W0 w H A) (p : Value) (B : Option Addr) (n c : Nat) (ta tl kd sec r v : Int) (h0 : kd ≠ 0) (h1 : kd ≠ 1) (h4 : kd ≠ 4) (h8 : kd ≠ 8)
    (k : ∀ w', Sat W0 w' H A → R (.returned (.tuple #[.int .u8 2, .int .u32 0])) w') :
    Calls Try.prog 96 #[p, .agg #[.slice B n c, .int .u64 ta, .int .u64 tl], .agg #[.int .u32 kd, .int .u64 sec], .int .u64 r, .int .u64 v] w R := by
  have s1 := (s.alloc (c := [.slice B n c, .int .u64 ta, .int .u64 tl]) (t := 56)).alloc (c := [.int .u32 kd, .int .u64 sec]) (t := 79)
  obtain ⟨Z, hZ⟩ : ∃ Z, w.heap.size = Z := ⟨_, rfl⟩
  simp only [World.size_alloc] at s1
  rw [hZ] at s1
  have b0 : (kd == 0) = false := by simp [h0]
  have b1 : (kd == 1) = false := by simp [h1]
  have b4 : (kd == 4) = false := by simp [h4]
  have b8 : (kd == 8) = false := by simp [h8]
  have y0 := s1.cel Z 0 0 rfl
  have y1 := s1.cel Z 0 1 rfl
  have y2 := s1.cel Z 0 2 rfl
  simp only [Nat.zero_add] at y0 y1 y2
  have z0 := s1.cel (Z+1) 0 0 rfl
  have z1 := s1.cel (Z+1) 0 1 rfl
  simp only [Nat.zero_add] at z0 z1
  replace k := aside k
  clear s h0 h1 h4 h8
  go_enter Try.func96, Try.ntmps96
  go_wp2
  exact k.out _ s1.tail1.tail1
end
end Go.Proofs.Ytippipfogbgemaa
