/-
  FifoRooms returns true for every room; no condition.
-/
import Derived.Test.YtmdhhidcbcgbjaaVf
import Derived.Test.YtmdhhidcbcgbjaaVc
namespace Go.Proofs.Ytmdhhidcbcgbjaa
open Go.RowKit
set_option linter.unusedVariables false


set_option maxRecDepth 100000 in
theorem c_fifoAwake {R : Ending → World → Prop} {W0 w : World} {H : Hp} {A : List Hp} (s : Sat W0 w H A) (k : ∀ w', Sat W0 w' H A → R (.returned (.bool true)) w') : Calls Try.prog 18 #[] w R := by
  go_enter Try.func18, Try.ntmps18
  go_wp2_with (first
    | (go_at_call 19; refine c_fifoNew_ok s 2 (by omega) (by omega) ?_; intro w1 f g h1 h2 h3 h4 s1; have hroom : f.room = 2 := by omega)
    | (go_at_call 25; refine c_fifoPut (ds := [1, 2, 3]) s1.alloc (s1.alloc.each _ (List.mem_cons_self ..)).1 (Rd.ofCells (xs := [1, 2, 3]) [] (by decide) (by decide) (by decide)) ?_
       intro w2 f2 n e1 e2 e3 e4 e5 s2
       obtain rfl : n = 2 := by rw [h1, hroom] at e1; simpa using e1
       have l2 : f2.lost = 1 := by rw [e4, h3]; decide
       have x2 : f2.xs.length = 2 := by rw [e2, h1]; rfl
       clear e1 e2 e4)
    | (go_at_call 57; refine c_fifoLost s2 ?_)
    | (go_at_call 21; refine c_fifoLen s2 ?_))
  exact s2.tail.tail1

theorem law_FifoRooms (W : World) {v0 : Value} {x0 : Int} (e0 : intE (look W) x0 [v0]) :
    Calls Try.prog 4 #[v0] W fun e w' => e = .returned (.bool true) ∧ Below W.heap.size W w' := by
  obtain ⟨h0, a0, b0⟩ := e0
  obtain rfl : v0 = _ := List.cons.inj h0 |>.1
  clear h0
  by_cases hlo : x0 < 1
  · go_enter Try.func4, Try.ntmps4
    go_wp2_with (first
      | (go_at_call 18; refine c_fifoAwake (Sat.start W) ?_; intro w1 s1)
      | (go_at_call 19; refine c_fifoNew_bad _ (.inl hlo) ?_))
    go_ret
    exact ⟨rfl, s1.below⟩
  · by_cases hhi : 4096 < x0
    · have h1 : 1 ≤ x0 := by omega
      go_enter Try.func4, Try.ntmps4
      go_wp2_with (first
        | (go_at_call 18; refine c_fifoAwake (Sat.start W) ?_; intro w1 s1)
        | (go_at_call 19; refine c_fifoNew_bad _ (.inr hhi) ?_))
      go_ret
      exact ⟨rfl, s1.below⟩
    · have h1 : 1 ≤ x0 := by omega
      have h2 : x0 ≤ 4096 := by omega
      clear hlo hhi
      go_enter Try.func4, Try.ntmps4
      go_wp2_with (first
        | (go_at_call 18; refine c_fifoAwake (Sat.start W) ?_; intro w1 s1)
        | (go_at_call 19; refine c_fifoNew_ok s1 _ h1 h2 ?_; intro w2 f g g1 g2 g3 g4 s2)
        | (go_at_call 20; refine c_fifoRoom s2 ?_)
        | (go_at_call 21; refine c_fifoLen s2 ?_))
      go_ret
      exact ⟨by simp, s2.below⟩
end Go.Proofs.Ytmdhhidcbcgbjaa
