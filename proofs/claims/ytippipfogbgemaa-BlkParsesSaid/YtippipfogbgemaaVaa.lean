/-
  THE GROUND, more: a piece of cells is pulled to the front by its place. Plain theorems over any program.
-/
import Derived.Test.YtippipfogbgemaaVd
namespace Go.Proofs.Ytippipfogbgemaa
open Go.RowKit

class FrC (A : List Hp) (a : Addr) (vs : outParam (List Value)) (F : outParam (List Hp)) : Prop where
  perm : A.Perm (cellsH a vs :: F)
instance (priority := high) FrC.head (a : Addr) (vs : List Value) (F : List Hp) : FrC (cellsH a vs :: F) a vs F := ⟨List.Perm.refl _⟩
instance FrC.next (a : Addr) (vs : List Value) (x : Hp) (A F : List Hp) [e : FrC A a vs F] : FrC (x :: A) a vs (x :: F) := ⟨(List.Perm.cons x e.perm).trans (List.Perm.swap _ x F)⟩
instance FrC.app (a : Addr) (vs : List Value) (X A F : List Hp) [e : FrC A a vs F] : FrC (X ++ A) a vs (X ++ F) := ⟨(List.Perm.append_left X e.perm).trans List.perm_middle⟩

theorem Sat.pc {W0 w : World} {H : Hp} {A : List Hp} (s : Sat W0 w H A) (b o : Nat) {vs : List Value} {F : List Hp} [e : FrC A ⟨b, o, none⟩ vs F] : Sat W0 w H (cellsH ⟨b, o, none⟩ vs :: F) := s.perm e.perm

/-- what the world says of the cells of a piece, wherever it stands -/
theorem Sat.cof {W0 w : World} {H : Hp} {A : List Hp} (s : Sat W0 w H A) (b o : Nat) {vs : List Value} [e : HasC A ⟨b, o, none⟩ vs] (i n : Nat) {v : Value} (hn : o + i = n) (h : vs[i]? = some v) :
    w.cell? ⟨b, n, none⟩ = some v ∧ w.frozen? ⟨b, n, none⟩ = false := hn ▸ s.cel b o i h
end Go.Proofs.Ytippipfogbgemaa
