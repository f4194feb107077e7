/-
  SLICES THAT ARE READ: 'Rd E size h v xs': the slice v reads as the list xs in the heaplet h, each element by E in 'size' cells. Plain theorems over any program.
-/
import Derived.Test.YtippipfogbgemaaVa
import Derived.Deep.LoopGhost
import Derived.Deep.QuietTactic
import Derived.BigQuiet
import Derived.Deep.DeepCutAuto
namespace Go.Proofs.Ytippipfogbgemaa
open Go.RowKit

/-- how an element lies in its cells -/
abbrev El (α : Type) := Hp → α → List Value → Prop

def u8E : El Int := fun _ x vs => vs = [.int .u8 x] ∧ 0 ≤ x ∧ x ≤ 255
def intE : El Int := fun _ x vs => vs = [.int .i64 x] ∧ -9223372036854775808 ≤ x ∧ x ≤ 9223372036854775807
def u64E : El Int := fun _ x vs => vs = [.int .u64 x] ∧ 0 ≤ x ∧ x ≤ 18446744073709551615
def u16E : El Int := fun _ x vs => vs = [.int .u16 x] ∧ 0 ≤ x ∧ x ≤ 65535

def u32E : El Int := fun _ x vs => vs = [.int .u32 x] ∧ 0 ≤ x ∧ x ≤ 4294967295

def Rd {α : Type} (E : El α) (size : Nat) (h : Hp) (v : Value) (xs : List α) : Prop :=
  ∃ A c, v = .slice A xs.length c ∧ xs.length ≤ c ∧ c ≤ 9223372036854775807 ∧ ∀ i x, xs[i]? = some x → ∃ b o vs, A = some ⟨b, o, none⟩ ∧ E h x vs ∧ vs.length = size ∧
    ∀ j u, vs[j]? = some u → ∃ fr, h (.cell b (o + i * size + j)) = some (.val u fr)

section
variable {α : Type} {E : El α} {size : Nat} {h k : Hp} {v : Value} {xs : List α} {w : World}

/-- a relation that holds in more memory too -/
def ElMono (E : El α) : Prop := ∀ h k x vs, (∀ l c, h l = some c → k l = some c) → E h x vs → E k x vs

theorem Rd.mono (hE : ElMono E) (r : Rd E size h v xs) (le : ∀ l c, h l = some c → k l = some c) : Rd E size k v xs := by
  obtain ⟨A, c, hv, hc, hc2, hat⟩ := r
  refine ⟨A, c, hv, hc, hc2, fun i x hx => ?_⟩
  obtain ⟨b, o, vs, hA, he, hl, hcell⟩ := hat i x hx
  exact ⟨b, o, vs, hA, hE _ _ _ _ le he, hl, fun j u hu => (hcell j u hu).imp fun fr hf => le _ _ hf⟩

theorem Rd.nil : Rd E size h (.slice none 0 0) ([] : List α) := ⟨none, 0, rfl, by simp, by simp, fun i x hx => by simp at hx⟩

theorem u8E_mono : ElMono u8E := fun _ _ _ _ _ e => e
theorem intE_mono : ElMono intE := fun _ _ _ _ _ e => e
theorem u64E_mono : ElMono u64E := fun _ _ _ _ _ e => e
theorem u16E_mono : ElMono u16E := fun _ _ _ _ _ e => e

/-- bytes: at a place -/
theorem Rd.u8 {A : Option Addr} {n c : Nat} {xs : List Int} (r : Rd u8E 1 h (.slice A n c) xs) : n = xs.length ∧ n ≤ c ∧ c ≤ 9223372036854775807 ∧
    ∀ i (hi : i < xs.length), ∃ b o, A = some ⟨b, o, none⟩ ∧ (∃ fr, h (.cell b (o + i)) = some (.val (.int .u8 xs[i]) fr)) ∧ 0 ≤ xs[i] ∧ xs[i] ≤ 255 := by
  obtain ⟨A', c', hv, hc, hc2, hat⟩ := r
  injection hv with e1 e2 e3
  subst e1 e2 e3
  refine ⟨rfl, hc, hc2, fun i hi => ?_⟩
  obtain ⟨b, o, vs, hA, ⟨rfl, h0, h1⟩, _, hcell⟩ := hat i xs[i] (by simp [hi])
  exact ⟨b, o, hA, by simpa using hcell 0 _ rfl, h0, h1⟩
end

theorem Holds.cell {w : World} {h : Hp} (H : Holds w h) {b o : Nat} {v : Value} (e : ∃ fr, h (.cell b o) = some (.val v fr)) : w.cell? ⟨b, o, none⟩ = some v :=
  let ⟨_, hf⟩ := e
  (look_cell (H _ _ hf)).1

/-- the row of a slice: a letter for the value -/
theorem Rd.open_ {α : Type} {E : El α} {size : Nat} {h : Hp} {v : Value} {xs : List α} (r : Rd E size h v xs) : ∃ A c, v = .slice A xs.length c ∧ Rd E size h (.slice A xs.length c) xs := by
  obtain ⟨A, c, rfl, r'⟩ := r
  exact ⟨A, c, rfl, ⟨A, c, rfl, r'⟩⟩

theorem aside {p : Prop} (h : p) : Aside p := h
theorem ret_b {R : Ending → World → Prop} {w : World} {p q : Bool} (k : R (.returned (.bool p)) w) (h : p = q) : R (.returned (.bool q)) w := h ▸ k
theorem ret_cast {R : Ending → World → Prop} {w w' : World} {v v' : Value} (k : R (.returned v) w) (hv : v = v') (hw : w = w') : R (.returned v') w' := hv ▸ hw ▸ k
theorem wrap_u64 (n : Int) : IntKind.u64.wrap n = n % 18446744073709551616 := by simp [IntKind.wrap, IntKind.bits, IntKind.signed]
theorem wrap_u32 (n : Int) : IntKind.u32.wrap n = n % 4294967296 := by simp [IntKind.wrap, IntKind.bits, IntKind.signed]
theorem wrap_u16 (n : Int) : IntKind.u16.wrap n = n % 65536 := by simp [IntKind.wrap, IntKind.bits, IntKind.signed]
theorem wrap_u8 (n : Int) : IntKind.u8.wrap n = n % 256 := by simp [IntKind.wrap, IntKind.bits, IntKind.signed]
theorem ret_v {R : Ending → World → Prop} {w : World} {p q : Value} (k : R (.returned p) w) (h : p = q) : R (.returned q) w := h ▸ k

end Go.Proofs.Ytippipfogbgemaa
