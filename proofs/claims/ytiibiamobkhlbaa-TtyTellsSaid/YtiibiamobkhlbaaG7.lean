/-
  RING: what is read of a queue's areas, whatever is told (any log).
  QUEUE: its state; Return, Ask, Tells (any log).
  QUEUE: Fetch: what it comes to, as a plain function; the code's contract.
  QUEUE: Serve, by any device: what it comes to, as a plain function; the code's contract.
  QUEUE: the device that the law asks: it fills what is to be written with a byte.
  QUEUE: the law's closure is a device; its Serve.
  QUEUE: the page's example; a queue as the document's one.
  QUEUE: a queue as an argument.
-/
import Derived.Test.YtiibiamobkhlbaaG6
import Derived.Deep.RegionHeld3
import Derived.Test.YtiibiamobkhlbaaG3
import Derived.Test.YtiibiamobkhlbaaG1
import Derived.Test.YtiibiamobkhlbaaG2
set_option linter.unusedVariables false
set_option linter.unusedSimpArgs false
namespace Go.Proofs.Ytiibiamobkhlbaa
open Go.RowKit
set_option linter.unusedVariables false
set_option linter.unusedSimpArgs false
def atSp (a n : Int) (x y : Int) : Prop := x = a ∧ y = n
section
variable {R : Ending → World → Prop} {W0 w : World} {H : Hp} {A F : List Hp} {v : Value} {b : Nat} {r : RamG} {l : Option LogG} {size : Int} {m : Int → Int} {L : Nat} {B : Option Addr} {n0 c : Nat}

set_option maxRecDepth 100000 in
set_option maxHeartbeats 4000000 in
theorem c_ringReadL (s : Sat W0 w H A) [fr : FrK (κ := Addr) (ρ := fun _ => RamG × Option LogG) ramL ⟨b, 0, none⟩ A (r, l) F] (a n : Int) (h0 : 0 ≤ a ∧ a ≤ 18446744073709551615) (hn : 0 ≤ n ∧ n ≤ 8)
    (k : ∀ w' l', LogQ (atSp a n) noP (lgs l) (lgs l') → Sat W0 w' H (ramL ⟨b, 0, none⟩ (r, l') ++ F) → R (.returned (.tuple #[.int .u64 (if hasP r.size a n then ofB (rdB r.mem a n.toNat) else 0), .bool (decide (hasP r.size a n))])) w') :
    Calls Try.prog 164 #[.pointer (some ⟨b, 0, none⟩), .int .u64 a, .int .i64 n] w R := by
  have en : IntKind.u64.wrap n = n := by rw [wrap_u64]; omega
  have hn8 : n.toNat ≤ 8 := by omega
  have e := has_iff r a n hn.1
  have hmb := r.hmem
  by_cases hc : hasP r.size a n
  · rw [if_pos hc, decide_eq_true hc] at k
    replace k := aside k
    go_enter Try.func164, Try.ntmps164
    go_wp2_with fail
    refine c_ramRead s a n h0 (by omega) (fun h => absurd (e.2 hc) h) ?_
    intro _ w2 v2 h2 l2 own hl s2
    have hl3 := aside (LogQ.of (LogQ.addR (P := atSp a n) (Q := noP) _ (fun _ => ⟨rfl, rfl⟩)) hl)
    clear hl
    have hd2 := own.rd (rdB_bd hmb _ _)
    go_wp2_with fail
    refine c_wordOf s2.head hd2 (by rw [rdB_len]; exact hn8) ?_
    go_wp2
    exact k.out _ l2 hl3.out s2.tail1
  · rw [if_neg hc, decide_eq_false hc] at k
    replace k := aside k
    have s0 := s.front (mk := ramL) (k := ⟨b, 0, none⟩)
    go_enter Try.func164, Try.ntmps164
    go_wp2_with fail
    refine c_ramRead s a n h0 (by omega) ?_ (fun h => absurd (e.1 h) hc)
    intro _
    go_wp2_with fail
    refine c_wordOf s0.ro (Rd.nil (h := H)) (by simp) ?_
    go_wp2
    exact k.out _ l (LogQ.refl _ _ _) s0

set_option maxRecDepth 100000 in
set_option maxHeartbeats 4000000 in
theorem c_halfL (s : Sat W0 w H A) [fr : FrK (κ := Addr) (ρ := fun _ => RamG × Option LogG) ramL ⟨b, 0, none⟩ A (r, l) F] (a : Int) (h0 : 0 ≤ a ∧ a ≤ 18446744073709551615)
    (k : ∀ w' l', LogQ (atSp a 2) noP (lgs l) (lgs l') → Sat W0 w' H (ramL ⟨b, 0, none⟩ (r, l') ++ F) → R (.returned (.int .u16 (hw r.size r.mem a))) w') :
    Calls Try.prog 136 #[.pointer (some ⟨b, 0, none⟩), .int .u64 a] w R := by
  have hb := ofB_bd (rdB_bd r.hmem a 2)
  rw [rdB_len] at hb
  obtain ⟨y, hy⟩ : ∃ y, (if hasP r.size a 2 then ofB (rdB r.mem a 2) else 0) = y := ⟨_, rfl⟩
  have hy2 : 0 ≤ y ∧ y < 65536 := by
    rw [← hy]
    split
    · exact hb
    · omega
  have ew : IntKind.u16.wrap y = y := by rw [wrap_u16]; omega
  replace k := aside (show ∀ w' l', LogQ (atSp a 2) noP (lgs l) (lgs l') → Sat W0 w' H (ramL ⟨b, 0, none⟩ (r, l') ++ F) → R (.returned (.int .u16 y)) w' from fun w' l' h1 h2 => by have := k w' l' h1 h2; unfold hw at this; rw [hy] at this; exact this)
  clear hb
  replace hy := aside hy
  go_enter Try.func136, Try.ntmps136
  go_wp2_with fail
  refine c_ringReadL s a 2 h0 (by omega) ?_
  intro w2 l2 hl2 s2
  rw [show (if hasP r.size a 2 then ofB (rdB r.mem a (2 : Int).toNat) else 0) = y from hy.out]
  go_wp2
  exact k.out _ l2 hl2 s2

set_option maxRecDepth 100000 in
set_option maxHeartbeats 4000000 in
theorem c_FlagsL (s : Sat W0 w H A) [fr : FrK (κ := Addr) (ρ := fun _ => RamG × Option LogG) ramL ⟨b, 0, none⟩ A (r, l) F] (n d a u : Int) (ha : 0 ≤ a ∧ a ≤ 18446744073709551615)
    (k : ∀ w' l', LogQ (atSp a 2) noP (lgs l) (lgs l') → Sat W0 w' H (ramL ⟨b, 0, none⟩ (r, l') ++ F) → R (.returned (.int .u16 (hw r.size r.mem a))) w') :
    Calls Try.prog 86 #[.pointer (some ⟨b, 0, none⟩), .agg #[.int .i64 n, .int .u64 d, .int .u64 a, .int .u64 u]] w R := by
  have s1 := (s.front (mk := ramL) (k := ⟨b, 0, none⟩)).alloc (c := [.int .i64 n, .int .u64 d, .int .u64 a, .int .u64 u]) (t := 25)
  have y2 := s1.c 2 rfl
  simp only [Nat.zero_add] at y2
  replace k := aside k
  go_enter Try.func86, Try.ntmps86
  go_wp2_with fail
  refine c_halfL s1 a ha ?_
  intro w2 l2 hl2 s2
  replace hl2 := aside hl2
  go_wp2
  exact k.out _ l2 hl2.out s2.wk

set_option maxRecDepth 100000 in
set_option maxHeartbeats 4000000 in
theorem c_OfferedL (s : Sat W0 w H A) [fr : FrK (κ := Addr) (ρ := fun _ => RamG × Option LogG) ramL ⟨b, 0, none⟩ A (r, l) F] (n d a u : Int) (ha : 0 ≤ a ∧ a ≤ 4294967295)
    (k : ∀ w' l', LogQ (atSp (a + 2) 2) noP (lgs l) (lgs l') → Sat W0 w' H (ramL ⟨b, 0, none⟩ (r, l') ++ F) → R (.returned (.int .u16 (hw r.size r.mem (a + 2)))) w') :
    Calls Try.prog 122 #[.pointer (some ⟨b, 0, none⟩), .agg #[.int .i64 n, .int .u64 d, .int .u64 a, .int .u64 u]] w R := by
  have s1 := (s.front (mk := ramL) (k := ⟨b, 0, none⟩)).alloc (c := [.int .i64 n, .int .u64 d, .int .u64 a, .int .u64 u]) (t := 25)
  have y2 := s1.c 2 rfl
  simp only [Nat.zero_add] at y2
  have e : IntKind.u64.wrap (a + 2) = a + 2 := by rw [wrap_u64]; omega
  have hb : 0 ≤ a + 2 ∧ a + 2 ≤ 18446744073709551615 := by omega
  replace k := aside k
  go_enter Try.func122, Try.ntmps122
  go_wp2_with fail
  refine c_halfL s1 (a + 2) hb ?_
  intro w2 l2 hl2 s2
  replace hl2 := aside hl2
  go_wp2
  exact k.out _ l2 hl2.out s2.wk

set_option maxRecDepth 100000 in
set_option maxHeartbeats 4000000 in
theorem c_WantedL (s : Sat W0 w H A) [fr : FrK (κ := Addr) (ρ := fun _ => RamG × Option LogG) ramL ⟨b, 0, none⟩ A (r, l) F] (n d a u : Int) (ha : 0 ≤ a ∧ a ≤ 4294967295) (hn : 1 ≤ n ∧ n ≤ 256)
    (k : ∀ w' l', LogQ (atSp (a + 4 + 2 * n) 2) noP (lgs l) (lgs l') → Sat W0 w' H (ramL ⟨b, 0, none⟩ (r, l') ++ F) → R (.returned (.int .u16 (hw r.size r.mem (a + 4 + 2 * n)))) w') :
    Calls Try.prog 85 #[.pointer (some ⟨b, 0, none⟩), .agg #[.int .i64 n, .int .u64 d, .int .u64 a, .int .u64 u]] w R := by
  have s1 := (s.front (mk := ramL) (k := ⟨b, 0, none⟩)).alloc (c := [.int .i64 n, .int .u64 d, .int .u64 a, .int .u64 u]) (t := 25)
  have y0 := s1.c 0 rfl
  have y2 := s1.c 2 rfl
  simp only [Nat.zero_add] at y0 y2
  have e0 : IntKind.u64.wrap n = n := by rw [wrap_u64]; omega
  have e1 : IntKind.u64.wrap (a + 4) = a + 4 := by rw [wrap_u64]; omega
  have e2 : IntKind.u64.wrap (2 * n) = 2 * n := by rw [wrap_u64]; omega
  have e3 : IntKind.u64.wrap (a + 4 + 2 * n) = a + 4 + 2 * n := by rw [wrap_u64]; omega
  have hb : 0 ≤ a + 4 + 2 * n ∧ a + 4 + 2 * n ≤ 18446744073709551615 := by omega
  replace k := aside k
  go_enter Try.func85, Try.ntmps85
  go_wp2_with fail
  refine c_halfL s1 (a + 4 + 2 * n) hb ?_
  intro w2 l2 hl2 s2
  replace hl2 := aside hl2
  go_wp2
  exact k.out _ l2 hl2.out s2.wk

set_option maxRecDepth 100000 in
set_option maxHeartbeats 4000000 in
theorem c_HeadL (s : Sat W0 w H A) [fr : FrK (κ := Addr) (ρ := fun _ => RamG × Option LogG) ramL ⟨b, 0, none⟩ A (r, l) F] (n d a u x : Int) (ha : 0 ≤ a ∧ a ≤ 4294967295) (hn : 1 ≤ n ∧ n ≤ 256) (hx : 0 ≤ x ∧ x ≤ 65535)
    (k : ∀ w' l', LogQ (atSp (a + 4 + 2 * (x % n)) 2) noP (lgs l) (lgs l') → Sat W0 w' H (ramL ⟨b, 0, none⟩ (r, l') ++ F) → R (.returned (.int .u16 (hw r.size r.mem (a + 4 + 2 * (x % n))))) w') :
    Calls Try.prog 123 #[.pointer (some ⟨b, 0, none⟩), .agg #[.int .i64 n, .int .u64 d, .int .u64 a, .int .u64 u], .int .u16 x] w R := by
  have s1 := (s.front (mk := ramL) (k := ⟨b, 0, none⟩)).alloc (c := [.int .i64 n, .int .u64 d, .int .u64 a, .int .u64 u]) (t := 25)
  have y0 := s1.c 0 rfl
  have y2 := s1.c 2 rfl
  simp only [Nat.zero_add] at y0 y2
  have hmax : max n 1 = n := by omega
  have hmod := Int.emod_nonneg x (show n ≠ 0 by omega)
  have hmod2 := Int.emod_lt_of_pos x (show 0 < n by omega)
  have htm : x.tmod n = x % n := Int.tmod_eq_emod_of_nonneg hx.1
  obtain ⟨j, hj⟩ : ∃ j, x % n = j := ⟨_, rfl⟩
  rw [hj] at hmod hmod2 htm k
  obtain ⟨Z, hZ⟩ : ∃ Z, w.heap.size = Z := ⟨_, rfl⟩
  rw [hZ] at s1 y0 y2
  have q1 : ¬ max n 1 = 0 := by omega
  have q2 : (max n 1 == 0) = false := by simp; omega
  have q3 : x.tmod (max n 1) = j := by rw [hmax]; exact htm
  have q4 : x % (max n 1) = j := by rw [hmax]; exact hj
  have n0 : ¬ n = 0 := by omega
  have nb : (n == 0) = false := by simp [n0]
  have ej : IntKind.i64.wrap j = j := by simp [IntKind.wrap, IntKind.bits, IntKind.signed]; omega
  have e0 : IntKind.u64.wrap j = j := by rw [wrap_u64]; omega
  have e1 : IntKind.u64.wrap (a + 4) = a + 4 := by rw [wrap_u64]; omega
  have e2 : IntKind.u64.wrap (2 * j) = 2 * j := by rw [wrap_u64]; omega
  have e3 : IntKind.u64.wrap (a + 4 + 2 * j) = a + 4 + 2 * j := by rw [wrap_u64]; omega
  have hb : 0 ≤ a + 4 + 2 * j ∧ a + 4 + 2 * j ≤ 18446744073709551615 := by omega
  replace k := aside k
  go_enter Try.func123, Try.ntmps123
  go_wp2
  go_region_with
    (first
      | (go_at_call 136; refine c_halfL s1.drew (a + 4 + 2 * j) hb ?_; intro w2 l2 hl2 s2))
  all_goals
    replace hl2 := aside hl2
    try simp only [Act.put, List.getElem_toArray, List.getElem_cons_succ, List.getElem_cons_zero, List.setIfInBounds_toArray, List.set_cons_succ, List.set_cons_zero]
    go_wp2
    exact k.out _ l2 hl2.out s2.wk
end
end Go.Proofs.Ytiibiamobkhlbaa

namespace Go.Proofs.Ytiibiamobkhlbaa
open Go.RowKit
set_option linter.unusedVariables false
set_option linter.unusedSimpArgs false

theorem OwnS.shp {size : Nat} {v : Value} {n : Nat} {vs : List Value} {h : Hp} (own : OwnS size v n vs h) : ∃ L LC, v = .slice L n LC ∧ n ≤ LC ∧ LC ≤ 9223372036854775807 := by
  obtain ⟨A, cap, sp, rfl, h1, h2, _⟩ := own
  exact ⟨A, cap, rfl, h1, h2⟩

structure QuM where
  n : Int
  d : Int
  a : Int
  u : Int
  rdy : Bool
  fet : Int
  us : Int
  ev : Bool
  ind : Bool
  hn : -9223372036854775808 ≤ n ∧ n ≤ 9223372036854775807
  hd : 0 ≤ d ∧ d ≤ 18446744073709551615
  ha : 0 ≤ a ∧ a ≤ 18446744073709551615
  hu : 0 ≤ u ∧ u ≤ 18446744073709551615
  hfet : 0 ≤ fet ∧ fet ≤ 65535
  hus : 0 ≤ us ∧ us ≤ 65535
def QuM.vals (q : QuM) : List Value := [.int .i64 q.n, .int .u64 q.d, .int .u64 q.a, .int .u64 q.u, .bool q.rdy, .int .u16 q.fet, .int .u16 q.us, .bool q.ev, .bool q.ind]
def up16 (x : Int) : Int := (x + 1) % 65536
theorem up16_bd (x : Int) : 0 ≤ up16 x ∧ up16 x ≤ 65535 := by unfold up16; omega
def QuM.ret (q : QuM) : QuM := { q with us := up16 q.us, hus := up16_bd _ }
def QuM.fetched (q : QuM) : QuM := { q with fet := up16 q.fet, hfet := up16_bd _ }
/-- a layout that may be, in a memory of that size -/
def QuM.okP (q : QuM) (size : Int) : Prop := layP q.n q.d q.a q.u ∧ liesP size q.n q.d q.a q.u
instance (q : QuM) (size : Int) : Decidable (q.okP size) := by unfold QuM.okP; infer_instance
theorem QuM.okP_chk {q : QuM} {size : Int} : q.okP size ↔ chk size q.n q.d q.a q.u = 0 := by
  unfold QuM.okP chk
  by_cases h1 : layP q.n q.d q.a q.u
  · rw [if_pos h1]
    by_cases h2 : liesP size q.n q.d q.a q.u
    · simp [h1, h2]
    · simp [h1, h2]
  · simp [h1]
theorem QuM.okP_bd {q : QuM} {size : Int} (h : q.okP size) : 1 ≤ q.n ∧ q.n ≤ 256 := powP_bd h.1.1

def retM (q : QuM) (m : Int → Int) (head ct : Int) : Int → Int := putB (putB m (q.u + 4 + 8 * (q.us % q.n)) (leb head 4 ++ leb ct 4)) (q.u + 2) (leb (up16 q.us) 2)
def askM (q : QuM) (m : Int → Int) : Int → Int := if q.ev = true then putB m (q.u + 4 + 8 * q.n) (leb q.fet 2) else m
def tellsP (q : QuM) (size : Int) (m : Int → Int) (frm : Int) : Bool :=
  if frm = q.us then false
  else if q.ev = true then decide ((q.us - hw size m (q.a + 4 + 2 * q.n) - 1) % 65536 < (q.us - frm) % 65536)
  else decide (hw size m q.a % 2 = 0)
/-- a piece lies in what the device tells, or what the driver offers -/
def inUsed (q : QuM) (x k : Int) : Prop := q.u ≤ x ∧ x + k ≤ q.u + (8 * q.n + 6)
def inAvail (q : QuM) (x k : Int) : Prop := q.a ≤ x ∧ x + k ≤ q.a + (2 * q.n + 6)

section
variable {R : Ending → World → Prop} {W0 w : World} {H : Hp} {A F : List Hp} {b qb qo : Nat} {r : RamG} {l : Option LogG}


set_option maxRecDepth 100000 in
set_option maxHeartbeats 4000000 in
theorem c_qReturn (q : QuM) (s : Sat W0 w H (cellsH ⟨qb, qo, none⟩ q.vals :: (ramL ⟨b, 0, none⟩ (r, l) ++ F))) (hv : q.okP r.size) (head ct : Int) (hh : 0 ≤ head ∧ head ≤ 65535) (hc : 0 ≤ ct ∧ ct ≤ 4294967295)
    (k : ∀ w' r' l', r'.mem = retM q r.mem head ct → r'.size = r.size → LogQ noP (inUsed q) (lgs l) (lgs l') → Sat W0 w' H (cellsH ⟨qb, qo, none⟩ q.ret.vals :: (ramL ⟨b, 0, none⟩ (r', l') ++ F)) → R (.returned (.tuple #[])) w') :
    Calls Try.prog 33 #[.pointer (some ⟨qb, qo, none⟩), .pointer (some ⟨b, 0, none⟩), .int .u16 head, .int .u32 ct] w R := by
  have hn := QuM.okP_bd hv
  have hu0 : 0 ≤ q.u ∧ hasP r.size q.u (8 * q.n + 6) := ⟨q.hu.1, hv.2.2.2⟩
  have hux := q.hus
  have hm1 := Int.emod_nonneg q.us (show q.n ≠ 0 by omega)
  have hm2 := Int.emod_lt_of_pos q.us (show 0 < q.n by omega)
  have hw1 := aside (show 0 < (8 : Int) → inUsed q (q.u + 4 + 8 * (q.us % q.n)) 8 from fun _ => ⟨by omega, by omega⟩)
  have hw2 := aside (show 0 < (2 : Int) → inUsed q (q.u + 2) 2 from fun _ => ⟨by omega, by omega⟩)
  replace k := aside k
  replace hv := aside hv
  replace hu0 := aside hu0
  replace hm1 := aside hm1
  replace hm2 := aside hm2
  have y0 := s.c0
  have y1 := s.c 1 rfl
  have y2 := s.c 2 rfl
  have y3 := s.c 3 rfl
  have y4 := s.c 4 rfl
  have y5 := s.c 5 rfl
  have y6 := s.c 6 rfl
  have y7 := s.c 7 rfl
  have y8 := s.c 8 rfl
  have sd := s.drew
  have ew : IntKind.u16.wrap (q.us + 1) = up16 q.us := wrap_u16 _
  have hup := up16_bd q.us
  go_enter Try.func33, Try.ntmps33
  go_wp2
  go_region_held3 (fun w' => w'.cell? ⟨qb, qo, none⟩ = some (.int .i64 q.n) ∧ w'.cell? ⟨qb, qo + 1, none⟩ = some (.int .u64 q.d) ∧ w'.cell? ⟨qb, qo + 2, none⟩ = some (.int .u64 q.a) ∧ w'.cell? ⟨qb, qo + 3, none⟩ = some (.int .u64 q.u) ∧ w'.cell? ⟨qb, qo + 6, none⟩ = some (.int .u16 q.us))
    (first | exact ⟨y0.1, y1.1, y2.1, y3.1, y6.1⟩ | exact ⟨z0.1, z1.1, z2.1, z3.1, z6.1⟩)
    (first
      | (go_at_call 80; refine c_ringPut sd q.n q.d q.a q.u q.us head ct hn hu0.out hux hh hc ?_; intro w3 r3 l3 hz3 hm3 hl3 s3; have z0 := (s3.pc qb qo).c0; have z1 := (s3.pc qb qo).c 1 rfl; have z2 := (s3.pc qb qo).c 2 rfl; have z3 := (s3.pc qb qo).c 3 rfl; have z6 := (s3.pc qb qo).c 6 rfl))
  all_goals
    have t4 : Sat W0 _ H (cellsH ⟨qb, qo, none⟩ q.ret.vals :: _) := (s3.pc qb qo).s 6 (by show 6 < 9; omega) (.int .u16 (up16 q.us))
    have t4d := t4.drew
    have v0 := t4.c0
    have v1 := t4.c 1 rfl
    have v2 := t4.c 2 rfl
    have v3 := t4.c 3 rfl
    have v4 := t4.c 4 rfl
    have v5 := t4.c 5 rfl
    have v6 := t4.c 6 rfl
    have v7 := t4.c 7 rfl
    have v8 := t4.c 8 rfl
    have hu3 := aside (show 0 ≤ q.u ∧ hasP r3.size q.u (8 * q.n + 6) by rw [hz3]; exact hu0.out)
    replace hl3 := aside (show LogQ noP (inUsed q) (lgs l) (lgs l3) from LogQ.of (LogQ.addW _ hw1.out) hl3)
    replace hz3 := aside hz3
    replace hm3 := aside hm3
    clear s sd y0 y1 y2 y3 y4 y5 y6 y7 y8
    go_wp2
    go_region_held3 (fun w' => w'.cell? ⟨qb, qo, none⟩ = some (.int .i64 q.n) ∧ w'.cell? ⟨qb, qo + 1, none⟩ = some (.int .u64 q.d) ∧ w'.cell? ⟨qb, qo + 2, none⟩ = some (.int .u64 q.a) ∧ w'.cell? ⟨qb, qo + 3, none⟩ = some (.int .u64 q.u) ∧ w'.cell? ⟨qb, qo + 6, none⟩ = some (.int .u16 (up16 q.us)))
      (first | exact ⟨v0.1, v1.1, v2.1, v3.1, v6.1⟩ | exact ⟨u0.1, u1.1, u2.1, u3.1, u6.1⟩)
      (first
        | (go_at_call 81; refine c_ringPublish t4d q.n q.d q.a q.u (up16 q.us) hn hu3.out hup ?_; intro w5 r5 l5 hz5 hm5 hl5 s5; have u0 := (s5.pc qb qo).c0; have u1 := (s5.pc qb qo).c 1 rfl; have u2 := (s5.pc qb qo).c 2 rfl; have u3 := (s5.pc qb qo).c 3 rfl; have u6 := (s5.pc qb qo).c 6 rfl))
    all_goals
      replace hl5 := aside (show LogQ noP (inUsed q) (lgs l) (lgs l5) from hl3.out.trans (LogQ.of (LogQ.addW _ hw2.out) hl5))
      have hm6 := aside (show r5.mem = retM q r.mem head ct by rw [hm5, hm3.out]; rfl)
      have hz6 := aside (hz5.trans hz3.out)
      clear hm5 hz5 t4 t4d
      go_wp2
      go_end0
      exact k.out _ r5 l5 hm6.out hz6.out hl5.out s5.wk

set_option maxRecDepth 100000 in
set_option maxHeartbeats 4000000 in
theorem c_qAsk (q : QuM) (s : Sat W0 w H (cellsH ⟨qb, qo, none⟩ q.vals :: (ramL ⟨b, 0, none⟩ (r, l) ++ F))) (hv : q.ev = true → q.okP r.size)
    (k : ∀ w' r' l', r'.mem = askM q r.mem → r'.size = r.size → LogQ noP (inUsed q) (lgs l) (lgs l') → Sat W0 w' H (cellsH ⟨qb, qo, none⟩ q.vals :: (ramL ⟨b, 0, none⟩ (r', l') ++ F)) → R (.returned (.tuple #[])) w') :
    Calls Try.prog 37 #[.pointer (some ⟨qb, qo, none⟩), .pointer (some ⟨b, 0, none⟩)] w R := by
  have y0 := s.c0
  have y1 := s.c 1 rfl
  have y2 := s.c 2 rfl
  have y3 := s.c 3 rfl
  have y4 := s.c 4 rfl
  have y5 := s.c 5 rfl
  have y6 := s.c 6 rfl
  have y7 := s.c 7 rfl
  have y8 := s.c 8 rfl
  cases hev : q.ev with
  | false =>
    have K := aside (k w r l (by unfold askM; rw [hev]; rfl) rfl (LogQ.refl _ _ _) s)
    rw [hev] at y7
    clear k hv s
    go_enter Try.func37, Try.ntmps37
    go_wp2
    go_end0
    exact K.out
  | true =>
    have hv := hv hev
    have hn := QuM.okP_bd hv
    have hu0 : 0 ≤ q.u ∧ hasP r.size q.u (8 * q.n + 6) := ⟨q.hu.1, hv.2.2.2⟩
    have hfx := q.hfet
    have hw1 := aside (show 0 < (2 : Int) → inUsed q (q.u + 4 + 8 * q.n) 2 from fun _ => ⟨by omega, by omega⟩)
    rw [hev] at y7
    have sd := s.drew
    have hask := aside (show askM q r.mem = putB r.mem (q.u + 4 + 8 * q.n) (leb q.fet 2) by unfold askM; rw [hev]; rfl)
    replace k := aside k
    replace hv := aside hv
    replace hu0 := aside hu0
    go_enter Try.func37, Try.ntmps37
    go_wp2
    go_region_held3 (fun w' => w'.cell? ⟨qb, qo, none⟩ = some (.int .i64 q.n) ∧ w'.cell? ⟨qb, qo + 1, none⟩ = some (.int .u64 q.d) ∧ w'.cell? ⟨qb, qo + 2, none⟩ = some (.int .u64 q.a) ∧ w'.cell? ⟨qb, qo + 3, none⟩ = some (.int .u64 q.u) ∧ w'.cell? ⟨qb, qo + 5, none⟩ = some (.int .u16 q.fet))
      (first | exact ⟨y0.1, y1.1, y2.1, y3.1, y5.1⟩ | exact ⟨z0.1, z1.1, z2.1, z3.1, z5.1⟩)
      (first
        | (go_at_call 90; refine c_ringWant sd q.n q.d q.a q.u q.fet hn hu0.out hfx ?_; intro w3 r3 l3 hz3 hm3 hl3 s3; have z0 := (s3.pc qb qo).c0; have z1 := (s3.pc qb qo).c 1 rfl; have z2 := (s3.pc qb qo).c 2 rfl; have z3 := (s3.pc qb qo).c 3 rfl; have z5 := (s3.pc qb qo).c 5 rfl))
    all_goals
      replace hl3 := aside (show LogQ noP (inUsed q) (lgs l) (lgs l3) from LogQ.of (LogQ.addW _ hw1.out) hl3)
      replace hz3 := aside hz3
      replace hm3 := aside hm3
      clear s sd
      go_wp2
      go_end0
      exact k.out _ r3 l3 (hm3.out.trans hask.out.symm) hz3.out hl3.out s3.wk

theorem c_PassedQ (a b c : Int) (h0 : 0 ≤ a ∧ a ≤ 65535) (h1 : 0 ≤ b ∧ b ≤ 65535) (h2 : 0 ≤ c ∧ c ≤ 65535)
    (k : R (.returned (.bool (decide ((c - a - 1) % 65536 < (c - b) % 65536)))) w) :
    Calls Try.prog 84 #[.int .u16 a, .int .u16 b, .int .u16 c] w R := by
  go_enter Try.func84, Try.ntmps84
  go_wp2
  refine ret_b k ?_
  simp [wrap_u16]

theorem and1_16 {x : Int} (h : 0 ≤ x ∧ x ≤ 65535) : bits .and .u16 x 1 = x % 2 := by
  obtain ⟨m, rfl⟩ := Int.eq_ofNat_of_zero_le h.1
  show IntKind.u16.wrap ((BitVec.ofInt 16 (m : Int) &&& BitVec.ofInt 16 ((2 ^ 1 - 1 : Nat) : Int)).toNat : Int) = _
  rw [BitVec.ofInt_natCast, BitVec.ofInt_natCast, BitVec.toNat_and, BitVec.toNat_ofNat, BitVec.toNat_ofNat, Nat.mod_eq_of_lt (by omega), Nat.mod_eq_of_lt (by omega), Nat.and_two_pow_sub_one_eq_mod, wrap_u16]
  omega

set_option maxRecDepth 100000 in
set_option maxHeartbeats 4000000 in
theorem c_qTells (q : QuM) (s : Sat W0 w H (cellsH ⟨qb, qo, none⟩ q.vals :: (ramL ⟨b, 0, none⟩ (r, l) ++ F))) (frm : Int) (hf : 0 ≤ frm ∧ frm ≤ 65535) (hv : frm ≠ q.us → q.okP r.size)
    (k : ∀ w' l', LogQ (inAvail q) noP (lgs l) (lgs l') → Sat W0 w' H (cellsH ⟨qb, qo, none⟩ q.vals :: (ramL ⟨b, 0, none⟩ (r, l') ++ F)) → R (.returned (.bool (tellsP q r.size r.mem frm))) w') :
    Calls Try.prog 35 #[.pointer (some ⟨qb, qo, none⟩), .pointer (some ⟨b, 0, none⟩), .int .u16 frm] w R := by
  have y0 := s.c0
  have y1 := s.c 1 rfl
  have y2 := s.c 2 rfl
  have y3 := s.c 3 rfl
  have y4 := s.c 4 rfl
  have y5 := s.c 5 rfl
  have y6 := s.c 6 rfl
  have y7 := s.c 7 rfl
  have y8 := s.c 8 rfl
  by_cases heq : frm = q.us
  · have K := aside (k w l (LogQ.refl _ _ _) s)
    rw [show tellsP q r.size r.mem frm = false from if_pos heq] at K
    clear k hv s
    have e1 : (frm == q.us) = true := by simp [heq]
    replace heq := aside heq
    go_enter Try.func35, Try.ntmps35
    go_wp2
    exact K.out
  have hv := hv heq
  have hn := QuM.okP_bd hv
  have hz := r.hsize
  have ha := q.ha
  have ha2 : 0 ≤ q.a ∧ q.a ≤ 4294967295 := by have := hv.2.2.1; unfold hasP at this; omega
  have e1 : (frm == q.us) = false := by simp [heq]
  have hux := q.hus
  have sd := s.drew
  cases hev : q.ev with
  | true =>
    have hT : tellsP q r.size r.mem frm = decide ((q.us - hw r.size r.mem (q.a + 4 + 2 * q.n) - 1) % 65536 < (q.us - frm) % 65536) := by unfold tellsP; rw [if_neg heq, if_pos hev]
    rw [hT] at k
    rw [hev] at y7
    have hwb := hw_bd r.hmem r.size (q.a + 4 + 2 * q.n)
    obtain ⟨X, hX⟩ : ∃ y, hw r.size r.mem (q.a + 4 + 2 * q.n) = y := ⟨_, rfl⟩
    rw [hX] at k hwb
    have hin := aside (show ∀ x y, atSp (q.a + 4 + 2 * q.n) 2 x y → inAvail q x y from fun x y h => by unfold atSp at h; unfold inAvail; omega)
    replace k := aside k
    replace hv := aside hv
    replace heq := aside heq
    replace hT := aside hT
    replace hX := aside hX
    go_enter Try.func35, Try.ntmps35
    go_wp2
    go_region_held3 (fun w' => w'.cell? ⟨qb, qo, none⟩ = some (.int .i64 q.n) ∧ w'.cell? ⟨qb, qo + 1, none⟩ = some (.int .u64 q.d) ∧ w'.cell? ⟨qb, qo + 2, none⟩ = some (.int .u64 q.a) ∧ w'.cell? ⟨qb, qo + 3, none⟩ = some (.int .u64 q.u) ∧ w'.cell? ⟨qb, qo + 6, none⟩ = some (.int .u16 q.us))
      (first | exact ⟨y0.1, y1.1, y2.1, y3.1, y6.1⟩ | exact ⟨z0.1, z1.1, z2.1, z3.1, z6.1⟩)
      (first
        | (go_at_call 84; refine c_PassedQ X frm q.us hwb hf hux ?_)
        | (go_at_call 85; refine c_WantedL sd q.n q.d q.a q.u ha2 hn ?_; rw [hX.out]; intro w3 l3 hl3 s3; have z0 := (s3.pc qb qo).c0; have z1 := (s3.pc qb qo).c 1 rfl; have z2 := (s3.pc qb qo).c 2 rfl; have z3 := (s3.pc qb qo).c 3 rfl; have z6 := (s3.pc qb qo).c 6 rfl))
    all_goals
      replace hl3 := aside (hl3.mono hin.out (fun _ _ h => h))
      clear s sd
      go_wp2
      exact k.out _ l3 hl3.out s3.wk
  | false =>
    have hT : tellsP q r.size r.mem frm = decide (hw r.size r.mem q.a % 2 = 0) := by unfold tellsP; rw [if_neg heq, hev]; rfl
    rw [hT] at k
    rw [hev] at y7
    have hwb := hw_bd r.hmem r.size q.a
    obtain ⟨X, hX⟩ : ∃ y, hw r.size r.mem q.a = y := ⟨_, rfl⟩
    rw [hX] at k hwb
    have hin := aside (show ∀ x y, atSp q.a 2 x y → inAvail q x y from fun x y h => by unfold atSp at h; unfold inAvail; omega)
    have eb := and1_16 hwb
    obtain ⟨Y, hY⟩ : ∃ y, X % 2 = y := ⟨_, rfl⟩
    rw [hY] at eb k
    replace k := aside k
    replace hv := aside hv
    replace heq := aside heq
    replace hT := aside hT
    replace hX := aside hX
    replace hY := aside hY
    go_enter Try.func35, Try.ntmps35
    go_wp2_with fail
    refine c_FlagsL s q.n q.d q.a q.u ha ?_
    rw [hX.out]
    intro w3 l3 hl3 s3
    replace hl3 := aside (hl3.mono hin.out (fun _ _ h => h))
    clear s sd
    go_wp2
    refine ret_b (k.out _ l3 hl3.out s3.wk) ?_
    by_cases hy : Y = 0 <;> simp [hy]
end
end Go.Proofs.Ytiibiamobkhlbaa

namespace Go.Proofs.Ytiibiamobkhlbaa
open Go.RowKit
set_option linter.unusedVariables false
set_option linter.unusedSimpArgs false

structure FetchR where
  q : QuM
  got : Bool
  hd : Int
  segs : List SegM
  ta : Int
  tl : Int
  ok : Bool
  e : Int

def FetchR.none (q : QuM) (e : Int) : FetchR := ⟨q, false, 0, [], 0, 0, false, e⟩
/-- how many are offered that were not fetched -/
def offerN (q : QuM) (size : Int) (m : Int → Int) : Int := (hw size m (q.a + 2) - q.fet) % 65536
def headP (q : QuM) (size : Int) (m : Int → Int) : Int := hw size m (q.a + 4 + 2 * (q.fet % q.n))
def walkQ (q : QuM) (size : Int) (m : Int → Int) : Int × List SegM × Int × Int := walkP m size q.d q.n.toNat (headP q size m) q.ind
def fetchP (q : QuM) (size : Int) (m : Int → Int) : FetchR :=
  if q.rdy = false then .none q 0
  else if chk size q.n q.d q.a q.u ≠ 0 then .none q (chk size q.n q.d q.a q.u)
  else if offerN q size m = 0 then .none q 0
  else if q.n < offerN q size m then .none q 156
  else ⟨q.fetched, true, headP q size m, (walkQ q size m).2.1, (walkQ q size m).2.2.1, (walkQ q size m).2.2.2, decide ((walkQ q size m).1 = 0), (walkQ q size m).1⟩
def fetRd (q : QuM) (f : FetchR) (x k : Int) : Prop := inAvail q x k ∨ (k = 16 ∧ rdP f.e f.ta f.tl q.d q.n.toNat x)

section
variable {R : Ending → World → Prop} {W0 w : World} {H : Hp} {A F : List Hp} {b qb qo : Nat} {r : RamG} {l : Option LogG}




set_option maxRecDepth 100000 in
set_option maxHeartbeats 4000000 in
theorem c_qFetch (q : QuM) (s : Sat W0 w H (cellsH ⟨qb, qo, none⟩ q.vals :: (ramL ⟨b, 0, none⟩ (r, l) ++ F)))
    (k : ∀ f, fetchP q r.size r.mem = f → ∀ w' B n c h l', OwnS 3 (.slice B n c) f.segs.length (encG f.segs) h → LogQ (fetRd q f) noP (lgs l) (lgs l') → Sat W0 w' H (h :: cellsH ⟨qb, qo, none⟩ f.q.vals :: (ramL ⟨b, 0, none⟩ (r, l') ++ F)) → R (.returned (.tuple #[.agg #[.int .u16 f.hd, .slice B n c, .int .u64 f.ta, .int .u64 f.tl], .bool f.ok, .int .i64 f.e])) w') :
    Calls Try.prog 60 #[.pointer (some ⟨qb, qo, none⟩), .pointer (some ⟨b, 0, none⟩)] w R := by
  have s1 := s.alloc (c := [.int .u16 0, .slice none 0 0, .int .u64 0, .int .u64 0]) (t := 144)
  obtain ⟨Z, hZ⟩ : ∃ Z, w.heap.size = Z := ⟨_, rfl⟩
  rw [hZ] at s1
  have s1q : Sat W0 _ H (cellsH ⟨qb, qo, none⟩ q.vals :: (ramL ⟨b, 0, none⟩ (r, l) ++ (cellsH ⟨Z, 0, none⟩ [.int .u16 0, .slice none 0 0, .int .u64 0, .int .u64 0] :: F))) := s1.wk
  have kn : ∀ e, fetchP q r.size r.mem = .none q e → ∀ w' l' h0, OwnS 3 (.slice none 0 0) 0 [] h0 → LogQ (inAvail q) noP (lgs l) (lgs l') → Sat W0 w' H (h0 :: cellsH ⟨qb, qo, none⟩ q.vals :: (ramL ⟨b, 0, none⟩ (r, l') ++ F)) → R (.returned (.tuple #[.agg #[.int .u16 0, .slice none 0 0, .int .u64 0, .int .u64 0], .bool false, .int .i64 e])) w' :=
    fun e he w' l' h0 ho hl t => k _ he w' none 0 0 h0 l' ho (hl.mono (fun _ _ h => .inl h) (fun _ _ h => h)) t
  cases hrd : q.rdy with
  | false =>
    have K := aside (kn 0 (by unfold fetchP; rw [if_pos hrd]) _ l empH (OwnS.nil 3) (LogQ.refl _ _ _) s1q.wk.emp)
    have y4 := (s1q).c 4 rfl
    rw [hrd] at y4
    have z0 := s1.cel Z 0 0 rfl
    have z1 := s1.cel Z 0 1 rfl
    have z2 := s1.cel Z 0 2 rfl
    have z3 := s1.cel Z 0 3 rfl
    simp only [Nat.zero_add] at z0 z1 z2 z3
    clear k kn s s1 s1q
    go_enter Try.func60, Try.ntmps60
    go_wp2
    refine bodyPost_ret (by simp [results, Try.results60, go_sem, z0.1, z1.1, z2.1, z3.1]; try rfl) rfl ?_
    exact K.out
  | true =>
  have y0 := s1q.c0
  have y1 := s1q.c 1 rfl
  have y2 := s1q.c 2 rfl
  have y3 := s1q.c 3 rfl
  have y4 := s1q.c 4 rfl
  rw [hrd] at y4
  have hrd' : ¬ q.rdy = false := by rw [hrd]; decide
  have qn := q.hn
  have qd := q.hd
  have qa := q.ha
  have qu := q.hu
  have qf := q.hfet
  by_cases hc : chk r.size q.n q.d q.a q.u ≠ 0
  · have K := aside (kn _ (by unfold fetchP; rw [if_neg hrd', if_pos hc]))
    obtain ⟨C, hC⟩ : ∃ C, chk r.size q.n q.d q.a q.u = C := ⟨_, rfl⟩
    rw [hC] at K hc
    have hne : (C != 0) = true := by simp [hc]
    clear k kn s s1 hrd hrd'
    replace hC := aside hC
    go_enter Try.func60, Try.ntmps60
    go_wp2_with fail
    refine c_ringCheck s1q rfl q.n q.d q.a q.u qn qd qa qu ?_
    rw [hC.out]
    intro w2 s2
    clear s1q y0 y1 y2 y3 y4
    have s9 := ((((Sat.pc s2 Z 0).s0 (.int .u16 0)).s 1 (by simp) (.slice none 0 0)).s 2 (by simp) (.int .u64 0)).s 3 (by simp) (.int .u64 0)
    simp only [List.set_cons_succ, List.set_cons_zero, Nat.zero_add] at s9
    have g0 := s9.c0
    have g1 := s9.c 1 rfl
    have g2 := s9.c 2 rfl
    have g3 := s9.c 3 rfl
    simp only [Nat.zero_add] at g0 g1 g2 g3
    have x0 := (Sat.pc s2 Z 0).c0
    have x1 := (Sat.pc s2 Z 0).c 1 rfl
    have x2 := (Sat.pc s2 Z 0).c 2 rfl
    have x3 := (Sat.pc s2 Z 0).c 3 rfl
    simp only [Nat.zero_add] at x0 x1 x2 x3
    go_wp2
    refine bodyPost_ret (by simp [results, Try.results60, go_sem, g0.1, g1.1, g2.1, g3.1]; try rfl) rfl ?_
    exact K.out _ l _ (OwnS.nil 3) (LogQ.refl _ _ _) s9.emp.wk
  · have hv : q.okP r.size := QuM.okP_chk.2 (Classical.not_not.1 hc)
    have hn := QuM.okP_bd hv
    have hz := r.hsize
    have ha2 : 0 ≤ q.a ∧ q.a ≤ 4294967295 := by have := hv.2.2.1; unfold hasP at this; omega
    have hO := hw_bd r.hmem r.size (q.a + 2)
    have hin := aside (show ∀ x y, atSp (q.a + 2) 2 x y → inAvail q x y from fun x y h => by unfold atSp at h; unfold inAvail; omega)
    have hm1 := Int.emod_nonneg q.fet (show q.n ≠ 0 by omega)
    have hm2 := Int.emod_lt_of_pos q.fet (show 0 < q.n by omega)
    have hin2 := aside (show ∀ x y, atSp (q.a + 4 + 2 * (q.fet % q.n)) 2 x y → inAvail q x y from fun x y h => by unfold atSp at h; unfold inAvail; omega)
    have hC : chk r.size q.n q.d q.a q.u = 0 := Classical.not_not.1 hc
    have hON : offerN q r.size r.mem = (hw r.size r.mem (q.a + 2) - q.fet) % 65536 := rfl
    obtain ⟨O, hOe⟩ : ∃ O, hw r.size r.mem (q.a + 2) = O := ⟨_, rfl⟩
    rw [hOe] at hO hON
    obtain ⟨ON, hONe⟩ : ∃ ON, offerN q r.size r.mem = ON := ⟨_, rfl⟩
    rw [hONe] at hON
    have hONb : 0 ≤ ON ∧ ON ≤ 65535 := by omega
    have ew : IntKind.u16.wrap (O - q.fet) = ON := by rw [wrap_u16]; exact hON.symm
    have ew2 : IntKind.i64.wrap ON = ON := by simp [IntKind.wrap, IntKind.bits, IntKind.signed]; omega
    have kk := aside (show q.okP r.size → ¬ ON = 0 → ¬ q.n < ON → _ from fun _ h0 h1 => k ⟨q.fetched, true, headP q r.size r.mem, (walkQ q r.size r.mem).2.1, (walkQ q r.size r.mem).2.2.1, (walkQ q r.size r.mem).2.2.2, decide ((walkQ q r.size r.mem).1 = 0), (walkQ q r.size r.mem).1⟩ (by unfold fetchP; rw [if_neg hrd', if_neg hc, hONe, if_neg h0, if_neg h1]))
    have k0 := aside (show ON = 0 → _ from fun h0 => kn 0 (by unfold fetchP; rw [if_neg hrd', if_neg hc, hONe, if_pos h0]))
    have k1 := aside (show ¬ ON = 0 → q.n < ON → _ from fun h0 h1 => kn 156 (by unfold fetchP; rw [if_neg hrd', if_neg hc, hONe, if_neg h0, if_pos h1]))
    clear k kn s s1 hrd hrd' hc hON hm1 hm2
    replace hC := aside hC
    replace hOe := aside hOe
    replace hONe := aside hONe
    replace hv := aside hv
    go_enter Try.func60, Try.ntmps60
    go_wp2_with fail
    refine c_ringCheck s1q rfl q.n q.d q.a q.u qn qd qa qu ?_
    rw [hC.out]
    intro w2 s2
    have s2d := s2.drew
    have s2q : Sat W0 w2 H (cellsH ⟨qb, qo, none⟩ q.vals :: _) := s2.pc qb qo
    clear s1q y0 y1 y2 y3 y4
    have y0 := s2q.c0
    have y1 := s2q.c 1 rfl
    have y2 := s2q.c 2 rfl
    have y3 := s2q.c 3 rfl
    have y5 := s2q.c 5 rfl
    go_wp2
    go_region_held3 (fun w' => w'.cell? ⟨qb, qo, none⟩ = some (.int .i64 q.n) ∧ w'.cell? ⟨qb, qo + 1, none⟩ = some (.int .u64 q.d) ∧ w'.cell? ⟨qb, qo + 2, none⟩ = some (.int .u64 q.a) ∧ w'.cell? ⟨qb, qo + 3, none⟩ = some (.int .u64 q.u) ∧ w'.cell? ⟨qb, qo + 5, none⟩ = some (.int .u16 q.fet))
      (first | exact ⟨y0.1, y1.1, y2.1, y3.1, y5.1⟩ | exact ⟨z0.1, z1.1, z2.1, z3.1, z5.1⟩)
      (first
        | (go_at_call 122; refine c_OfferedL s2d q.n q.d q.a q.u ha2 ?_; rw [hOe.out]; intro w3 l3 hl3 s3; have z0 := (s3.pc qb qo).c0; have z1 := (s3.pc qb qo).c 1 rfl; have z2 := (s3.pc qb qo).c 2 rfl; have z3 := (s3.pc qb qo).c 3 rfl; have z5 := (s3.pc qb qo).c 5 rfl))
    all_goals
      replace hl3 := aside (hl3.mono hin.out (fun _ _ h => h))
      clear s2 s2d s2q y0 y1 y2 y3 y5
      by_cases h0 : ON = 0
      · have K := aside (k0.out h0)
        clear k0 k1 kk
        have s9 := ((((Sat.pc s3 Z 0).s0 (.int .u16 0)).s 1 (by simp) (.slice none 0 0)).s 2 (by simp) (.int .u64 0)).s 3 (by simp) (.int .u64 0)
        simp only [List.set_cons_succ, List.set_cons_zero, Nat.zero_add] at s9
        have g0 := s9.c0
        have g1 := s9.c 1 rfl
        have g2 := s9.c 2 rfl
        have g3 := s9.c 3 rfl
        simp only [Nat.zero_add] at g0 g1 g2 g3
        have x0 := (Sat.pc s3 Z 0).c0
        have x1 := (Sat.pc s3 Z 0).c 1 rfl
        have x2 := (Sat.pc s3 Z 0).c 2 rfl
        have x3 := (Sat.pc s3 Z 0).c 3 rfl
        simp only [Nat.zero_add] at x0 x1 x2 x3
        go_wp2
        refine bodyPost_ret (by simp [results, Try.results60, go_sem, g0.1, g1.1, g2.1, g3.1]; try rfl) rfl ?_
        exact K.out _ l3 _ (OwnS.nil 3) hl3.out s9.emp.wk
      by_cases h1 : q.n < ON
      · have K := aside (k1.out h0 h1)
        clear k0 k1 kk
        have s9 := ((((Sat.pc s3 Z 0).s0 (.int .u16 0)).s 1 (by simp) (.slice none 0 0)).s 2 (by simp) (.int .u64 0)).s 3 (by simp) (.int .u64 0)
        simp only [List.set_cons_succ, List.set_cons_zero, Nat.zero_add] at s9
        have g0 := s9.c0
        have g1 := s9.c 1 rfl
        have g2 := s9.c 2 rfl
        have g3 := s9.c 3 rfl
        simp only [Nat.zero_add] at g0 g1 g2 g3
        have x0 := (Sat.pc s3 Z 0).c0
        have x1 := (Sat.pc s3 Z 0).c 1 rfl
        have x2 := (Sat.pc s3 Z 0).c 2 rfl
        have x3 := (Sat.pc s3 Z 0).c 3 rfl
        simp only [Nat.zero_add] at x0 x1 x2 x3
        go_wp2
        refine bodyPost_ret (by simp [results, Try.results60, go_sem, g0.1, g1.1, g2.1, g3.1]; try rfl) rfl ?_
        exact K.out _ l3 _ (OwnS.nil 3) hl3.out s9.emp.wk
      replace kk := aside (kk.out hv.out h0 (by omega))
      clear k0 k1
      obtain ⟨N, hN⟩ : ∃ N : Nat, q.n = N := ⟨q.n.toNat, by omega⟩
      have hHb := hw_bd r.hmem r.size (q.a + 4 + 2 * (q.fet % q.n))
      have hHD := aside (show headP q r.size r.mem = hw r.size r.mem (q.a + 4 + 2 * (q.fet % q.n)) from rfl)
      obtain ⟨HD, hHe⟩ : ∃ y, hw r.size r.mem (q.a + 4 + 2 * (q.fet % q.n)) = y := ⟨_, rfl⟩
      rw [hHe] at hHb hHD
      have eh : IntKind.i64.wrap HD = HD := by simp [IntKind.wrap, IntKind.bits, IntKind.signed]; omega
      have ew3 : IntKind.u16.wrap (q.fet + 1) = up16 q.fet := wrap_u16 _
      have s3d := s3.drew
      replace hHe := aside hHe
      have hNb : N ≤ 256 := by omega
      replace hN := aside hN
      go_wp2
      go_region_held3 (fun w' => w'.cell? ⟨qb, qo, none⟩ = some (.int .i64 q.n) ∧ w'.cell? ⟨qb, qo + 1, none⟩ = some (.int .u64 q.d) ∧ w'.cell? ⟨qb, qo + 2, none⟩ = some (.int .u64 q.a) ∧ w'.cell? ⟨qb, qo + 3, none⟩ = some (.int .u64 q.u) ∧ w'.cell? ⟨qb, qo + 5, none⟩ = some (.int .u16 q.fet))
        (first | exact ⟨z0.1, z1.1, z2.1, z3.1, z5.1⟩ | exact ⟨v0.1, v1.1, v2.1, v3.1, v5.1⟩)
        (first
          | (go_at_call 123; refine c_HeadL s3d q.n q.d q.a q.u q.fet ha2 hn qf ?_; rw [hHe.out]; intro w4 l4 hl4 s4; have v0 := (s4.pc qb qo).c0; have v1 := (s4.pc qb qo).c 1 rfl; have v2 := (s4.pc qb qo).c 2 rfl; have v3 := (s4.pc qb qo).c 3 rfl; have v5 := (s4.pc qb qo).c 5 rfl))
      all_goals
        replace hl4 := aside (hl3.out.trans (hl4.mono hin2.out (fun _ _ h => h)))
        clear s3 s3d z0 z1 z2 z3 z5
        have s5 : Sat W0 _ H (cellsH ⟨qb, qo, none⟩ q.fetched.vals :: _) := (s4.pc qb qo).s 5 (by show 5 < 9; omega) (.int .u16 (up16 q.fet))
        obtain ⟨w5, hw5⟩ : ∃ y, w4.setCell ⟨qb, qo + 5, none⟩ (.int .u16 (up16 q.fet)) = y := ⟨_, rfl⟩
        have s5' := s5
        rw [hw5] at s5'
        have sA := s5'.drew
        have gA : w5.drew.cell? ⟨qb, qo, none⟩ = some (.int .i64 (N : Int)) ∧ w5.drew.cell? ⟨qb, qo + 1, none⟩ = some (.int .u64 q.d) ∧ w5.drew.cell? ⟨qb, qo + 2, none⟩ = some (.int .u64 q.a) ∧ w5.drew.cell? ⟨qb, qo + 3, none⟩ = some (.int .u64 q.u) ∧ w5.drew.cell? ⟨qb, qo + 8, none⟩ = some (.bool q.ind) := ⟨by have t0 := (Sat.pc sA qb qo).c0.1; rw [show q.fetched.n = N from hN.out] at t0; exact t0, ((Sat.pc sA qb qo).c 1 rfl).1, ((Sat.pc sA qb qo).c 2 rfl).1, ((Sat.pc sA qb qo).c 3 rfl).1, ((Sat.pc sA qb qo).c 8 rfl).1⟩
        have sB := (s5'.alloc (c := [.slice none 0 0, .int .u64 0, .int .u64 0]) (t := 50)).drew
        obtain ⟨Q, hQ⟩ : ∃ Q, w5.heap.size = Q := ⟨_, rfl⟩
        rw [hQ] at sB
        have gB : (w5.alloc (.cells #[.slice none 0 0, .int .u64 0, .int .u64 0] 50)).drew.cell? ⟨qb, qo, none⟩ = some (.int .i64 (N : Int)) ∧ (w5.alloc (.cells #[.slice none 0 0, .int .u64 0, .int .u64 0] 50)).drew.cell? ⟨qb, qo + 1, none⟩ = some (.int .u64 q.d) ∧ (w5.alloc (.cells #[.slice none 0 0, .int .u64 0, .int .u64 0] 50)).drew.cell? ⟨qb, qo + 2, none⟩ = some (.int .u64 q.a) ∧ (w5.alloc (.cells #[.slice none 0 0, .int .u64 0, .int .u64 0] 50)).drew.cell? ⟨qb, qo + 3, none⟩ = some (.int .u64 q.u) ∧ (w5.alloc (.cells #[.slice none 0 0, .int .u64 0, .int .u64 0] 50)).drew.cell? ⟨qb, qo + 8, none⟩ = some (.bool q.ind) := ⟨by have t0 := (Sat.pc sB qb qo).c0.1; rw [show q.fetched.n = N from hN.out] at t0; exact t0, ((Sat.pc sB qb qo).c 1 rfl).1, ((Sat.pc sB qb qo).c 2 rfl).1, ((Sat.pc sB qb qo).c 3 rfl).1, ((Sat.pc sB qb qo).c 8 rfl).1⟩
        have hhd : -9223372036854775808 ≤ HD ∧ HD ≤ 9223372036854775807 := by omega
        go_wp2
        try simp only [hw5]
        clear hw5 s5
        go_region_held3 (fun w' => w'.cell? ⟨qb, qo, none⟩ = some (.int .i64 N) ∧ w'.cell? ⟨qb, qo + 1, none⟩ = some (.int .u64 q.d) ∧ w'.cell? ⟨qb, qo + 2, none⟩ = some (.int .u64 q.a) ∧ w'.cell? ⟨qb, qo + 3, none⟩ = some (.int .u64 q.u) ∧ w'.cell? ⟨qb, qo + 8, none⟩ = some (.bool q.ind))
          (first | with_reducible exact gA | with_reducible exact gB | with_reducible exact gC | with_reducible exact gE | with_reducible exact gF)
          (first
            | (go_at_call 124; refine c_walk sA N q.d q.a q.u HD q.ind hNb qd hhd ?_; intro e segs ta tl hwk w6 v6 h6 l6 own6 hx6 s6; obtain ⟨L, LC, rfl, hLL, hLL2⟩ := own6.shp; obtain ⟨LL, hLe⟩ : ∃ LL, segs.length = LL := ⟨_, rfl⟩; rw [hLe] at own6 hLL ⊢; have gC : w6.cell? ⟨qb, qo, none⟩ = some (.int .i64 (N : Int)) ∧ w6.cell? ⟨qb, qo + 1, none⟩ = some (.int .u64 q.d) ∧ w6.cell? ⟨qb, qo + 2, none⟩ = some (.int .u64 q.a) ∧ w6.cell? ⟨qb, qo + 3, none⟩ = some (.int .u64 q.u) ∧ w6.cell? ⟨qb, qo + 8, none⟩ = some (.bool q.ind) := ⟨by have t0 := (Sat.pc s6 qb qo).c0.1; rw [show q.fetched.n = N from hN.out] at t0; exact t0, ((Sat.pc s6 qb qo).c 1 rfl).1, ((Sat.pc s6 qb qo).c 2 rfl).1, ((Sat.pc s6 qb qo).c 3 rfl).1, ((Sat.pc s6 qb qo).c 8 rfl).1⟩; have sE := s6.alloc (c := [.slice none 0 0, .int .u64 0, .int .u64 0]) (t := 50); have gE : (w6.alloc (.cells #[.slice none 0 0, .int .u64 0, .int .u64 0] 50)).cell? ⟨qb, qo, none⟩ = some (.int .i64 (N : Int)) ∧ (w6.alloc (.cells #[.slice none 0 0, .int .u64 0, .int .u64 0] 50)).cell? ⟨qb, qo + 1, none⟩ = some (.int .u64 q.d) ∧ (w6.alloc (.cells #[.slice none 0 0, .int .u64 0, .int .u64 0] 50)).cell? ⟨qb, qo + 2, none⟩ = some (.int .u64 q.a) ∧ (w6.alloc (.cells #[.slice none 0 0, .int .u64 0, .int .u64 0] 50)).cell? ⟨qb, qo + 3, none⟩ = some (.int .u64 q.u) ∧ (w6.alloc (.cells #[.slice none 0 0, .int .u64 0, .int .u64 0] 50)).cell? ⟨qb, qo + 8, none⟩ = some (.bool q.ind) := ⟨by have t0 := (Sat.pc sE qb qo).c0.1; rw [show q.fetched.n = N from hN.out] at t0; exact t0, ((Sat.pc sE qb qo).c 1 rfl).1, ((Sat.pc sE qb qo).c 2 rfl).1, ((Sat.pc sE qb qo).c 3 rfl).1, ((Sat.pc sE qb qo).c 8 rfl).1⟩; have s8 := s6.alloc (c := [.slice L LL LC, .int .u64 ta, .int .u64 tl]) (t := 50); have gF : (w6.alloc (.cells #[.slice L LL LC, .int .u64 ta, .int .u64 tl] 50)).cell? ⟨qb, qo, none⟩ = some (.int .i64 (N : Int)) ∧ (w6.alloc (.cells #[.slice L LL LC, .int .u64 ta, .int .u64 tl] 50)).cell? ⟨qb, qo + 1, none⟩ = some (.int .u64 q.d) ∧ (w6.alloc (.cells #[.slice L LL LC, .int .u64 ta, .int .u64 tl] 50)).cell? ⟨qb, qo + 2, none⟩ = some (.int .u64 q.a) ∧ (w6.alloc (.cells #[.slice L LL LC, .int .u64 ta, .int .u64 tl] 50)).cell? ⟨qb, qo + 3, none⟩ = some (.int .u64 q.u) ∧ (w6.alloc (.cells #[.slice L LL LC, .int .u64 ta, .int .u64 tl] 50)).cell? ⟨qb, qo + 8, none⟩ = some (.bool q.ind) := ⟨by have t0 := (Sat.pc s8 qb qo).c0.1; rw [show q.fetched.n = N from hN.out] at t0; exact t0, ((Sat.pc s8 qb qo).c 1 rfl).1, ((Sat.pc s8 qb qo).c 2 rfl).1, ((Sat.pc s8 qb qo).c 3 rfl).1, ((Sat.pc s8 qb qo).c 8 rfl).1⟩)
            | (go_at_call 124; refine c_walk sB N q.d q.a q.u HD q.ind hNb qd hhd ?_; intro e segs ta tl hwk w6 v6 h6 l6 own6 hx6 s6; obtain ⟨L, LC, rfl, hLL, hLL2⟩ := own6.shp; obtain ⟨LL, hLe⟩ : ∃ LL, segs.length = LL := ⟨_, rfl⟩; rw [hLe] at own6 hLL ⊢; have gC : w6.cell? ⟨qb, qo, none⟩ = some (.int .i64 (N : Int)) ∧ w6.cell? ⟨qb, qo + 1, none⟩ = some (.int .u64 q.d) ∧ w6.cell? ⟨qb, qo + 2, none⟩ = some (.int .u64 q.a) ∧ w6.cell? ⟨qb, qo + 3, none⟩ = some (.int .u64 q.u) ∧ w6.cell? ⟨qb, qo + 8, none⟩ = some (.bool q.ind) := ⟨by have t0 := (Sat.pc s6 qb qo).c0.1; rw [show q.fetched.n = N from hN.out] at t0; exact t0, ((Sat.pc s6 qb qo).c 1 rfl).1, ((Sat.pc s6 qb qo).c 2 rfl).1, ((Sat.pc s6 qb qo).c 3 rfl).1, ((Sat.pc s6 qb qo).c 8 rfl).1⟩; have u0 := (s6.pc Q 0).c0; have u1 := (s6.pc Q 0).c 1 rfl; have u2 := (s6.pc Q 0).c 2 rfl; have s8 := (((s6.pc Q 0).s0 (.slice L LL LC)).s 1 (by simp) (.int .u64 ta)).s 2 (by simp) (.int .u64 tl); simp only [List.set_cons_succ, List.set_cons_zero, Nat.zero_add] at s8 u0 u1 u2; have gF : (((w6.setCell ⟨Q, 0, none⟩ (.slice L LL LC)).setCell ⟨Q, 1, none⟩ (.int .u64 ta)).setCell ⟨Q, 2, none⟩ (.int .u64 tl)).cell? ⟨qb, qo, none⟩ = some (.int .i64 (N : Int)) ∧ (((w6.setCell ⟨Q, 0, none⟩ (.slice L LL LC)).setCell ⟨Q, 1, none⟩ (.int .u64 ta)).setCell ⟨Q, 2, none⟩ (.int .u64 tl)).cell? ⟨qb, qo + 1, none⟩ = some (.int .u64 q.d) ∧ (((w6.setCell ⟨Q, 0, none⟩ (.slice L LL LC)).setCell ⟨Q, 1, none⟩ (.int .u64 ta)).setCell ⟨Q, 2, none⟩ (.int .u64 tl)).cell? ⟨qb, qo + 2, none⟩ = some (.int .u64 q.a) ∧ (((w6.setCell ⟨Q, 0, none⟩ (.slice L LL LC)).setCell ⟨Q, 1, none⟩ (.int .u64 ta)).setCell ⟨Q, 2, none⟩ (.int .u64 tl)).cell? ⟨qb, qo + 3, none⟩ = some (.int .u64 q.u) ∧ (((w6.setCell ⟨Q, 0, none⟩ (.slice L LL LC)).setCell ⟨Q, 1, none⟩ (.int .u64 ta)).setCell ⟨Q, 2, none⟩ (.int .u64 tl)).cell? ⟨qb, qo + 8, none⟩ = some (.bool q.ind) := ⟨by have t0 := (Sat.pc s8 qb qo).c0.1; rw [show q.fetched.n = N from hN.out] at t0; exact t0, ((Sat.pc s8 qb qo).c 1 rfl).1, ((Sat.pc s8 qb qo).c 2 rfl).1, ((Sat.pc s8 qb qo).c 3 rfl).1, ((Sat.pc s8 qb qo).c 8 rfl).1⟩))
        · obtain ⟨V, hV⟩ : ∃ V, w6.heap.size = V := ⟨_, rfl⟩
          rw [hV] at s8
          simp only [hV]
          generalize hW8 : World.alloc w6 _ = w8 at s8 ⊢
          have c0 := s8.c0
          have c1 := s8.c 1 rfl
          have c2 := s8.c 2 rfl
          simp only [Nat.zero_add] at c0 c1 c2
          have hNN : q.n.toNat = N := by have := hN.out; omega
          have hwq : walkQ q r.size r.mem = (e, segs, ta, tl) := by unfold walkQ; rw [hNN, hHD.out]; exact hwk
          have hlg := aside (show LogQ (fetRd q ⟨q.fetched, true, HD, segs, ta, tl, decide (e = 0), e⟩) noP (lgs l) (lgs l6) from (hl4.out.mono (fun _ _ h => .inl h) (fun _ _ h => h)).trans (LogQ.ofR hx6 (fun a h => .inr ⟨rfl, by show rdP e ta tl q.d q.n.toNat a; rw [hNN]; exact h⟩)))
          have kk2 := kk.out
          rw [hwq, hHD.out] at kk2
          replace kk2 := aside kk2
          have hlies := walkP_lies r.hmem hwk hNb
          have x0 := (Sat.pc s8 Z 0).c0
          have x1 := (Sat.pc s8 Z 0).c 1 rfl
          have x2 := (Sat.pc s8 Z 0).c 2 rfl
          have x3 := (Sat.pc s8 Z 0).c 3 rfl
          simp only [Nat.zero_add] at x0 x1 x2 x3
          clear kk hx6 hwk hwq hW8 s6 gC gF gA gB sA sB s5' s4 hNN
          try clear gE sE
          by_cases he : e = 0
          · subst he
            have s9 := ((((Sat.pc s8 Z 0).s0 (.int .u16 HD)).s 1 (by simp) (.slice L LL LC)).s 2 (by simp) (.int .u64 ta)).s 3 (by simp) (.int .u64 tl)
            simp only [List.set_cons_succ, List.set_cons_zero, Nat.zero_add] at s9
            have g0 := s9.c0
            have g1 := s9.c 1 rfl
            have g2 := s9.c 2 rfl
            have g3 := s9.c 3 rfl
            simp only [Nat.zero_add] at g0 g1 g2 g3
            replace hLe := aside hLe
            clear hlies
            go_wp2
            refine bodyPost_ret (by simp [results, Try.results60, go_sem, g0.1, g1.1, g2.1, g3.1]; try rfl) rfl ?_
            exact kk2.out _ L LL LC h6 l6 (by rw [hLe.out]; exact own6) hlg.out s9.wk
          · have hne : (e != 0) = true := by simp [he]
            obtain ⟨rfl, rfl, rfl⟩ := hlies.2.2.2.1 he
            have kk3 := kk2.out
            rw [decide_eq_false he] at kk3
            replace kk3 := aside kk3
            have s9 := ((((Sat.pc s8 Z 0).s0 (.int .u16 HD)).s 1 (by simp) (.slice none 0 0)).s 2 (by simp) (.int .u64 0)).s 3 (by simp) (.int .u64 0)
            simp only [List.set_cons_succ, List.set_cons_zero, Nat.zero_add] at s9
            have g0 := s9.c0
            have g1 := s9.c 1 rfl
            have g2 := s9.c 2 rfl
            have g3 := s9.c 3 rfl
            simp only [Nat.zero_add] at g0 g1 g2 g3
            replace hLe := aside hLe
            clear hlies kk2 he
            go_wp2
            refine bodyPost_ret (by simp [results, Try.results60, go_sem, g0.1, g1.1, g2.1, g3.1]; try rfl) rfl ?_
            exact kk3.out _ none 0 0 empH l6 (OwnS.nil 3) hlg.out s9.emp.wk
        · generalize hW8 : World.setCell (World.setCell (World.setCell w6 _ _) _ _) _ _ = w8 at s8 ⊢
          have c0 := s8.c0
          have c1 := s8.c 1 rfl
          have c2 := s8.c 2 rfl
          simp only [Nat.zero_add] at c0 c1 c2
          have hNN : q.n.toNat = N := by have := hN.out; omega
          have hwq : walkQ q r.size r.mem = (e, segs, ta, tl) := by unfold walkQ; rw [hNN, hHD.out]; exact hwk
          have hlg := aside (show LogQ (fetRd q ⟨q.fetched, true, HD, segs, ta, tl, decide (e = 0), e⟩) noP (lgs l) (lgs l6) from (hl4.out.mono (fun _ _ h => .inl h) (fun _ _ h => h)).trans (LogQ.ofR hx6 (fun a h => .inr ⟨rfl, by show rdP e ta tl q.d q.n.toNat a; rw [hNN]; exact h⟩)))
          have kk2 := kk.out
          rw [hwq, hHD.out] at kk2
          replace kk2 := aside kk2
          have hlies := walkP_lies r.hmem hwk hNb
          have x0 := (Sat.pc s8 Z 0).c0
          have x1 := (Sat.pc s8 Z 0).c 1 rfl
          have x2 := (Sat.pc s8 Z 0).c 2 rfl
          have x3 := (Sat.pc s8 Z 0).c 3 rfl
          simp only [Nat.zero_add] at x0 x1 x2 x3
          clear kk hx6 hwk hwq hW8 s6 gC gF gA gB sA sB s5' s4 hNN
          try clear gE sE
          by_cases he : e = 0
          · subst he
            have s9 := ((((Sat.pc s8 Z 0).s0 (.int .u16 HD)).s 1 (by simp) (.slice L LL LC)).s 2 (by simp) (.int .u64 ta)).s 3 (by simp) (.int .u64 tl)
            simp only [List.set_cons_succ, List.set_cons_zero, Nat.zero_add] at s9
            have g0 := s9.c0
            have g1 := s9.c 1 rfl
            have g2 := s9.c 2 rfl
            have g3 := s9.c 3 rfl
            simp only [Nat.zero_add] at g0 g1 g2 g3
            replace hLe := aside hLe
            clear hlies
            go_wp2
            refine bodyPost_ret (by simp [results, Try.results60, go_sem, g0.1, g1.1, g2.1, g3.1]; try rfl) rfl ?_
            exact kk2.out _ L LL LC h6 l6 (by rw [hLe.out]; exact own6) hlg.out s9.wk
          · have hne : (e != 0) = true := by simp [he]
            obtain ⟨rfl, rfl, rfl⟩ := hlies.2.2.2.1 he
            have kk3 := kk2.out
            rw [decide_eq_false he] at kk3
            replace kk3 := aside kk3
            have s9 := ((((Sat.pc s8 Z 0).s0 (.int .u16 HD)).s 1 (by simp) (.slice none 0 0)).s 2 (by simp) (.int .u64 0)).s 3 (by simp) (.int .u64 0)
            simp only [List.set_cons_succ, List.set_cons_zero, Nat.zero_add] at s9
            have g0 := s9.c0
            have g1 := s9.c 1 rfl
            have g2 := s9.c 2 rfl
            have g3 := s9.c 3 rfl
            simp only [Nat.zero_add] at g0 g1 g2 g3
            replace hLe := aside hLe
            clear hlies kk2 he
            go_wp2
            refine bodyPost_ret (by simp [results, Try.results60, go_sem, g0.1, g1.1, g2.1, g3.1]; try rfl) rfl ?_
            exact kk3.out _ none 0 0 empH l6 (OwnS.nil 3) hlg.out s9.emp.wk
end
end Go.Proofs.Ytiibiamobkhlbaa

namespace Go.Proofs.Ytiibiamobkhlbaa
open Go.RowKit
set_option linter.unusedVariables false
set_option linter.unusedSimpArgs false

/-- a device: its state then, the memory, how many bytes it wrote; none: not yet -/
abbrev DevF (σ : Type) := σ → (Int → Int) → List SegM → Option (σ × (Int → Int) × Int)
structure ServeR (σ : Type) where
  q : QuM
  st : σ
  mem : Int → Int
  e : Int
def serveP {σ : Type} (dev : DevF σ) (size : Int) : Nat → QuM → σ → (Int → Int) → ServeR σ
  | 0, q, x, m => ⟨q, x, m, 0⟩
  | n + 1, q, x, m =>
    if (fetchP q size m).e ≠ 0 then ⟨(fetchP q size m).q, x, m, (fetchP q size m).e⟩
    else if (fetchP q size m).ok = false then ⟨q, x, m, 0⟩
    else match dev x m (fetchP q size m).segs with
      | none => ⟨q, x, m, 0⟩
      | some (x', m', ct) => serveP dev size n (fetchP q size m).q.ret x' (retM (fetchP q size m).q m' (fetchP q size m).hd ct)
/-- what is read, and written, while so many are served -/
def srvRd {σ : Type} (dev : DevF σ) (size : Int) : Nat → QuM → σ → (Int → Int) → Int → Int → Prop
  | 0, _, _, _, _, _ => False
  | n + 1, q, x, m, y, k => fetRd q (fetchP q size m) y k ∨ ((fetchP q size m).e = 0 ∧ (fetchP q size m).ok = true ∧ (inSeg false (fetchP q size m).segs y k ∨
    match dev x m (fetchP q size m).segs with
      | none => False
      | some (x', m', ct) => srvRd dev size n (fetchP q size m).q.ret x' (retM (fetchP q size m).q m' (fetchP q size m).hd ct) y k))
def srvWr {σ : Type} (dev : DevF σ) (size : Int) : Nat → QuM → σ → (Int → Int) → Int → Int → Prop
  | 0, _, _, _, _, _ => False
  | n + 1, q, x, m, y, k => (fetchP q size m).e = 0 ∧ (fetchP q size m).ok = true ∧ (inSeg true (fetchP q size m).segs y k ∨ inUsed q y k ∨
    match dev x m (fetchP q size m).segs with
      | none => False
      | some (x', m', ct) => srvWr dev size n (fetchP q size m).q.ret x' (retM (fetchP q size m).q m' (fetchP q size m).hd ct) y k)
/-- the memory in the end, and whether the driver wants to be told -/
def endM (q : QuM) (e : Int) (m : Int → Int) : Int → Int := if e = 0 ∧ q.rdy = true then askM q m else m

section
variable {σ : Type} {dev : DevF σ} {size : Int} {n : Nat} {q : QuM} {x x' : σ} {m m' : Int → Int} {ct y k : Int}
theorem serveP_err (he : (fetchP q size m).e ≠ 0) : serveP dev size (n + 1) q x m = ⟨(fetchP q size m).q, x, m, (fetchP q size m).e⟩ := if_pos he
theorem serveP_no (he : (fetchP q size m).e = 0) (ho : (fetchP q size m).ok = false) : serveP dev size (n + 1) q x m = ⟨q, x, m, 0⟩ := by
  rw [serveP, if_neg (not_not_intro he), if_pos ho]
theorem serveP_none (he : (fetchP q size m).e = 0) (ho : (fetchP q size m).ok = true) (hd : dev x m (fetchP q size m).segs = none) : serveP dev size (n + 1) q x m = ⟨q, x, m, 0⟩ := by
  rw [serveP, if_neg (not_not_intro he), if_neg (by rw [ho]; decide), hd]
theorem serveP_some (he : (fetchP q size m).e = 0) (ho : (fetchP q size m).ok = true) (hd : dev x m (fetchP q size m).segs = some (x', m', ct)) : serveP dev size (n + 1) q x m = serveP dev size n (fetchP q size m).q.ret x' (retM (fetchP q size m).q m' (fetchP q size m).hd ct) := by
  rw [serveP, if_neg (not_not_intro he), if_neg (by rw [ho]; decide), hd]
theorem srvRd_fet (h : fetRd q (fetchP q size m) y k) : srvRd dev size (n + 1) q x m y k := .inl h
theorem srvRd_seg (he : (fetchP q size m).e = 0) (ho : (fetchP q size m).ok = true) (h : inSeg false (fetchP q size m).segs y k) : srvRd dev size (n + 1) q x m y k := .inr ⟨he, ho, .inl h⟩
theorem srvRd_rec (he : (fetchP q size m).e = 0) (ho : (fetchP q size m).ok = true) (hd : dev x m (fetchP q size m).segs = some (x', m', ct)) (h : srvRd dev size n (fetchP q size m).q.ret x' (retM (fetchP q size m).q m' (fetchP q size m).hd ct) y k) : srvRd dev size (n + 1) q x m y k := by
  refine .inr ⟨he, ho, .inr ?_⟩
  rw [hd]; exact h
theorem srvWr_seg (he : (fetchP q size m).e = 0) (ho : (fetchP q size m).ok = true) (h : inSeg true (fetchP q size m).segs y k) : srvWr dev size (n + 1) q x m y k := ⟨he, ho, .inl h⟩
theorem srvWr_used (he : (fetchP q size m).e = 0) (ho : (fetchP q size m).ok = true) (h : inUsed q y k) : srvWr dev size (n + 1) q x m y k := ⟨he, ho, .inr (.inl h)⟩
theorem srvWr_rec (he : (fetchP q size m).e = 0) (ho : (fetchP q size m).ok = true) (hd : dev x m (fetchP q size m).segs = some (x', m', ct)) (h : srvWr dev size n (fetchP q size m).q.ret x' (retM (fetchP q size m).q m' (fetchP q size m).hd ct) y k) : srvWr dev size (n + 1) q x m y k := by
  refine ⟨he, ho, .inr (.inr ?_)⟩
  rw [hd]; exact h

/-- alike but for what was fetched and used -/
def QuM.Kin (q q' : QuM) : Prop := q'.n = q.n ∧ q'.d = q.d ∧ q'.a = q.a ∧ q'.u = q.u ∧ q'.rdy = q.rdy ∧ q'.ev = q.ev ∧ q'.ind = q.ind
theorem QuM.Kin.refl (q : QuM) : QuM.Kin q q := ⟨rfl, rfl, rfl, rfl, rfl, rfl, rfl⟩
theorem QuM.Kin.fetched {q q' : QuM} (h : QuM.Kin q q') : QuM.Kin q q'.fetched := h
theorem QuM.Kin.ret {q q' : QuM} (h : QuM.Kin q q') : QuM.Kin q q'.ret := h
theorem QuM.Kin.okP {q q' : QuM} (h : QuM.Kin q q') : q'.okP size ↔ q.okP size := by
  obtain ⟨h1, h2, h3, h4, _⟩ := h
  unfold QuM.okP
  rw [h1, h2, h3, h4]
theorem QuM.Kin.used {q q' : QuM} (h : QuM.Kin q q') : inUsed q' y k ↔ inUsed q y k := by
  obtain ⟨h1, h2, h3, h4, _⟩ := h
  unfold inUsed
  rw [h1, h4]
theorem QuM.Kin.avail {q q' : QuM} (h : QuM.Kin q q') : inAvail q' y k ↔ inAvail q y k := by
  obtain ⟨h1, h2, h3, h4, _⟩ := h
  unfold inAvail
  rw [h1, h3]
theorem fetchP_ok (h : (fetchP q size m).ok = true) : (fetchP q size m).q = q.fetched ∧ (fetchP q size m).e = 0 ∧ q.okP size ∧ q.rdy = true ∧ (fetchP q size m).hd = headP q size m ∧ walkP m size q.d q.n.toNat (headP q size m) q.ind = (0, (fetchP q size m).segs, (fetchP q size m).ta, (fetchP q size m).tl) := by
  unfold fetchP at h ⊢
  by_cases h1 : q.rdy = false
  · rw [if_pos h1] at h; exact absurd h (by simp [FetchR.none])
  rw [if_neg h1] at h ⊢
  by_cases h2 : chk size q.n q.d q.a q.u ≠ 0
  · rw [if_pos h2] at h; exact absurd h (by simp [FetchR.none])
  rw [if_neg h2] at h ⊢
  by_cases h3 : offerN q size m = 0
  · rw [if_pos h3] at h; exact absurd h (by simp [FetchR.none])
  rw [if_neg h3] at h ⊢
  by_cases h4 : q.n < offerN q size m
  · rw [if_pos h4] at h; exact absurd h (by simp [FetchR.none])
  rw [if_neg h4] at h ⊢
  have h5 : (walkQ q size m).1 = 0 := by simpa using h
  refine ⟨rfl, h5, QuM.okP_chk.2 (Classical.not_not.1 h2), by simpa using h1, rfl, ?_⟩
  show walkQ q size m = _
  rw [← h5]
theorem fetchP_kin {q0 : QuM} (h : QuM.Kin q0 q) : QuM.Kin q0 (fetchP q size m).q ∧ (fetchP q size m).q.us = q.us := by
  unfold fetchP
  by_cases h1 : q.rdy = false
  · rw [if_pos h1]; exact ⟨h, rfl⟩
  rw [if_neg h1]
  by_cases h2 : chk size q.n q.d q.a q.u ≠ 0
  · rw [if_pos h2]; exact ⟨h, rfl⟩
  rw [if_neg h2]
  by_cases h3 : offerN q size m = 0
  · rw [if_pos h3]; exact ⟨h, rfl⟩
  rw [if_neg h3]
  by_cases h4 : q.n < offerN q size m
  · rw [if_pos h4]; exact ⟨h, rfl⟩
  rw [if_neg h4]; exact ⟨h, rfl⟩
theorem fetchP_no (he : (fetchP q size m).e = 0) (ho : (fetchP q size m).ok = false) : (fetchP q size m).q = q ∧ (q.rdy = true → q.okP size) := by
  unfold fetchP at he ho ⊢
  by_cases h1 : q.rdy = false
  · rw [if_pos h1]; exact ⟨rfl, fun h => by rw [h1] at h; cases h⟩
  rw [if_neg h1] at he ho ⊢
  by_cases h2 : chk size q.n q.d q.a q.u ≠ 0
  · rw [if_pos h2] at he; exact absurd he h2
  rw [if_neg h2] at he ho ⊢
  have hok : q.okP size := QuM.okP_chk.2 (Classical.not_not.1 h2)
  by_cases h3 : offerN q size m = 0
  · rw [if_pos h3]; exact ⟨rfl, fun _ => hok⟩
  rw [if_neg h3] at he ho ⊢
  by_cases h4 : q.n < offerN q size m
  · rw [if_pos h4]; exact ⟨rfl, fun _ => hok⟩
  rw [if_neg h4] at he ho
  simp only at he ho
  rw [he] at ho
  simp at ho
theorem fetchP_e (ho : (fetchP q size m).ok = true) : (fetchP q size m).e = 0 := (fetchP_ok ho).2.1
end

/-- a device's contract: called with a chain that lies in the memory -/
def DevC {σ : Type} (fnum : Nat) (caps : Array Value) (mb : Nat) (W0 : World) (dev : DevF σ) (Dv : Hp → σ → List Hp → Prop) : Prop :=
  ∀ (R : Ending → World → Prop) (w : World) (H : Hp) (X G : List Hp) (x : σ) (r : RamG) (l : Option LogG) (h : Hp) (B : Option Addr) (n c : Nat) (segs : List SegM) (ta tl : Int),
    Dv H x X → OwnS 3 (.slice B n c) segs.length (encG segs) h → (segs.length ≤ 511 ∧ ∀ s ∈ segs, hasP r.size s.1 s.2.1 ∧ 0 ≤ s.2.1) → ordP segs →
    Sat W0 w H (X ++ (ramL ⟨mb, 0, none⟩ (r, l) ++ (h :: G))) →
    (dev x r.mem segs = none → ∀ w', Sat W0 w' H (X ++ (ramL ⟨mb, 0, none⟩ (r, l) ++ (h :: G))) → R (.returned (.tuple #[.int .u32 0, .bool false])) w') →
    (∀ x' m' ct, dev x r.mem segs = some (x', m', ct) → ∀ w' H' X' r' l', (∀ l c, H l = some c → H' l = some c) → Dv H' x' X' → r'.mem = m' → r'.size = r.size → LogQ (inSeg false segs) (inSeg true segs) (lgs l) (lgs l') → 0 ≤ ct ∧ ct ≤ 4294967295 → Sat W0 w' H' (X' ++ (ramL ⟨mb, 0, none⟩ (r', l') ++ (h :: G))) → R (.returned (.tuple #[.int .u32 ct, .bool true])) w') →
    Calls Try.prog fnum (#[.agg #[.slice B n c, .int .u64 ta, .int .u64 tl]] ++ caps) w R

section
variable {R : Ending → World → Prop} {W0 w : World} {H : Hp} {A F X : List Hp} {b qb qo : Nat} {r : RamG} {l : Option LogG} {σ : Type} {dev : DevF σ} {Dv : Hp → σ → List Hp → Prop} {fnum : Nat} {caps : Array Value}


set_option maxRecDepth 100000 in
set_option maxHeartbeats 4000000 in
theorem c_qServe (hcf : ∀ (av : Array Value) (w : World), Sem.run Try.prog (callFunc fnum av) w = .ok (.enter fnum av) w) (hdev : DevC fnum caps b W0 dev Dv) (q : QuM) (x : σ) (hx : Dv H x X) (s : Sat W0 w H (cellsH ⟨qb, qo, none⟩ q.vals :: (X ++ (ramL ⟨b, 0, none⟩ (r, l) ++ F))))
    (k : ∀ f, serveP dev r.size 65537 q x r.mem = f → ∀ w' H' X' r' l', (∀ l c, H l = some c → H' l = some c) → Dv H' f.st X' → r'.mem = endM f.q f.e f.mem → r'.size = r.size →
      LogQ (fun y k => srvRd dev r.size 65537 q x r.mem y k ∨ inAvail q y k) (fun y k => srvWr dev r.size 65537 q x r.mem y k ∨ inUsed q y k) (lgs l) (lgs l') →
      Sat W0 w' H' (cellsH ⟨qb, qo, none⟩ f.q.vals :: (X' ++ (ramL ⟨b, 0, none⟩ (r', l') ++ F))) → R (.returned (.tuple #[.bool (tellsP f.q r.size (endM f.q f.e f.mem) q.us), .int .i64 f.e])) w') :
    Calls Try.prog 16 #[.pointer (some ⟨qb, qo, none⟩), .pointer (some ⟨b, 0, none⟩), .func (.func fnum) #[] caps] w R := by
  have y6 := s.c 6 rfl
  have hPa := aside (show ∀ y k, inAvail q y k → (fun y k => srvRd dev r.size 65537 q x r.mem y k ∨ inAvail q y k) y k from fun _ _ h => .inr h)
  have hQu := aside (show ∀ y k, inUsed q y k → (fun y k => srvWr dev r.size 65537 q x r.mem y k ∨ inUsed q y k) y k from fun _ _ h => .inr h)
  have hPs := aside (show ∀ y k, srvRd dev r.size 65537 q x r.mem y k → (fun y k => srvRd dev r.size 65537 q x r.mem y k ∨ inAvail q y k) y k from fun _ _ h => .inl h)
  have hQs := aside (show ∀ y k, srvWr dev r.size 65537 q x r.mem y k → (fun y k => srvWr dev r.size 65537 q x r.mem y k ∨ inUsed q y k) y k from fun _ _ h => .inl h)
  obtain ⟨PF, hPF⟩ : ∃ P : Int → Int → Prop, (fun y k => srvRd dev r.size 65537 q x r.mem y k ∨ inAvail q y k) = P := ⟨_, rfl⟩
  obtain ⟨QF, hQF⟩ : ∃ P : Int → Int → Prop, (fun y k => srvWr dev r.size 65537 q x r.mem y k ∨ inUsed q y k) = P := ⟨_, rfl⟩
  rw [hPF] at hPa hPs k
  rw [hQF] at hQu hQs k
  clear hPF hQF
  obtain ⟨FIN, hFIN⟩ : ∃ f, serveP dev r.size 65537 q x r.mem = f := ⟨_, rfl⟩
  replace k := aside (k FIN hFIN)
  replace hFIN := aside hFIN
  replace hx := aside hx
  replace hdev := aside hdev
  go_enter Try.func16, Try.ntmps16
  go_wp2
  obtain ⟨FUEL, hFU⟩ : ∃ n : Nat, n = 65537 := ⟨_, rfl⟩
  clear y6
  go_loopg [9] FUEL (fun p v9 w' => ∃ (i : Nat) (q' : QuM) (x' : σ) (X' : List Hp) (r' : RamG) (l' : Option LogG) (H' : Hp), p + i = FUEL ∧ v9 = .int .i64 i ∧ Aside (serveP dev r.size p q' x' r'.mem = FIN) ∧ Aside (∀ l c, H l = some c → H' l = some c) ∧ Aside (Dv H' x' X') ∧ Aside (r'.size = r.size) ∧ Aside (QuM.Kin q q') ∧ Aside (i = 0 ∧ q'.us = q.us ∨ q'.okP r.size) ∧ Aside (LogQ PF QF (lgs l) (lgs l')) ∧ Aside (∀ y k, srvRd dev r.size p q' x' r'.mem y k → PF y k) ∧ Aside (∀ y k, srvWr dev r.size p q' x' r'.mem y k → QF y k) ∧
    Sat W0 w' H' (cellsH ⟨qb, qo, none⟩ q'.vals :: (X' ++ (ramL ⟨b, 0, none⟩ (r', l') ++ F))))
  case atStart => exact ⟨0, q, x, X, r, l, H, by omega, rfl, by rw [hFU]; exact hFIN, aside (fun _ _ h => h), hx, aside rfl, aside (QuM.Kin.refl q), aside (.inl ⟨rfl, rfl⟩), aside (LogQ.refl _ _ _), by rw [hFU]; exact hPs, by rw [hFU]; exact hQs, s⟩
  clear s hPs hQs hFIN hx
  case round =>
    obtain ⟨i, q1, x1, X1, r1, l1, H1, hp, rfl, hFI, le1, hx1, hr1, hkin, hus, hlog, hPs, hQs, t⟩ := hrel
    have htl0 := aside (show q.us ≠ q1.us → q1.okP r.size from fun h => hus.out.elim (fun h2 => absurd h2.2.symm h) (fun h2 => h2))
    by_cases hi : i < 65537
    · have hi2 : (i : Int) ≤ 65536 := by omega
      obtain ⟨p0, hp0⟩ : ∃ p0, gk = p0 + 1 := ⟨gk - 1, by omega⟩
      rw [hp0] at hFI hPs hQs
      have t1 : Sat W0 wr H1 (cellsH ⟨qb, qo, none⟩ q1.vals :: (ramL ⟨b, 0, none⟩ (r1, l1) ++ (X1 ++ F))) := t.wk
      have t5 := t.c 5 rfl
      have hfk := aside (fetchP_kin (size := r1.size) (m := r1.mem) hkin.out)
      have hPf := aside (show ∀ y k, fetRd q1 (fetchP q1 r1.size r1.mem) y k → PF y k from fun y k h => hPs.out y k (by rw [← hr1.out]; exact srvRd_fet h))
      clear t
      replace hp := aside hp
      replace hp0 := aside hp0
      go_wp2_with fail
      refine c_qFetch q1 t1 ?_
      intro f hf w2 B n c h l2 own2 hl2 s2
      clear t1 t5
      rw [hf] at hPf hfk
      replace hlog := aside (hlog.out.trans (hl2.mono hPf.out (fun _ _ h => h.elim)))
      clear hl2 hPf
      have hf' : fetchP q1 r.size r1.mem = f := by rw [← hr1.out]; exact hf
      have s3 := s2.alloc (c := [.int .u16 f.hd, .slice B n c, .int .u64 f.ta, .int .u64 f.tl]) (t := 144)
      obtain ⟨Y, hY⟩ : ∃ Y, w2.heap.size = Y := ⟨_, rfl⟩
      rw [hY] at s3
      cases ho : f.ok with
      | false =>
        by_cases he : f.e = 0
        · have hno := fetchP_no (q := q1) (size := r.size) (m := r1.mem) (by rw [hf']; exact he) (by rw [hf']; exact ho)
          rw [hf'] at hno
          have s4 : Sat W0 _ H1 (cellsH ⟨qb, qo, none⟩ f.q.vals :: (ramL ⟨b, 0, none⟩ (r1, l2) ++ (X1 ++ F))) := s3.wk
          rw [hno.1] at s4
          have hFI2 : (⟨q1, x1, r1.mem, 0⟩ : ServeR σ) = FIN := by rw [← hFI.out, serveP_no (by rw [hf']; exact he) (by rw [hf']; exact ho)]
          replace hFI := aside hFI2
          have hask0 := aside (show q1.rdy = true → q1.okP r1.size from fun h => by rw [hr1.out]; exact hno.2 h)
          have hne : (f.e != 0) = false := by simp [he]
          clear s2 s3 hno hFI2 hPs hQs own2 hf hf' hfk
          rw [he]
          clear he hne ho
          have hkr : q1.rdy = q.rdy := hkin.out.2.2.2.2.1
          cases hrd : q1.rdy with
          | true =>
            have e4 := s4.c 4 rfl
            rw [hrd] at e4
            have hask := aside (show q1.ev = true → q1.okP r1.size from fun _ => hask0.out hrd)
            have hem := aside (show endM q1 0 r1.mem = askM q1 r1.mem from if_pos ⟨rfl, hrd⟩)
            have s2p : Sat W0 _ H1 (cellsH ⟨qb, qo, none⟩ (q1).vals :: (ramL ⟨b, 0, none⟩ (r1, l2) ++ (X1 ++ F))) := s4.wk
            clear s4
            go_wp2_with fail
            refine c_qAsk q1 s2p hask.out ?_
            intro w5 r5 l5 hm5 hz5 hl5 s5
            have htl := aside (show q.us ≠ (q1).us → (q1).okP r5.size from fun h => by rw [hz5, hr1.out]; exact htl0.out h)
            clear s2p e4
            go_wp2_with fail
            refine c_qTells q1 s5 q.us q.hus htl.out ?_
            intro w6 l6 hl6 s6
            clear s5
            rw [hm5, hz5, hr1.out]
            have hlg := aside ((hlog.out.trans (hl5.mono (fun _ _ h => h.elim) (fun y k h => hQu.out y k (hkin.out.used.1 h)))).trans (hl6.mono (fun y k h => hPa.out y k (hkin.out.avail.1 h)) (fun _ _ h => h.elim)))
            have hm7 := aside (show r5.mem = endM FIN.q FIN.e FIN.mem by rw [← hFI.out, hm5, hem.out])
            have hz7 := aside (hz5.trans hr1.out)
            have kk := k.out w6 H1 X1 r5 l6 le1.out (by rw [← hFI.out]; exact hx1.out) hm7.out hz7.out hlg.out (by rw [← hFI.out]; exact s6.wk)
            rw [← hFI.out] at kk
            simp only at kk
            rw [hem.out] at kk
            replace kk := aside kk
            clear hm5 hz5 hl5 hl6 s6
            go_wp2
            exact kk.out
          | false =>
            have e4 := s4.c 4 rfl
            rw [hrd] at e4
            have hem := aside (show endM q1 0 r1.mem = r1.mem from if_neg (by rw [hrd]; simp))
            have s2p : Sat W0 _ H1 (cellsH ⟨qb, qo, none⟩ (q1).vals :: (ramL ⟨b, 0, none⟩ (r1, l2) ++ (X1 ++ F))) := s4.wk
            have htl := aside (show q.us ≠ (q1).us → (q1).okP r1.size from fun h => by rw [hr1.out]; exact htl0.out h)
            clear s4
            go_wp2_with fail
            refine c_qTells q1 s2p q.us q.hus htl.out ?_
            intro w6 l6 hl6 s6
            clear s2p e4
            rw [hr1.out]
            have hlg := aside (hlog.out.trans (hl6.mono (fun y k h => hPa.out y k (hkin.out.avail.1 h)) (fun _ _ h => h.elim)))
            have hm7 := aside (show r1.mem = endM FIN.q FIN.e FIN.mem by rw [← hFI.out, hem.out])
            have kk := k.out w6 H1 X1 r1 l6 le1.out (by rw [← hFI.out]; exact hx1.out) hm7.out hr1.out hlg.out (by rw [← hFI.out]; exact s6.wk)
            rw [← hFI.out] at kk
            simp only at kk
            rw [hem.out] at kk
            replace kk := aside kk
            clear hl6 s6
            go_wp2
            exact kk.out
        · have hFI2 : (⟨f.q, x1, r1.mem, f.e⟩ : ServeR σ) = FIN := by rw [← hFI.out, serveP_err (by rw [hf']; exact he), hf']
          replace hFI := aside hFI2
          have hne : (f.e != 0) = true := by simp [he]
          have s4 : Sat W0 _ H1 (cellsH ⟨qb, qo, none⟩ f.q.vals :: (ramL ⟨b, 0, none⟩ (r1, l2) ++ (X1 ++ F))) := s3.wk
          have htl := aside (show q.us ≠ f.q.us → f.q.okP r1.size from fun h => by
            rw [hr1.out, hfk.out.1.okP, ← hkin.out.okP]
            exact htl0.out (by rw [← hfk.out.2]; exact h))
          have hem := aside (show endM f.q f.e r1.mem = r1.mem from if_neg (fun h => he h.1))
          obtain ⟨ER, hER⟩ : ∃ y, f.e = y := ⟨_, rfl⟩
          rw [hER] at hne ⊢
          replace he := aside he
          replace hER := aside hER
          clear s2 s3 hFI2 hPs hQs own2 hf hf'
          go_wp2_with fail
          refine c_qTells f.q s4 q.us q.hus htl.out ?_
          intro w6 l6 hl6 s6
          clear s4
          rw [hr1.out]
          have hlg := aside (hlog.out.trans (hl6.mono (fun y k h => hPa.out y k (hfk.out.1.avail.1 h)) (fun _ _ h => h.elim)))
          have hm7 := aside (show r1.mem = endM FIN.q FIN.e FIN.mem by rw [← hFI.out, hem.out])
          have kk := k.out w6 H1 X1 r1 l6 le1.out (by rw [← hFI.out]; exact hx1.out) hm7.out hr1.out hlg.out (by rw [← hFI.out]; exact s6.wk)
          rw [← hFI.out] at kk
          simp only at kk
          rw [hem.out, hER.out] at kk
          replace kk := aside kk
          clear hl6 s6
          go_wp2
          exact kk.out
      | true =>
        obtain ⟨hq2, he, hok, hrdy, hhd, hwk⟩ := fetchP_ok (q := q1) (size := r.size) (m := r1.mem) (by rw [hf']; exact ho)
        rw [hf'] at hq2 he hhd hwk
        have hn := QuM.okP_bd hok
        have hlies := walkP_lies r1.hmem hwk (by omega)
        have hsg := aside (show f.segs.length ≤ 511 ∧ ∀ s ∈ f.segs, hasP r1.size s.1 s.2.1 ∧ 0 ≤ s.2.1 from ⟨hlies.2.2.1, fun s hs => by rw [hr1.out]; exact hlies.1 s hs⟩)
        have hord := aside hlies.2.1
        have hdb : 0 ≤ f.hd ∧ f.hd ≤ 65535 := by rw [hhd]; exact hw_bd r1.hmem _ _
        have hok1 := aside (show f.q.okP r.size by rw [hq2]; exact hok)
        have hask0 := aside (show q1.rdy = true → q1.okP r1.size from fun _ => by rw [hr1.out]; exact hok)
        have s4 : Sat W0 _ H1 (X1 ++ (ramL ⟨b, 0, none⟩ (r1, l2) ++ (h :: (cellsH ⟨Y, 0, none⟩ [.int .u16 f.hd, .slice B n c, .int .u64 f.ta, .int .u64 f.tl] :: cellsH ⟨qb, qo, none⟩ f.q.vals :: F)))) := s3.wk
        have y0 := s3.cel Y 0 0 rfl
        have y1 := s3.cel Y 0 1 rfl
        have y2 := s3.cel Y 0 2 rfl
        have y3 := s3.cel Y 0 3 rfl
        simp only [Nat.zero_add] at y0 y1 y2 y3
        have hPn := aside (show ∀ x' m' ct, dev x1 r1.mem f.segs = some (x', m', ct) → (∀ y k, srvRd dev r.size p0 f.q.ret x' (retM f.q m' f.hd ct) y k → PF y k) ∧ (∀ y k, srvWr dev r.size p0 f.q.ret x' (retM f.q m' f.hd ct) y k → QF y k) ∧ serveP dev r.size p0 f.q.ret x' (retM f.q m' f.hd ct) = FIN from fun x' m' ct hd => by
          refine ⟨fun y k h => hPs.out y k (srvRd_rec (by rw [hf']; exact he) (by rw [hf']; exact ho) (by rw [hf']; exact hd) (by rw [hf']; exact h)), fun y k h => hQs.out y k (srvWr_rec (by rw [hf']; exact he) (by rw [hf']; exact ho) (by rw [hf']; exact hd) (by rw [hf']; exact h)), ?_⟩
          rw [← hFI.out, serveP_some (by rw [hf']; exact he) (by rw [hf']; exact ho) (by rw [hf']; exact hd), hf'])
        have hSg := aside (show (∀ y k, inSeg false f.segs y k → PF y k) ∧ (∀ y k, inSeg true f.segs y k → QF y k) from ⟨fun y k h => hPs.out y k (srvRd_seg (by rw [hf']; exact he) (by rw [hf']; exact ho) (by rw [hf']; exact h)), fun y k h => hQs.out y k (srvWr_seg (by rw [hf']; exact he) (by rw [hf']; exact ho) (by rw [hf']; exact h))⟩)
        have hNo := aside (show dev x1 r1.mem f.segs = none → (⟨q1, x1, r1.mem, 0⟩ : ServeR σ) = FIN from fun hd => by
          rw [← hFI.out, serveP_none (by rw [hf']; exact he) (by rw [hf']; exact ho) (by rw [hf']; exact hd)])
        have own2' := aside own2
        replace hq2 := aside hq2
        replace hhd := aside hhd
        rw [he]
        clear s2 s3 hPs hQs own2 hf hf' hFI hwk hlies hok hrdy he ho hn
        go_wp2_with fail
        refine hdev.out _ _ H1 X1 _ x1 r1 l2 h B n c f.segs f.ta f.tl hx1.out own2'.out hsg.out hord.out s4 ?_ ?_
        · intro hd w5 s5
          replace hFI := aside (hNo.out hd)
          clear s4 hNo hPn hd y0 y1 y2 y3
          have s6 : Sat W0 _ H1 (cellsH ⟨qb, qo, none⟩ q1.vals :: _) := (show Sat W0 w5 H1 (cellsH ⟨qb, qo, none⟩ q1.fetched.vals :: _) from hq2.out ▸ s5.pc qb qo).s 5 (by show 5 < 9; omega) (.int .u16 q1.fet)
          have s7 : Sat W0 _ H1 (cellsH ⟨qb, qo, none⟩ q1.vals :: (ramL ⟨b, 0, none⟩ (r1, l2) ++ (X1 ++ F))) := s6.wk
          have z5 := (s5.pc qb qo).c 5 rfl
          clear s6
          have hkr : q1.rdy = q.rdy := hkin.out.2.2.2.2.1
          cases hrd : q1.rdy with
          | true =>
            have e4 := s7.c 4 rfl
            rw [hrd] at e4
            have hask := aside (show q1.ev = true → q1.okP r1.size from fun _ => hask0.out hrd)
            have hem := aside (show endM q1 0 r1.mem = askM q1 r1.mem from if_pos ⟨rfl, hrd⟩)
            have s2p : Sat W0 _ H1 (cellsH ⟨qb, qo, none⟩ (q1).vals :: (ramL ⟨b, 0, none⟩ (r1, l2) ++ (X1 ++ F))) := s7.wk
            clear s7
            go_wp2_with fail
            refine c_qAsk q1 s2p hask.out ?_
            intro w5 r5 l5 hm5 hz5 hl5 s5
            have htl := aside (show q.us ≠ (q1).us → (q1).okP r5.size from fun h => by rw [hz5, hr1.out]; exact htl0.out h)
            clear s2p e4
            go_wp2_with fail
            refine c_qTells q1 s5 q.us q.hus htl.out ?_
            intro w6 l6 hl6 s6
            clear s5
            rw [hm5, hz5, hr1.out]
            have hlg := aside ((hlog.out.trans (hl5.mono (fun _ _ h => h.elim) (fun y k h => hQu.out y k (hkin.out.used.1 h)))).trans (hl6.mono (fun y k h => hPa.out y k (hkin.out.avail.1 h)) (fun _ _ h => h.elim)))
            have hm7 := aside (show r5.mem = endM FIN.q FIN.e FIN.mem by rw [← hFI.out, hm5, hem.out])
            have hz7 := aside (hz5.trans hr1.out)
            have kk := k.out w6 H1 X1 r5 l6 le1.out (by rw [← hFI.out]; exact hx1.out) hm7.out hz7.out hlg.out (by rw [← hFI.out]; exact s6.wk)
            rw [← hFI.out] at kk
            simp only at kk
            rw [hem.out] at kk
            replace kk := aside kk
            clear hm5 hz5 hl5 hl6 s6
            go_wp2
            exact kk.out
          | false =>
            have e4 := s7.c 4 rfl
            rw [hrd] at e4
            have hem := aside (show endM q1 0 r1.mem = r1.mem from if_neg (by rw [hrd]; simp))
            have s2p : Sat W0 _ H1 (cellsH ⟨qb, qo, none⟩ (q1).vals :: (ramL ⟨b, 0, none⟩ (r1, l2) ++ (X1 ++ F))) := s7.wk
            have htl := aside (show q.us ≠ (q1).us → (q1).okP r1.size from fun h => by rw [hr1.out]; exact htl0.out h)
            clear s7
            go_wp2_with fail
            refine c_qTells q1 s2p q.us q.hus htl.out ?_
            intro w6 l6 hl6 s6
            clear s2p e4
            rw [hr1.out]
            have hlg := aside (hlog.out.trans (hl6.mono (fun y k h => hPa.out y k (hkin.out.avail.1 h)) (fun _ _ h => h.elim)))
            have hm7 := aside (show r1.mem = endM FIN.q FIN.e FIN.mem by rw [← hFI.out, hem.out])
            have kk := k.out w6 H1 X1 r1 l6 le1.out (by rw [← hFI.out]; exact hx1.out) hm7.out hr1.out hlg.out (by rw [← hFI.out]; exact s6.wk)
            rw [← hFI.out] at kk
            simp only at kk
            rw [hem.out] at kk
            replace kk := aside kk
            clear hl6 s6
            go_wp2
            exact kk.out
        · intro x5 m5 ct hd w5 H5 X5 r5 l5 le5 hx5 hm5 hz5 hl5 hct s5
          have hP5 := aside (hPn.out x5 m5 ct hd)
          have hz5' := aside (hz5.trans hr1.out)
          have hlog5 := aside (hlog.out.trans (hl5.mono hSg.out.1 hSg.out.2))
          have s6 : Sat W0 w5 H5 (cellsH ⟨qb, qo, none⟩ f.q.vals :: (ramL ⟨b, 0, none⟩ (r5, l5) ++ (cellsH ⟨Y, 0, none⟩ [.int .u16 f.hd, .slice B n c, .int .u64 f.ta, .int .u64 f.tl] :: (X5 ++ F)))) := s5.wk
          have u0 := s6.cel Y 0 0 rfl
          simp only [Nat.zero_add] at u0
          have hv6 := aside (show f.q.okP r5.size by rw [hz5'.out]; exact hok1.out)
          have hkf := aside hfk.out.1
          replace hx5 := aside hx5
          replace hm5 := aside hm5
          replace le5 := aside le5
          clear s4 hPn hNo hd y0 y1 y2 y3 s5 hl5 hz5 hfk
          go_wp2_with fail
          refine c_qReturn f.q s6 hv6.out f.hd ct hdb hct ?_
          intro w7 r7 l7 hm7 hz7 hl7 s7
          clear s6 u0
          have hz7' := aside (hz7.trans hz5'.out)
          have hlog7 := aside (hlog5.out.trans (hl7.mono (fun _ _ h => h.elim) (fun y k h => hQu.out y k (hkf.out.used.1 h))))
          have hm7' := aside (show r7.mem = retM f.q m5 f.hd ct by rw [hm7, hm5.out])
          clear hm7 hz7 hl7
          go_wp2
          go_roundg (gk - 1)
          case measure => have := hp0.out; omega
          case rel =>
            have hp1 : p0 = gk - 1 := by have := hp0.out; omega
            rw [← hp1]
            exact ⟨i + 1, f.q.ret, x5, X5, r7, l7, H5, by have := hp.out; have := hp0.out; omega, by go_num, by rw [hm7'.out]; exact hP5.out.2.2, fun l c h => le5.out l c (le1.out l c h), hx5.out, hz7'.out, hkf.out.ret, .inr (by exact hok1.out), hlog7.out, by rw [hm7'.out]; exact hP5.out.1, by rw [hm7'.out]; exact hP5.out.2.1, s7.wk⟩
    · obtain rfl : gk = 0 := by omega
      have hi3 : ¬ (i : Int) ≤ 65536 := by omega
      have hFI2 : (⟨q1, x1, r1.mem, 0⟩ : ServeR σ) = FIN := hFI.out
      replace hFI := aside hFI2
      have hask0 := aside (show q1.rdy = true → q1.okP r1.size from fun _ => by rw [hr1.out]; exact hus.out.elim (fun h => absurd h.1 (by omega)) (fun h => h))
      clear hFI2 hPs hQs hp hFU
      have hkr : q1.rdy = q.rdy := hkin.out.2.2.2.2.1
      cases hrd : q1.rdy with
      | true =>
        have e4 := t.c 4 rfl
        rw [hrd] at e4
        have hask := aside (show q1.ev = true → q1.okP r1.size from fun _ => hask0.out hrd)
        have hem := aside (show endM q1 0 r1.mem = askM q1 r1.mem from if_pos ⟨rfl, hrd⟩)
        have s2p : Sat W0 _ H1 (cellsH ⟨qb, qo, none⟩ (q1).vals :: (ramL ⟨b, 0, none⟩ (r1, l1) ++ (X1 ++ F))) := t.wk
        clear t
        go_wp2_with fail
        refine c_qAsk q1 s2p hask.out ?_
        intro w5 r5 l5 hm5 hz5 hl5 s5
        have htl := aside (show q.us ≠ (q1).us → (q1).okP r5.size from fun h => by rw [hz5, hr1.out]; exact htl0.out h)
        clear s2p e4
        go_wp2_with fail
        refine c_qTells q1 s5 q.us q.hus htl.out ?_
        intro w6 l6 hl6 s6
        clear s5
        rw [hm5, hz5, hr1.out]
        have hlg := aside ((hlog.out.trans (hl5.mono (fun _ _ h => h.elim) (fun y k h => hQu.out y k (hkin.out.used.1 h)))).trans (hl6.mono (fun y k h => hPa.out y k (hkin.out.avail.1 h)) (fun _ _ h => h.elim)))
        have hm7 := aside (show r5.mem = endM FIN.q FIN.e FIN.mem by rw [← hFI.out, hm5, hem.out])
        have hz7 := aside (hz5.trans hr1.out)
        have kk := k.out w6 H1 X1 r5 l6 le1.out (by rw [← hFI.out]; exact hx1.out) hm7.out hz7.out hlg.out (by rw [← hFI.out]; exact s6.wk)
        rw [← hFI.out] at kk
        simp only at kk
        rw [hem.out] at kk
        replace kk := aside kk
        clear hm5 hz5 hl5 hl6 s6
        go_wp2
        exact kk.out
      | false =>
        have e4 := t.c 4 rfl
        rw [hrd] at e4
        have hem := aside (show endM q1 0 r1.mem = r1.mem from if_neg (by rw [hrd]; simp))
        have s2p : Sat W0 _ H1 (cellsH ⟨qb, qo, none⟩ (q1).vals :: (ramL ⟨b, 0, none⟩ (r1, l1) ++ (X1 ++ F))) := t.wk
        have htl := aside (show q.us ≠ (q1).us → (q1).okP r1.size from fun h => by rw [hr1.out]; exact htl0.out h)
        clear t
        go_wp2_with fail
        refine c_qTells q1 s2p q.us q.hus htl.out ?_
        intro w6 l6 hl6 s6
        clear s2p e4
        rw [hr1.out]
        have hlg := aside (hlog.out.trans (hl6.mono (fun y k h => hPa.out y k (hkin.out.avail.1 h)) (fun _ _ h => h.elim)))
        have hm7 := aside (show r1.mem = endM FIN.q FIN.e FIN.mem by rw [← hFI.out, hem.out])
        have kk := k.out w6 H1 X1 r1 l6 le1.out (by rw [← hFI.out]; exact hx1.out) hm7.out hr1.out hlg.out (by rw [← hFI.out]; exact s6.wk)
        rw [← hFI.out] at kk
        simp only at kk
        rw [hem.out] at kk
        replace kk := aside kk
        clear hl6 s6
        go_wp2
        exact kk.out
end
end Go.Proofs.Ytiibiamobkhlbaa

namespace Go.Proofs.Ytiibiamobkhlbaa
open Go.RowKit
set_option linter.unusedVariables false
set_option linter.unusedSimpArgs false

def fillM (bt : Int) (segs : List SegM) (m : Int → Int) : Int → Int := if 4000 < wsum segs then m else scP 0 (wsum segs) segs 0 (List.replicate (wsum segs).toNat bt) m
def fillC (segs : List SegM) : Int := if 4000 < wsum segs then 0 else wsum segs

section
variable {R : Ending → World → Prop} {W0 w : World} {H : Hp} {A F : List Hp}

set_option maxRecDepth 100000 in
set_option maxHeartbeats 4000000 in
theorem c_fill (s : Sat W0 w H A) {b : Nat} {r : RamG} {l : Option LogG} [fr : FrK (κ := Addr) (ρ := fun _ => RamG × Option LogG) ramL ⟨b, 0, none⟩ A (r, l) F] {B : Option Addr} {n c : Nat} {hp : Hp} {segs : List SegM} (rd : Rd segE 3 hp (.slice B n c) segs)
    (hk : ∀ w', Sat W0 w' H F → Holds w' hp) (hb : segs.length ≤ 511 ∧ ∀ x ∈ segs, hasP r.size x.1 x.2.1 ∧ 0 ≤ x.2.1) (ta tl bt : Int) (hbt : 0 ≤ bt ∧ bt ≤ 255)
    (k : ∀ w' r' l', r'.mem = fillM bt segs r.mem → r'.size = r.size → LogQ noP (inSeg true segs) (lgs l) (lgs l') → Sat W0 w' H (ramL ⟨b, 0, none⟩ (r', l') ++ F) → R (.returned (.int .u32 (fillC segs))) w') :
    Calls Try.prog 30 #[.pointer (some ⟨b, 0, none⟩), .agg #[.slice B n c, .int .u64 ta, .int .u64 tl], .int .u8 bt] w R := by
  have hrs := r.hsize
  have hB := aside (show segB segs from ⟨hb.1, fun x hx => by have := hb.2 x hx; unfold hasP at this; omega⟩)
  have hsm := hB.out.sums segs.length
  rw [List.take_length] at hsm
  have s1 : Sat W0 _ H (ramL ⟨b, 0, none⟩ (r, l) ++ (cellsH ⟨w.heap.size, 0, none⟩ [.slice B n c, .int .u64 ta, .int .u64 tl] :: F)) := ((s.front (mk := ramL) (k := ⟨b, 0, none⟩)).alloc (c := [.slice B n c, .int .u64 ta, .int .u64 tl]) (t := 50)).wk
  obtain ⟨Z, hZ⟩ : ∃ Z, w.heap.size = Z := ⟨_, rfl⟩
  rw [hZ] at s1
  have y0 := s1.cel Z 0 0 rfl
  have y1 := s1.cel Z 0 1 rfl
  have y2 := s1.cel Z 0 2 rfl
  simp only [Nat.zero_add] at y0 y1 y2
  have hkz := aside (show ∀ (G : List Hp) w', Sat W0 w' H (G ++ F) → Holds w' hp from fun G w' t => hk _ (Sat.tail t))
  have hkz1 := aside (show ∀ w', Sat W0 w' H (ramL ⟨b, 0, none⟩ (r, l) ++ (cellsH ⟨Z, 0, none⟩ [.slice B n c, .int .u64 ta, .int .u64 tl] :: F)) → Holds w' hp from fun w' t => hk _ (Sat.tail1 (Sat.tail t)))
  obtain ⟨WS, hWS⟩ : ∃ y, wsum segs = y := ⟨_, rfl⟩
  obtain ⟨RS, hRS⟩ : ∃ y, rsum segs = y := ⟨_, rfl⟩
  rw [hWS] at hsm
  have hw0 : 0 ≤ WS ∧ WS ≤ 137170518016 := by omega
  have hM : fillM bt segs r.mem = if 4000 < WS then r.mem else scP 0 WS segs 0 (List.replicate WS.toNat bt) r.mem := by unfold fillM; rw [hWS]
  have hC : fillC segs = if 4000 < WS then 0 else WS := by unfold fillC; rw [hWS]
  rw [hC] at k
  clear s fr hsm hC
  replace k := aside k
  replace hM := aside hM
  replace hWS := aside hWS
  replace hRS := aside hRS
  replace hrs := aside hrs
  replace hb := aside hb
  replace rd := aside rd
  replace hk := aside hk
  go_enter Try.func30, Try.ntmps30
  go_wp2_with fail
  refine c_sizes s1 rd.out hkz1.out hB.out ta tl ?_
  rw [hRS.out, hWS.out]
  intro w2 s2
  have y0 := s2.cel Z 0 0 rfl
  have y1 := s2.cel Z 0 1 rfl
  have y2 := s2.cel Z 0 2 rfl
  simp only [Nat.zero_add] at y0 y1 y2
  clear s1 hkz1
  by_cases hbig : 4000 < WS
  · have K := k.out w2 r l (by rw [hM.out, if_pos hbig]) rfl (LogQ.refl _ _ _) s2.wk
    rw [if_pos hbig] at K
    replace K := aside K
    clear k s2
    go_wp2
    exact K.out
  · have k2 := k.out
    rw [if_neg hbig] at k2
    replace k2 := aside k2
    obtain ⟨m, rfl⟩ : ∃ m : Nat, WS = m := ⟨WS.toNat, by omega⟩
    have hM2 := aside (show fillM bt segs r.mem = scP 0 m segs 0 (List.replicate m bt) r.mem by rw [hM.out, if_neg hbig, Int.toNat_natCast])
    have hm4 : (m : Int) ≤ 4000 := by omega
    have e32 : IntKind.u32.wrap (m : Int) = m := by rw [wrap_u32]; omega
    have hmk : ∀ W, (Instr.makeSlice 57 (.int .u64 m) (.int .u64 m)).run Try.prog W = .ok (.slice (some ⟨W.heap.size, 0, none⟩) m m) (W.alloc (.cells (List.replicate m (Value.int .u8 0)).toArray 5)) := fun W => by
      have := run_make8 .u64 .u64 m m (by omega) (by omega) (by omega) W
      simpa using this
    have s3 : Sat W0 _ H (cellsH ⟨w2.heap.size, 0, none⟩ (List.replicate m (.int .u8 0)) :: (ramL ⟨b, 0, none⟩ (r, l) ++ (cellsH ⟨Z, 0, none⟩ [.slice B n c, .int .u64 ta, .int .u64 tl] :: F))) := s2.alloc (t := 5)
    obtain ⟨V, hV⟩ : ∃ V, w2.heap.size = V := ⟨_, rfl⟩
    rw [hV] at s3
    clear k hM s2
    go_wp2
    clear hmk y0 y1 y2
    go_loopg [10] m (fun q v10 w' => ∃ (i : Nat), q + i = m ∧ v10 = .int .i64 i ∧ Sat W0 w' H (cellsH ⟨V, 0, none⟩ (fillR (List.replicate i bt) m) :: (ramL ⟨b, 0, none⟩ (r, l) ++ (cellsH ⟨Z, 0, none⟩ [.slice B n c, .int .u64 ta, .int .u64 tl] :: F))))
    case atStart => exact ⟨0, by simp, rfl, by simpa [fillR] using s3⟩
    clear s3
    case round =>
      obtain ⟨i, hq, rfl, s'⟩ := hrel
      by_cases hi : i < m
      · have hln : (List.replicate i bt).length = i := List.length_replicate
        have cc := s'.c i (v := .int .u8 0) (by have := fillR_at (xs := List.replicate i bt) (n := m) (by omega); rwa [hln] at this)
        have s2 := s'.s i (by rw [fillR_len (by omega)]; omega) (.int .u8 bt)
        have hst := fillR_set (xs := List.replicate i bt) (n := m) (by omega) bt
        rw [hln] at hst
        rw [hst, Nat.zero_add, show List.replicate i bt ++ [bt] = List.replicate (i + 1) bt from (List.replicate_succ' ..).symm] at s2
        rw [Nat.zero_add] at cc
        have i1 : (0 : Int) ≤ i ∧ (i : Int) < m := by omega
        clear hst hln s'
        go_wp2
        go_roundg (gk - 1)
        case measure => omega
        case rel => exact ⟨i + 1, by omega, by go_num, s2⟩
      · obtain rfl : i = m := by omega
        have hff : fillR (List.replicate i bt) i = (List.replicate i bt).map (.int .u8) ++ [] := by have := fillR_full (xs := List.replicate i bt); rw [List.length_replicate] at this; simpa using this
        rw [hff] at s'
        have own : OwnS 1 (.slice (some ⟨V, 0, none⟩) i i) i ((List.replicate i bt).map (.int .u8)) (cellsH ⟨V, 0, none⟩ ((List.replicate i bt).map (.int .u8) ++ [])) := OwnS.made [] (Nat.le_refl _) (by omega) (by simp) (by simp)
        have hds := aside (show ∀ x ∈ List.replicate i bt, 0 ≤ x ∧ x ≤ 255 from fun x hx => by rw [List.eq_of_mem_replicate hx]; exact hbt)
        have rdd := aside (own.rd hds.out)
        have hll := aside (show (List.replicate i bt).length = i from List.length_replicate)
        obtain ⟨DS, hDS⟩ : ∃ y, List.replicate i bt = y := ⟨_, rfl⟩
        rw [hDS] at s' rdd hM2 hll
        obtain ⟨hd, hhd⟩ : ∃ y, cellsH ⟨V, 0, none⟩ (DS.map (.int .u8) ++ []) = y := ⟨_, rfl⟩
        rw [hhd] at s' rdd
        have hco := aside (show (0 : Int) ≤ wsum segs ∧ ((DS.length : Nat) : Int) ≤ wsum segs - 0 by rw [hll.out, hWS.out]; omega)
        clear own hff hds hDS hhd
        have y0 := s'.cel Z 0 0 rfl
        have y1 := s'.cel Z 0 1 rfl
        have y2 := s'.cel Z 0 2 rfl
        simp only [Nat.zero_add] at y0 y1 y2
        go_wp2_with fail
        refine c_scatter s' rd.out rdd.out (fun w' t => ⟨hk.out _ (Sat.wk t), t.head⟩) hb.out ta tl 0 (by omega) (fun h => absurd hco.out h) ?_
        intro _ w8 r8 l8 hm8 hz8 hl8 s8
        have hm9 := aside (show r8.mem = fillM bt segs r.mem by rw [hm8, hll.out, hM2.out])
        replace hz8 := aside hz8
        replace hl8 := aside hl8
        clear s' y0 y1 y2 hm8
        go_wp2
        exact k2.out _ r8 l8 hm9.out hz8.out hl8.out s8.wk
end
end Go.Proofs.Ytiibiamobkhlbaa

namespace Go.Proofs.Ytiibiamobkhlbaa
open Go.RowKit
set_option linter.unusedVariables false
set_option linter.unusedSimpArgs false

/-- a device that fills, and can have so many chains -/
def fillDev (bt : Int) : DevF Nat := fun x m segs => match x with
  | 0 => none
  | x + 1 => some (x, fillM bt segs m, fillC segs)
theorem fillC_bd {segs : List SegM} (h : 0 ≤ wsum segs) : 0 ≤ fillC segs ∧ fillC segs ≤ 4294967295 := by unfold fillC; split <;> omega
def fillX (rb pb bb mb : Nat) (bt : Int) : Hp → Nat → List Hp → Prop := fun _ x X => x ≤ 100 ∧ X = [cellsH ⟨rb, 0, none⟩ [.int .i64 x], cellsH ⟨pb, 0, none⟩ [.pointer (some ⟨mb, 0, none⟩)], cellsH ⟨bb, 0, none⟩ [.int .u8 bt]]

section
variable {W0 : World}

set_option maxRecDepth 100000 in
set_option maxHeartbeats 4000000 in
theorem dev_fill (rb pb bb mb : Nat) (bt : Int) (hbt : 0 ≤ bt ∧ bt ≤ 255) : DevC 119 #[.pointer (some ⟨rb, 0, none⟩), .pointer (some ⟨pb, 0, none⟩), .pointer (some ⟨bb, 0, none⟩)] mb W0 (fillDev bt) (fillX rb pb bb mb bt) := by
  intro R w H X G x r l h B n c segs ta tl hX own hb hord s kn ks
  obtain ⟨hx, rfl⟩ := hX
  show Calls Try.prog 119 #[.agg #[.slice B n c, .int .u64 ta, .int .u64 tl], .pointer (some ⟨rb, 0, none⟩), .pointer (some ⟨pb, 0, none⟩), .pointer (some ⟨bb, 0, none⟩)] w R
  simp only [List.cons_append, List.nil_append] at s kn ks
  have rd := aside own.rdG
  have hrs := r.hsize
  have hB : segB segs := ⟨hb.1, fun x hx => by have := hb.2 x hx; unfold hasP at this; omega⟩
  have hsm := hB.sums segs.length
  rw [List.take_length] at hsm
  have hfc := fillC_bd (segs := segs) (by omega)
  have s1 : Sat W0 _ H (cellsH ⟨rb, 0, none⟩ [.int .i64 x] :: cellsH ⟨pb, 0, none⟩ [.pointer (some ⟨mb, 0, none⟩)] :: cellsH ⟨bb, 0, none⟩ [.int .u8 bt] :: (ramL ⟨mb, 0, none⟩ (r, l) ++ (cellsH ⟨w.heap.size, 0, none⟩ [.slice B n c, .int .u64 ta, .int .u64 tl] :: h :: G))) := (s.alloc (c := [.slice B n c, .int .u64 ta, .int .u64 tl]) (t := 50)).wk
  obtain ⟨Z, hZ⟩ : ∃ Z, w.heap.size = Z := ⟨_, rfl⟩
  rw [hZ] at s1
  have y0 := s1.cel Z 0 0 rfl
  have y1 := s1.cel Z 0 1 rfl
  have y2 := s1.cel Z 0 2 rfl
  simp only [Nat.zero_add] at y0 y1 y2
  have c0 := s1.c0
  have p0 := s1.cel pb 0 0 rfl
  have b0 := s1.cel bb 0 0 rfl
  simp only [Nat.zero_add] at p0 b0
  clear s own hB hsm hrs
  cases x with
  | zero =>
    have K := aside (kn rfl)
    clear ks kn hb
    go_enter Try.func119, Try.ntmps119
    go_wp2
    exact K.out _ s1.wk
  | succ x =>
    have K := aside (ks x _ _ rfl)
    clear ks kn
    obtain ⟨FC, hFC⟩ : ∃ y, fillC segs = y := ⟨_, rfl⟩
    rw [hFC] at hfc K
    have s2 := s1.s0 (.int .i64 x)
    have ew : IntKind.i64.wrap (((x + 1 : Nat) : Int) - 1) = (x : Int) := by simp [IntKind.wrap, IntKind.bits, IntKind.signed]; omega
    have hx1 : ¬ (((x + 1 : Nat) : Int) = 0) := by omega
    have hx2 : ((((x + 1 : Nat) : Int)) == 0) = false := by simp; omega
    have p1 := s2.cel pb 0 0 rfl
    have b1 := s2.cel bb 0 0 rfl
    have z0 := s2.cel Z 0 0 rfl
    have z1 := s2.cel Z 0 1 rfl
    have z2 := s2.cel Z 0 2 rfl
    simp only [Nat.zero_add] at p1 b1 z0 z1 z2
    obtain ⟨XX, hXX⟩ : ∃ y, ((x + 1 : Nat) : Int) = y := ⟨_, rfl⟩
    rw [hXX] at c0 ew hx1 hx2 s1
    have hx100 := aside hx
    replace hb := aside hb
    replace hFC := aside hFC
    replace hXX := aside hXX
    replace hord := aside hord
    clear s1 hx
    go_enter Try.func119, Try.ntmps119
    go_wp2_with fail
    refine c_fill s2 rd.out (fun w' t => (Sat.pull (h := h) t).head) hb.out ta tl bt hbt ?_
    rw [hFC.out]
    intro w3 r3 l3 hm3 hz3 hl3 s3
    replace hm3 := aside hm3
    replace hz3 := aside hz3
    replace hl3 := aside hl3
    clear s2 p1 b1 z0 z1 z2 c0 p0 b0
    go_wp2
    exact K.out w3 H _ r3 l3 (fun _ _ h => h) ⟨by have := hx100.out; omega, rfl⟩ hm3.out hz3.out (hl3.out.mono (fun _ _ h => h.elim) (fun _ _ h => h)) hfc (show Sat W0 _ H (cellsH ⟨rb, 0, none⟩ [.int .i64 x] :: cellsH ⟨pb, 0, none⟩ [.pointer (some ⟨mb, 0, none⟩)] :: cellsH ⟨bb, 0, none⟩ [.int .u8 bt] :: (ramL ⟨mb, 0, none⟩ (r3, l3) ++ (h :: G))) from s3.wk)
end

section
variable {R : Ending → World → Prop} {W0 w : World} {H : Hp} {A F : List Hp}
theorem enters_q {P : Program} {f : FuncId} {fn : Func} {c : Code} (hf : P.funcs[f]? = some fn) (hname : (fn.name == "runtime.NumGoroutine") = false) (hb : fn.body = some c) (av : Array Value) (w : World) : Sem.run P (callFunc f av) w = .ok (.enter f av) w := by
  have h1 : fn.name ≠ "runtime.NumGoroutine" := by simpa using hname
  simp [callFunc, hf, h1, hb, mark]
theorem serveFill_run (av : Array Value) (w : World) : Sem.run Try.prog (callFunc 119 av) w = .ok (.enter 119 av) w :=
  enters_q Try.func119 (by kernel_rfl) rfl av w

set_option maxRecDepth 100000 in
set_option maxHeartbeats 4000000 in
theorem c_lawServe {b qb qo : Nat} {r : RamG} {l : Option LogG} (q : QuM) (bt : Int) (hbt : 0 ≤ bt ∧ bt ≤ 255) (room : Nat) (hroom : room ≤ 100) (s : Sat W0 w H (cellsH ⟨qb, qo, none⟩ q.vals :: (ramL ⟨b, 0, none⟩ (r, l) ++ F)))
    (k : ∀ f, serveP (fillDev bt) r.size 65537 q room r.mem = f → ∀ w' H' r' l', (∀ l c, H l = some c → H' l = some c) → r'.mem = endM f.q f.e f.mem → r'.size = r.size →
      LogQ (fun y k => srvRd (fillDev bt) r.size 65537 q room r.mem y k ∨ inAvail q y k) (fun y k => srvWr (fillDev bt) r.size 65537 q room r.mem y k ∨ inUsed q y k) (lgs l) (lgs l') →
      Sat W0 w' H' (cellsH ⟨qb, qo, none⟩ f.q.vals :: (ramL ⟨b, 0, none⟩ (r', l') ++ F)) → R (.returned (.tuple #[.bool (tellsP f.q r.size (endM f.q f.e f.mem) q.us), .int .i64 f.e])) w') :
    Calls Try.prog 55 #[.pointer (some ⟨b, 0, none⟩), .pointer (some ⟨qb, qo, none⟩), .int .u8 bt, .int .i64 room] w R := by
  have s1 := ((s.alloc (c := [.pointer (some ⟨b, 0, none⟩)]) (t := 29)).alloc (c := [.int .u8 bt]) (t := 5)).alloc (c := [.int .i64 room]) (t := 3)
  obtain ⟨Z, hZ⟩ : ∃ Z, w.heap.size = Z := ⟨_, rfl⟩
  simp only [World.size_alloc] at s1
  rw [hZ] at s1
  have s2 : Sat W0 _ H (cellsH ⟨qb, qo, none⟩ q.vals :: ([cellsH ⟨Z + 1 + 1, 0, none⟩ [.int .i64 room], cellsH ⟨Z, 0, none⟩ [.pointer (some ⟨b, 0, none⟩)], cellsH ⟨Z + 1, 0, none⟩ [.int .u8 bt]] ++ (ramL ⟨b, 0, none⟩ (r, l) ++ F))) := (show Sat W0 _ H (cellsH ⟨qb, qo, none⟩ q.vals :: cellsH ⟨Z + 1 + 1, 0, none⟩ [.int .i64 room] :: cellsH ⟨Z, 0, none⟩ [.pointer (some ⟨b, 0, none⟩)] :: cellsH ⟨Z + 1, 0, none⟩ [.int .u8 bt] :: (ramL ⟨b, 0, none⟩ (r, l) ++ F)) from s1.wk)
  have z0 := s1.cel Z 0 0 rfl
  simp only [Nat.zero_add] at z0
  have hmf : ∀ (fn : Fn) (first cap : Array Value) (w : World), (Instr.makeFunc fn first cap).run Try.prog w = .ok (.func fn first cap) w := fun _ _ _ _ => rfl
  replace k := aside k
  clear s s1
  go_enter Try.func55, Try.ntmps55
  go_wp2_with fail
  refine c_qServe serveFill_run (dev_fill _ _ _ b bt hbt) q room ⟨hroom, rfl⟩ s2 ?_
  intro f hf w3 H3 X3 r3 l3 le3 hX3 hm3 hz3 hl3 s3
  obtain ⟨_, rfl⟩ := hX3
  simp only [List.cons_append, List.nil_append] at s3
  replace hm3 := aside hm3
  replace hz3 := aside hz3
  replace hl3 := aside hl3
  replace le3 := aside le3
  have kk := aside (k.out f hf w3 H3 r3 l3 le3.out hm3.out hz3.out hl3.out s3.wk)
  clear s2 s3 k hf
  go_wp2
  exact kk.out
end
end Go.Proofs.Ytiibiamobkhlbaa

namespace Go.Proofs.Ytiibiamobkhlbaa
open Go.RowKit
set_option linter.unusedVariables false
set_option linter.unusedSimpArgs false

def awQ : QuM := ⟨2, 2147483648, 2147483904, 2147484160, true, 0, 0, false, false, by omega, by omega, by omega, by omega, by omega, by omega⟩
def awM : Int → Int := putB (putB (fun _ => 0) 2147483648 (leb 2147487744 8)) 2147483906 (leb 2 2)
theorem aw_end : (serveP (fillDev 7) 8192 65537 awQ 9 awM).q.us = 2 ∧ (serveP (fillDev 7) 8192 65537 awQ 9 awM).q.fet = 2 ∧ (serveP (fillDev 7) 8192 65537 awQ 9 awM).e = 0 ∧ tellsP (serveP (fillDev 7) 8192 65537 awQ 9 awM).q 8192 (endM (serveP (fillDev 7) 8192 65537 awQ 9 awM).q (serveP (fillDev 7) 8192 65537 awQ 9 awM).e (serveP (fillDev 7) 8192 65537 awQ 9 awM).mem) 0 = true := by decide +kernel

section
variable {R : Ending → World → Prop} {W0 w : World} {H : Hp} {A F : List Hp}

set_option maxRecDepth 100000 in
set_option maxHeartbeats 4000000 in
theorem c_queueAwake (s : Sat W0 w H A) (k : ∀ w' H', (∀ l c, H l = some c → H' l = some c) → Sat W0 w' H' A → R (.returned (.bool true)) w') :
    Calls Try.prog 10 #[] w R := by
  replace k := aside k
  go_enter Try.func10, Try.ntmps10
  go_wp2_with fail
  refine c_ramNew2 s _ (by omega) ?_
  intro w1 b r hz hm s1
  replace hz := aside hz
  replace hm := aside hm
  have s2 := s1.alloc (c := [.int .i64 2, .int .u64 2147483648, .int .u64 2147483904, .int .u64 2147484160, .bool true, .int .u16 0, .int .u16 0, .bool false, .bool false]) (t := 40)
  obtain ⟨Y, hY⟩ : ∃ Y, w1.heap.size = Y := ⟨_, rfl⟩
  rw [hY] at s2
  have hb1 := aside (show sizedP 8 ∧ r.has 2147483648 8 from ⟨by unfold sizedP; omega, by unfold RamG.has; rw [hz.out]; omega⟩)
  go_wp2_with fail
  refine c_ramStore s2 2147483648 8 2147487744 (by omega) (by omega) (by omega) (fun h => absurd hb1.out h) ?_
  intro _ w5 r5 l5 hm5 hz5 hl5 s5
  obtain rfl : l5 = none := by
    cases l5 with
    | none => rfl
    | some x => simp [lgs, addW] at hl5
  have hz5' := aside (hz5.trans hz.out)
  clear s2 s1 hl5
  have hb5 := aside (show sizedP 2 ∧ r5.has 2147483906 2 from ⟨by unfold sizedP; omega, by unfold RamG.has; rw [hz5'.out]; omega⟩)
  go_wp2_with fail
  refine c_ramStore s5 2147483906 2 2 (by omega) (by omega) (by omega) (fun h => absurd hb5.out h) ?_
  intro _ w6 r6 l6 hm6 hz6 hl6 s6
  obtain rfl : l6 = none := by
    cases l6 with
    | none => rfl
    | some x => simp [lgs, addW] at hl6
  have hz6' := aside (hz6.trans hz5'.out)
  have hm6' := aside (show r6.mem = awM by rw [hm6, hm5, show r.mem = fun _ => 0 from hm.out]; rfl)
  clear s5 hl6 hm6 hm5 hz6 hz5
  have s7a : Sat W0 w6 H (cellsH ⟨Y, 0, none⟩ [.int .i64 2, .int .u64 2147483648, .int .u64 2147483904, .int .u64 2147484160, .bool true, .int .u16 0, .int .u16 0, .bool false, .bool false] :: (ramL ⟨b, 0, none⟩ (r6, none) ++ A)) := s6.wk
  have s7 : Sat W0 w6 H (cellsH ⟨Y, 0, none⟩ awQ.vals :: (ramL ⟨b, 0, none⟩ (r6, none) ++ A)) := s7a
  clear s7a
  obtain ⟨e1, e2, e3, e4⟩ := aw_end
  obtain ⟨FIN, hFIN⟩ : ∃ f, serveP (fillDev 7) 8192 65537 awQ 9 awM = f := ⟨_, rfl⟩
  rw [hFIN] at e1 e2 e3 e4
  replace e4 := aside e4
  replace e3 := aside e3
  replace e2 := aside e2
  replace e1 := aside e1
  replace hFIN := aside hFIN
  clear s6
  go_wp2_with fail
  refine c_lawServe awQ 7 (by omega) 9 (by omega) s7 ?_
  intro f hf w8 H8 r8 l8 le8 hm8 hz8 hl8 s8
  rw [hz6'.out, hm6'.out, hFIN.out] at hf
  subst hf
  have c5 := s8.c 5 rfl
  have c6 := s8.c 6 rfl
  rw [show FIN.q.fet = 2 from e2.out] at c5
  rw [show FIN.q.us = 2 from e1.out] at c6
  simp only [Nat.zero_add] at c5 c6
  rw [hz6'.out, show tellsP FIN.q 8192 (endM FIN.q FIN.e FIN.mem) awQ.us = true from e4.out, show FIN.e = 0 from e3.out]
  replace le8 := aside le8
  clear s7 hm8 hz8 hl8
  go_wp2
  exact k.out _ H8 le8.out s8.wk

set_option maxRecDepth 100000 in
set_option maxHeartbeats 4000000 in
theorem c_lawOf (q : QuM) (s : Sat W0 w H A) (k : ∀ w', Sat W0 w' H A → R (.returned (.agg #[.int .i64 q.n, .int .u64 q.d, .int .u64 q.a, .int .u64 q.u, .bool q.rdy, .int .u16 q.fet, .int .u16 q.us, .bool q.ev, .bool q.ind])) w') :
    Calls Try.prog 15 #[.agg #[.int .i64 q.n, .int .u64 q.d, .int .u64 q.a, .int .u64 q.u, .bool q.rdy, .int .i64 q.fet, .int .i64 q.us, .bool q.ev, .bool q.ind]] w R := by
  have s1 := (s.alloc (c := [.int .i64 q.n, .int .u64 q.d, .int .u64 q.a, .int .u64 q.u, .bool q.rdy, .int .i64 q.fet, .int .i64 q.us, .bool q.ev, .bool q.ind]) (t := 27)).alloc (c := [.int .i64 q.n, .int .u64 q.d, .int .u64 q.a, .int .u64 q.u, .bool q.rdy, .int .u16 q.fet, .int .u16 q.us, .bool q.ev, .bool q.ind]) (t := 40)
  obtain ⟨Z, hZ⟩ : ∃ Z, w.heap.size = Z := ⟨_, rfl⟩
  obtain ⟨Y, hY⟩ : ∃ Y, Z + 1 = Y := ⟨_, rfl⟩
  simp only [World.size_alloc, hZ, hY] at s1
  have s2 := (s.alloc (c := [.int .i64 q.n, .int .u64 q.d, .int .u64 q.a, .int .u64 q.u, .bool q.rdy, .int .i64 q.fet, .int .i64 q.us, .bool q.ev, .bool q.ind]) (t := 27)).alloc (c := [.int .i64 0, .int .u64 0, .int .u64 0, .int .u64 0, .bool false, .int .u16 0, .int .u16 0, .bool false, .bool false]) (t := 40)
  simp only [World.size_alloc, hZ, hY] at s2
  have z0 := s2.cel Z 0 0 rfl
  have z1 := s2.cel Z 0 1 rfl
  have z2 := s2.cel Z 0 2 rfl
  have z3 := s2.cel Z 0 3 rfl
  have z4 := s2.cel Z 0 4 rfl
  have z5 := s2.cel Z 0 5 rfl
  have z6 := s2.cel Z 0 6 rfl
  have z7 := s2.cel Z 0 7 rfl
  have z8 := s2.cel Z 0 8 rfl
  simp only [Nat.zero_add] at z0 z1 z2 z3 z4 z5 z6 z7 z8
  have f0 := s1.cel Y 0 0 rfl
  have f1 := s1.cel Y 0 1 rfl
  have f2 := s1.cel Y 0 2 rfl
  have f3 := s1.cel Y 0 3 rfl
  have f4 := s1.cel Y 0 4 rfl
  have f5 := s1.cel Y 0 5 rfl
  have f6 := s1.cel Y 0 6 rfl
  have f7 := s1.cel Y 0 7 rfl
  have f8 := s1.cel Y 0 8 rfl
  simp only [Nat.zero_add] at f0 f1 f2 f3 f4 f5 f6 f7 f8
  have qf := q.hfet
  have qu := q.hus
  have e1 : IntKind.u16.wrap q.fet = q.fet := by rw [wrap_u16]; omega
  have e2 : IntKind.u16.wrap q.us = q.us := by rw [wrap_u16]; omega
  have K := aside (k _ s1.tail1.tail1)
  clear k s s1 s2
  go_enter Try.func15, Try.ntmps15
  go_wp2
  refine bodyPost_ret (by simp [results, Try.results15, go_sem, f0.1, f1.1, f2.1, f3.1, f4.1, f5.1, f6.1, f7.1, f8.1]; try rfl) rfl ?_
  exact K.out

set_option maxRecDepth 100000 in
set_option maxHeartbeats 4000000 in
theorem c_lawRight (n d a u fet us : Int) (rdy ev ind : Bool) (s : Sat W0 w H A) (k : ∀ w', Sat W0 w' H A → R (.returned (.bool (decide ((0 ≤ fet ∧ fet < 65536) ∧ 0 ≤ us ∧ us < 65536)))) w') :
    Calls Try.prog 12 #[.agg #[.int .i64 n, .int .u64 d, .int .u64 a, .int .u64 u, .bool rdy, .int .i64 fet, .int .i64 us, .bool ev, .bool ind]] w R := by
  have s1 := s.alloc (c := [.int .i64 n, .int .u64 d, .int .u64 a, .int .u64 u, .bool rdy, .int .i64 fet, .int .i64 us, .bool ev, .bool ind]) (t := 27)
  obtain ⟨Z, hZ⟩ : ∃ Z, w.heap.size = Z := ⟨_, rfl⟩
  rw [hZ] at s1
  have z0 := s1.cel Z 0 0 rfl
  have z1 := s1.cel Z 0 1 rfl
  have z2 := s1.cel Z 0 2 rfl
  have z3 := s1.cel Z 0 3 rfl
  have z4 := s1.cel Z 0 4 rfl
  have z5 := s1.cel Z 0 5 rfl
  have z6 := s1.cel Z 0 6 rfl
  have z7 := s1.cel Z 0 7 rfl
  have z8 := s1.cel Z 0 8 rfl
  simp only [Nat.zero_add] at z0 z1 z2 z3 z4 z5 z6 z7 z8
  have K := aside (k _ s1.tail1)
  clear k s s1
  by_cases h1 : 0 ≤ fet
  · by_cases h2 : fet < 65536
    · by_cases h3 : 0 ≤ us
      · by_cases h4 : us < 65536
        · rw [decide_eq_true ⟨⟨h1, h2⟩, h3, h4⟩] at K
          go_enter Try.func12, Try.ntmps12
          go_wp2
          exact K.out
        · rw [decide_eq_false (by omega)] at K
          go_enter Try.func12, Try.ntmps12
          go_wp2
          exact K.out
      · rw [decide_eq_false (by omega)] at K
        go_enter Try.func12, Try.ntmps12
        go_wp2
        exact K.out
    · rw [decide_eq_false (by omega)] at K
      go_enter Try.func12, Try.ntmps12
      go_wp2
      exact K.out
  · rw [decide_eq_false (by omega)] at K
    go_enter Try.func12, Try.ntmps12
    go_wp2
    exact K.out
end
end Go.Proofs.Ytiibiamobkhlbaa

namespace Go.Proofs.Ytiibiamobkhlbaa
open Go.RowKit
set_option linter.unusedVariables false

theorem len9 {α : Type} {cs : List α} (h : cs.length = 9) : ∃ a b c d e f g i j, cs = [a, b, c, d, e, f, g, i, j] := by
  match cs, h with
  | [a, b, c, d, e, f, g, i, j], _ => exact ⟨a, b, c, d, e, f, g, i, j, rfl⟩

structure QueD where
  Layout : LayM
  Ready : Bool
  Fetched : Int
  Used : Int
  EventIdx : Bool
  Indirect : Bool
  hFetched : -9223372036854775808 ≤ Fetched ∧ Fetched ≤ 9223372036854775807
  hUsed : -9223372036854775808 ≤ Used ∧ Used ≤ 9223372036854775807
def QueD.vals (o : QueD) : List Value := o.Layout.vals ++ [.bool o.Ready] ++ [.int .i64 o.Fetched] ++ [.int .i64 o.Used] ++ [.bool o.EventIdx] ++ [.bool o.Indirect]
def queE : El QueD := fun _ o vs => vs = o.vals
theorem opn_que : Opn Try.prog 27 queE :=
  opn_struct Try.underlying27 fun H enc w fuel cs hlen hf => by
    obtain ⟨y0, h0⟩ := hf 0 _ rfl
    obtain ⟨y1, h1⟩ := hf 1 _ rfl
    obtain ⟨y2, h2⟩ := hf 2 _ rfl
    obtain ⟨y3, h3⟩ := hf 3 _ rfl
    obtain ⟨y4, h4⟩ := hf 4 _ rfl
    obtain ⟨y5, h5⟩ := hf 5 _ rfl
    obtain ⟨x0, g0⟩ := opn_lay H enc w fuel _ y0.1 y0.2 h0
    obtain ⟨x1, g1⟩ := opn_bool Try.underlying4 H enc w fuel _ y1.1 y1.2 h1
    obtain ⟨x2, g2, b2⟩ := opn_i64 Try.underlying3 H enc w fuel _ y2.1 y2.2 h2
    obtain ⟨x3, g3, b3⟩ := opn_i64 Try.underlying3 H enc w fuel _ y3.1 y3.2 h3
    obtain ⟨x4, g4⟩ := opn_bool Try.underlying4 H enc w fuel _ y4.1 y4.2 h4
    obtain ⟨x5, g5⟩ := opn_bool Try.underlying4 H enc w fuel _ y5.1 y5.2 h5
    have e : Try.prog.cellsOf 27 = 9 := by kernel_rfl
    have e0 : Try.prog.cellsOf 25 = 4 := by kernel_rfl
    have e1 : Try.prog.cellsOf 4 = 1 := by kernel_rfl
    have e2 : Try.prog.cellsOf 3 = 1 := by kernel_rfl
    rw [e] at hlen
    rw [e0] at g0
    replace g0 := (show _ = x0.vals from g0)
    rw [e1] at g1
    rw [e2] at g2
    rw [e2] at g3
    rw [e1] at g4
    rw [e1] at g5
    obtain ⟨c0, c1, c2, c3, c4, c5, c6, c7, c8, rfl⟩ := len9 hlen
    replace g0 : [c0, c1, c2, c3] = x0.vals := g0
    obtain rfl : c4 = .bool x1 := (List.cons.inj g1).1
    obtain rfl : c5 = .int .i64 x2 := (List.cons.inj g2).1
    obtain rfl : c6 = .int .i64 x3 := (List.cons.inj g3).1
    obtain rfl : c7 = .bool x4 := (List.cons.inj g4).1
    obtain rfl : c8 = .bool x5 := (List.cons.inj g5).1
    exact ⟨⟨x0, x1, x2, x3, x4, x5, b2, b3⟩, by show _ = QueD.vals _; unfold QueD.vals; rw [show LayM.vals x0 = _ from g0.symm]; rfl⟩
/-- as the queue that it is, where its numbers may be -/
def QueD.toQ (o : QueD) (h : (0 ≤ o.Fetched ∧ o.Fetched < 65536) ∧ 0 ≤ o.Used ∧ o.Used < 65536) : QuM := ⟨o.Layout.n, o.Layout.d, o.Layout.a, o.Layout.u, o.Ready, o.Fetched, o.Used, o.EventIdx, o.Indirect, o.Layout.hn, o.Layout.hd, o.Layout.ha, o.Layout.hu, by omega, by omega⟩
end Go.Proofs.Ytiibiamobkhlbaa
