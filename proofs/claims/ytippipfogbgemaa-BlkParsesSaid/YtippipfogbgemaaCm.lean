/-
  CHAIN: how much may be read and written; which part of a segment some bytes are.
-/
import Derived.Test.YtippipfogbgemaaCb
namespace Go.Proofs.Ytippipfogbgemaa
open Go.RowKit
set_option linter.unusedVariables false
set_option linter.unusedSimpArgs false

/-- what may be written; what may be read -/
def wsum : List SegM → Int
  | [] => 0
  | x :: l => (if x.2.2 = true then x.2.1 else 0) + wsum l
def rsum : List SegM → Int
  | [] => 0
  | x :: l => (if x.2.2 = true then 0 else x.2.1) + rsum l
theorem wsum_app : ∀ a b : List SegM, wsum (a ++ b) = wsum a + wsum b
  | [], b => by simp [wsum]
  | x :: a, b => by rw [List.cons_append, wsum, wsum, wsum_app a b]; omega
theorem rsum_app : ∀ a b : List SegM, rsum (a ++ b) = rsum a + rsum b
  | [], b => by simp [rsum]
  | x :: a, b => by rw [List.cons_append, rsum, rsum, rsum_app a b]; omega
theorem wsum_one {l : List SegM} {i : Nat} (h : i < l.length) : wsum (l.take (i + 1)) = wsum (l.take i) + (if l[i].2.2 = true then l[i].2.1 else 0) := by
  rw [List.take_succ_eq_append_getElem h, wsum_app]; simp [wsum]
theorem rsum_one {l : List SegM} {i : Nat} (h : i < l.length) : rsum (l.take (i + 1)) = rsum (l.take i) + (if l[i].2.2 = true then 0 else l[i].2.1) := by
  rw [List.take_succ_eq_append_getElem h, rsum_app]; simp [rsum]
theorem wsum_bd : ∀ {l : List SegM}, (∀ x ∈ l, 0 ≤ x.2.1 ∧ x.2.1 ≤ 268435456) → 0 ≤ wsum l ∧ wsum l ≤ 268435456 * l.length
  | [], _ => by simp [wsum]
  | x :: l, h => by
    have h1 := wsum_bd (l := l) fun y hy => h y (List.mem_cons_of_mem _ hy)
    have h2 := h x (List.mem_cons_self ..)
    rw [wsum, List.length_cons]
    split <;> omega
theorem rsum_bd : ∀ {l : List SegM}, (∀ x ∈ l, 0 ≤ x.2.1 ∧ x.2.1 ≤ 268435456) → 0 ≤ rsum l ∧ rsum l ≤ 268435456 * l.length
  | [], _ => by simp [rsum]
  | x :: l, h => by
    have h1 := rsum_bd (l := l) fun y hy => h y (List.mem_cons_of_mem _ hy)
    have h2 := h x (List.mem_cons_self ..)
    rw [rsum, List.length_cons]
    split <;> omega

/-- segments as a walk finds them: few, and none is greater than a memory -/
def segB (l : List SegM) : Prop := l.length ≤ 511 ∧ ∀ x ∈ l, 0 ≤ x.2.1 ∧ x.2.1 ≤ 268435456
theorem segB.sums {l : List SegM} (h : segB l) (i : Nat) : 0 ≤ wsum (l.take i) ∧ wsum (l.take i) ≤ wsum l ∧ 0 ≤ rsum (l.take i) ∧ rsum (l.take i) ≤ rsum l ∧ wsum l ≤ 137170518016 ∧ rsum l ≤ 137170518016 := by
  have h1 := wsum_bd (l := l.take i) fun x hx => h.2 x (List.mem_of_mem_take hx)
  have h2 := rsum_bd (l := l.take i) fun x hx => h.2 x (List.mem_of_mem_take hx)
  have h3 := wsum_bd (l := l.drop i) fun x hx => h.2 x (List.mem_of_mem_drop hx)
  have h4 := rsum_bd (l := l.drop i) fun x hx => h.2 x (List.mem_of_mem_drop hx)
  have h5 := wsum_app (l.take i) (l.drop i)
  have h6 := rsum_app (l.take i) (l.drop i)
  rw [List.take_append_drop] at h5 h6
  have h7 := wsum_bd (l := l) h.2
  have h8 := rsum_bd (l := l) h.2
  have h9 := h.1
  omega

/-- of a segment, which part n bytes from one on are, where it begins at a number -/
def pieceP (x : SegM) (beg frm n : Int) : Int × Int :=
  if min (frm + n) (beg + x.2.1) ≤ max frm beg then (0, 0) else (x.1 + max frm beg - beg, min (frm + n) (beg + x.2.1) - max frm beg)

section
variable {R : Ending → World → Prop} {W0 w : World} {H : Hp} {A F : List Hp}


set_option maxRecDepth 100000 in
set_option maxHeartbeats 4000000 in
theorem c_sizes (s : Sat W0 w H A) {B : Option Addr} {n c : Nat} {hp : Hp} {segs : List SegM} (rd : Rd segE 3 hp (.slice B n c) segs) (hk : ∀ w', Sat W0 w' H A → Holds w' hp) (hb : segB segs) (ta tl : Int)
    (k : ∀ w', Sat W0 w' H A → R (.returned (.tuple #[.int .u64 (rsum segs), .int .u64 (wsum segs)])) w') :
    Calls Try.prog 79 #[.agg #[.slice B n c, .int .u64 ta, .int .u64 tl]] w R := by
  have s1 := s.alloc (c := [.slice B n c, .int .u64 ta, .int .u64 tl]) (t := 56)
  obtain ⟨Z, hZ⟩ : ∃ Z, w.heap.size = Z := ⟨_, rfl⟩
  rw [hZ] at s1
  obtain ⟨rfl, hcap, hcap2, gg⟩ := rd.seg
  obtain ⟨L, hL⟩ : ∃ L, segs.length = L := ⟨_, rfl⟩
  replace k := aside k
  replace hL := aside hL
  replace gg : Aside (∀ i (hi : i < L), ∃ b o, B = some ⟨b, o, none⟩ ∧ (∃ fr, hp (.cell b (o + i * 3)) = some (.val (.int .u64 (segs[i]'(by rw [hL.out]; exact hi)).1) fr)) ∧ (∃ fr, hp (.cell b (o + i * 3 + 1)) = some (.val (.int .u64 (segs[i]'(by rw [hL.out]; exact hi)).2.1) fr)) ∧ (∃ fr, hp (.cell b (o + i * 3 + 2)) = some (.val (.bool (segs[i]'(by rw [hL.out]; exact hi)).2.2) fr))) := aside fun i hi => gg i (by rw [hL.out]; exact hi)
  replace hb := aside hb
  rw [hL.out] at s1 hcap ⊢
  have hL5 : (L : Int) ≤ 511 := by have := hb.out.1; have := hL.out; omega
  clear s rd
  replace hk := aside hk
  have y0 := s1.cel Z 0 0 rfl
  have y1 := s1.cel Z 0 1 rfl
  have y2 := s1.cel Z 0 2 rfl
  simp only [Nat.zero_add] at y0 y1 y2
  go_enter Try.func79, Try.ntmps79
  go_wp2
  clear y0 y1 y2
  go_loopg [4, 5, 11] L (fun q v4 v5 v11 w' => ∃ i : Nat, q + i = L ∧ v4 = .int .u64 (rsum (segs.take i)) ∧ v5 = .int .u64 (wsum (segs.take i)) ∧ v11 = .int .i64 i ∧ Sat W0 w' H (cellsH ⟨Z, 0, none⟩ [.slice B L c, .int .u64 ta, .int .u64 tl] :: A))
  case atStart => exact ⟨0, rfl, rfl, rfl, rfl, s1⟩
  clear s1
  case round =>
    obtain ⟨i, hq, rfl, rfl, rfl, t⟩ := hrel
    have y0 := t.cel Z 0 0 rfl
    have y1 := t.cel Z 0 1 rfl
    have y2 := t.cel Z 0 2 rfl
    simp only [Nat.zero_add] at y0 y1 y2
    have hs := aside (hb.out.sums i)
    by_cases hi : i < L
    · have hs2 := aside (hb.out.sums (i + 1))
      have hr1 := aside (rsum_one (l := segs) (i := i) (by rw [hL.out]; exact hi))
      have hw1 := aside (wsum_one (l := segs) (i := i) (by rw [hL.out]; exact hi))
      obtain ⟨b, o, rfl, d0, d1, d2⟩ := gg.out i hi
      have H1 := hk.out _ t.tail1
      have q0 := H1.cell d0
      have q1 := H1.cell d1
      have q2 := H1.cell d2
      have i1 : (0 : Int) ≤ i ∧ (i : Int) < L := by omega
      obtain ⟨k1, hk1⟩ : ∃ y, (segs[i]'(by rw [hL.out]; exact hi)).1 = y := ⟨_, rfl⟩
      obtain ⟨k2, hk2⟩ : ∃ y, (segs[i]'(by rw [hL.out]; exact hi)).2.1 = y := ⟨_, rfl⟩
      obtain ⟨k3, hk3⟩ : ∃ y, (segs[i]'(by rw [hL.out]; exact hi)).2.2 = y := ⟨_, rfl⟩
      rw [hk1] at q0
      rw [hk2] at q1
      rw [hk3] at q2
      rw [hk2, hk3] at hr1 hw1
      obtain ⟨RS, hRS⟩ : ∃ y, rsum (segs.take i) = y := ⟨_, rfl⟩
      obtain ⟨WS, hWS⟩ : ∃ y, wsum (segs.take i) = y := ⟨_, rfl⟩
      rw [hRS] at hr1 hs ⊢
      rw [hWS] at hw1 hs ⊢
      clear hRS hWS hk1 hk2 hk3 d0 d1 d2 H1
      have s3 := t.alloc (c := [.int .u64 k1, .int .u64 k2, .bool k3]) (t := 71)
      obtain ⟨V, hV⟩ : ∃ V, wr.heap.size = V := ⟨_, rfl⟩
      rw [hV] at s3
      have m0 := s3.cel V 0 0 rfl
      have m1 := s3.cel V 0 1 rfl
      have m2 := s3.cel V 0 2 rfl
      simp only [Nat.zero_add] at m0 m1 m2
      cases k3 with
      | true =>
        have hr3 := aside (show rsum (segs.take (i + 1)) = RS by rw [hr1.out]; simp)
        have hw3 := aside (show wsum (segs.take (i + 1)) = WS + k2 by rw [hw1.out]; simp)
        have e : IntKind.u64.wrap (WS + k2) = WS + k2 := by
          rw [wrap_u64]; have h1 := hs.out; have h2 := hs2.out; have h3 := hw3.out; omega
        clear hs hs2 hr1 hw1
        go_wp2
        go_roundg (gk - 1)
        case measure => omega
        case rel => exact ⟨i + 1, by omega, by rw [hr3.out], by rw [hw3.out], by go_num, s3.wk⟩
      | false =>
        have hr3 := aside (show rsum (segs.take (i + 1)) = RS + k2 by rw [hr1.out]; simp)
        have hw3 := aside (show wsum (segs.take (i + 1)) = WS by rw [hw1.out]; simp)
        have e : IntKind.u64.wrap (RS + k2) = RS + k2 := by
          rw [wrap_u64]; have h1 := hs.out; have h2 := hs2.out; have h3 := hr3.out; omega
        clear hs hs2 hr1 hw1
        go_wp2
        go_roundg (gk - 1)
        case measure => omega
        case rel => exact ⟨i + 1, by omega, by rw [hr3.out], by rw [hw3.out], by go_num, s3.wk⟩
    · obtain rfl : i = L := by omega
      have e1 : segs.take i = segs := by rw [← hL.out]; exact List.take_length
      rw [e1]
      obtain ⟨RS, hRS⟩ : ∃ y, rsum segs = y := ⟨_, rfl⟩
      obtain ⟨WS, hWS⟩ : ∃ y, wsum segs = y := ⟨_, rfl⟩
      rw [hRS, hWS] at k ⊢
      clear hRS hWS e1 hs
      go_wp2
      exact k.out _ t.tail1

set_option maxRecDepth 100000 in
set_option maxHeartbeats 4000000 in
theorem c_chPiece (s : Sat W0 w H A) (a len : Int) (f : Bool) (beg frm n : Int) (hb : 0 ≤ beg ∧ beg ≤ 1099511627776) (hf : 0 ≤ frm ∧ frm ≤ 1099511627776) (hn : 0 ≤ n ∧ n ≤ 1099511627776) (hl : 0 ≤ len ∧ len ≤ 268435456) (ha : 0 ≤ a ∧ a ≤ 1099511627776)
    (k : ∀ w', Sat W0 w' H A → R (.returned (.tuple #[.int .u64 (pieceP (a, len, f) beg frm n).1, .int .u64 (pieceP (a, len, f) beg frm n).2])) w') :
    Calls Try.prog 80 #[.agg #[.int .u64 a, .int .u64 len, .bool f], .int .u64 beg, .int .u64 frm, .int .u64 n] w R := by
  have s1 := s.alloc (c := [.int .u64 a, .int .u64 len, .bool f]) (t := 71)
  obtain ⟨Z, hZ⟩ : ∃ Z, w.heap.size = Z := ⟨_, rfl⟩
  rw [hZ] at s1
  have e1 : IntKind.u64.wrap (frm + n) = frm + n := by rw [wrap_u64]; omega
  have e2 : IntKind.u64.wrap (beg + len) = beg + len := by rw [wrap_u64]; omega
  obtain ⟨lo, hlo⟩ : ∃ y, max frm beg = y := ⟨_, rfl⟩
  obtain ⟨hi, hhi⟩ : ∃ y, min (frm + n) (beg + len) = y := ⟨_, rfl⟩
  simp only [pieceP, hlo, hhi] at k
  have hlo2 : (if frm < beg then beg else frm) = lo := by rw [← hlo]; split <;> omega
  have hhi2 : (if beg + len < frm + n then beg + len else frm + n) = hi := by rw [← hhi]; split <;> omega
  have hlb : beg ≤ lo ∧ lo ≤ 1099511627776 ∧ 0 ≤ hi ∧ hi ≤ 2200000000000 := by omega
  clear hlo hhi
  replace k := aside k
  clear s
  have y0 := s1.cel Z 0 0 rfl
  have y1 := s1.cel Z 0 1 rfl
  have y2 := s1.cel Z 0 2 rfl
  simp only [Nat.zero_add] at y0 y1 y2
  go_enter Try.func80, Try.ntmps80
  go_wp2_with fail
  go_region
  have s2 := s1.drew
  by_cases h : hi ≤ lo
  · rw [if_pos h] at k
    clear hlo2 hhi2 y0 y1 y2 s1
    go_wp2
    exact k.out _ s2.tail1
  · rw [if_neg h] at k
    have e3 : IntKind.u64.wrap (a + lo) = a + lo := by rw [wrap_u64]; omega
    have e4 : IntKind.u64.wrap (a + lo - beg) = a + lo - beg := by rw [wrap_u64]; omega
    have e5 : IntKind.u64.wrap (hi - lo) = hi - lo := by rw [wrap_u64]; omega
    clear hlo2 hhi2 y0 y1 y2 s1
    have y0 := s2.cel Z 0 0 rfl
    have y1 := s2.cel Z 0 1 rfl
    have y2 := s2.cel Z 0 2 rfl
    simp only [Nat.zero_add] at y0 y1 y2
    replace hlb := aside hlb
    go_wp2
    exact k.out _ s2.tail1
end
end Go.Proofs.Ytippipfogbgemaa
