/-
  QUEUE, the document's: Serve.
-/
import Derived.Test.YtippipfogbgemaaUDg
import Derived.Test.YtippipfogbgemaaGA
import Derived.Test.YtippipfogbgemaaG7
import Derived.Deep.CutBlock
import Derived.Deep.DeepCutAuto
set_option linter.unusedVariables false
set_option linter.unusedSimpArgs false
namespace Go.Proofs.Ytippipfogbgemaa
open Go.RowKit
set_option linter.unusedVariables false
set_option linter.unusedSimpArgs false

theorem info_intQ : ∃ i, Try.prog.info? 3 = some i ∧ i.zero = some (.int .i64 0) ∧ i.size = 1 ∧ i.bytes = 8 := by
  have h : (Try.prog.info? 3).map (fun i => (i.zero, i.size, i.bytes)) = some (some (.int .i64 0), 1, 8) := by kernel_rfl
  cases hi : Try.prog.info? 3 with
  | none => simp [hi] at h
  | some i => simp [hi] at h; exact ⟨i, rfl, h⟩
theorem row_intQ {w : World} {a : Int} {t : TypeId} : RowR (w.alloc (.cells #[.int .i64 a] t)) (some ⟨w.heap.size, 0, none⟩) [.int .i64 a] := by
  intro _
  exact ⟨_, _, rfl, fun j u hu => by rw [Nat.zero_add]; simp [hu]⟩

theorem fetchP_got {q : QuM} {size : Int} {m : Int → Int} (h : (fetchP q size m).ok = true) : (fetchP q size m).got = true := by
  unfold fetchP at h ⊢
  by_cases h1 : q.rdy = false
  · rw [if_pos h1] at h; exact absurd h (by simp [FetchR.none])
  rw [if_neg h1] at h ⊢
  by_cases h2 : chk size q.n q.d q.a q.u ≠ 0
  · rw [if_pos h2] at h; exact absurd h (by simp [FetchR.none])
  rw [if_neg h2] at h ⊢
  by_cases h3 : offerN q size m = 0
  · rw [if_pos h3] at h; exact absurd h (by simp [FetchR.none])
  rw [if_neg h3] at h ⊢
  by_cases h4 : q.n < offerN q size m
  · rw [if_pos h4] at h; exact absurd h (by simp [FetchR.none])
  rw [if_neg h4]
section
variable {R : Ending → World → Prop} {W0 w : World} {H : Hp} {A F : List Hp} {v : Value} {size : Int} {m : Int → Int} {L : Nat} {B0 : Option Addr} {n0 c0 : Nat}

/-- what the document's service is, as a value's cells -/
def servedV (size : Int) (B : Option Addr) (n c : Nat) (q : QuM) (hv : Value) (te : Bool) (e : Int) : List Value := [.int .u64 size, .slice B n c, .int .i64 q.n, .int .u64 q.d, .int .u64 q.a, .int .u64 q.u, .bool q.rdy, .int .i64 q.fet, .int .i64 q.us, .bool q.ev, .bool q.ind, hv, .bool te, .int .i64 e]
def servedZ : List Value := [.int .u64 0, .slice none 0 0, .int .i64 0, .int .u64 0, .int .u64 0, .int .u64 0, .bool false, .int .i64 0, .int .i64 0, .bool false, .bool false, .slice none 0 0, .bool false, .int .i64 0]

def servedW (size : Int) (B : Option Addr) (n c : Nat) (q : QuM) (rd : Bool) (hv : Value) (te : Bool) (e : Int) : List Value := [.int .u64 size, .slice B n c, .int .i64 q.n, .int .u64 q.d, .int .u64 q.a, .int .u64 q.u, .bool rd, .int .i64 q.fet, .int .i64 q.us, .bool q.ev, .bool q.ind, hv, .bool te, .int .i64 e]
theorem servedV_W {size : Int} {B : Option Addr} {n c : Nat} {q : QuM} {rd : Bool} (h : q.rdy = rd) {hv : Value} {te : Bool} {e : Int} : servedV size B n c q hv te e = servedW size B n c q rd hv te e := by subst h; rfl

theorem c_refQTellsR (q : QuM) {rd : Bool} (hrd : q.rdy = rd) (s : Sat W0 w H A) (rm : RefM H (.agg #[.int .u64 size, .slice B0 n0 c0]) size m L) (hL : L ≤ 100000000000) (hz : 0 ≤ size ∧ size ≤ 268435456) (frm : Int) (hf : 0 ≤ frm ∧ frm ≤ 65535) (hv : frm ≠ q.us → q.okP size)
    (k : ∀ w', Sat W0 w' H A → R (.returned (.bool (tellsP q size m frm))) w') :
    Calls Try.prog 107 #[.agg #[.int .u64 size, .slice B0 n0 c0], .agg #[.int .i64 q.n, .int .u64 q.d, .int .u64 q.a, .int .u64 q.u, .bool rd, .int .i64 q.fet, .int .i64 q.us, .bool q.ev, .bool q.ind], .int .i64 frm] w R := by
  subst hrd
  exact c_refQTells q s rm hL hz frm hf hv k
theorem c_refQAskR (q : QuM) {rd : Bool} (hrd : q.rdy = rd) (s : Sat W0 w H A) (rm : RefM H (.agg #[.int .u64 size, .slice B0 n0 c0]) size m L) (hL : L ≤ 80000000000) (hz : 0 ≤ size ∧ size ≤ 268435456) (hv : q.ev = true → q.okP size)
    (k : ∀ w' H' B' n' c', (∀ l c, H l = some c → H' l = some c) → RefM H' (.agg #[.int .u64 size, .slice B' n' c']) size (askM q m) (L + 200) → Sat W0 w' H' A → R (.returned (.agg #[.int .u64 size, .slice B' n' c'])) w') :
    Calls Try.prog 110 #[.agg #[.int .u64 size, .slice B0 n0 c0], .agg #[.int .i64 q.n, .int .u64 q.d, .int .u64 q.a, .int .u64 q.u, .bool rd, .int .i64 q.fet, .int .i64 q.us, .bool q.ev, .bool q.ind]] w R := by
  subst hrd
  exact c_refQAsk q s rm hL hz hv k




set_option maxRecDepth 100000 in
set_option maxHeartbeats 4000000 in
theorem c_refQServe (q : QuM) (s : Sat W0 w H A) (rm : RefM H (.agg #[.int .u64 size, .slice B0 n0 c0]) size m L) (hz : 0 ≤ size ∧ size ≤ 268435456) (bt : Int) (hbt : 0 ≤ bt ∧ bt ≤ 255) (room : Nat) (hroom : room ≤ 100) (hL : L ≤ 60000000000)
    (k : ∀ f, serveP (fillDev bt) size 65537 q room m = f → ∀ w' H' B' n' c' HB hn hc, (∀ l c, H l = some c → H' l = some c) → RefM H' (.agg #[.int .u64 size, .slice B' n' c']) size (endM f.q f.e f.mem) (L + 500000) → Sat W0 w' H' A →
      R (.returned (.agg (servedV size B' n' c' f.q (.slice HB hn hc) (tellsP f.q size (endM f.q f.e f.mem) q.us) f.e).toArray)) w') :
    Calls Try.prog 61 #[.agg #[.int .u64 size, .slice B0 n0 c0], .agg #[.int .i64 q.n, .int .u64 q.d, .int .u64 q.a, .int .u64 q.u, .bool q.rdy, .int .i64 q.fet, .int .i64 q.us, .bool q.ev, .bool q.ind], .int .u8 bt, .int .i64 room] w R := by
  have s1 := ((s.alloc (c := [.int .u64 size, .slice B0 n0 c0]) (t := 28)).alloc (c := [.int .i64 q.n, .int .u64 q.d, .int .u64 q.a, .int .u64 q.u, .bool q.rdy, .int .i64 q.fet, .int .i64 q.us, .bool q.ev, .bool q.ind]) (t := 106)).alloc (c := [.int .u64 0, .slice none 0 0, .int .i64 0, .int .u64 0, .int .u64 0, .int .u64 0, .bool false, .int .i64 0, .int .i64 0, .bool false, .bool false, .slice none 0 0, .bool false, .int .i64 0]) (t := 141)
  obtain ⟨Z, hZ⟩ : ∃ Z, w.heap.size = Z := ⟨_, rfl⟩
  obtain ⟨Y, hY⟩ : ∃ Y, Z + 1 = Y := ⟨_, rfl⟩
  obtain ⟨X, hX⟩ : ∃ X, Y + 1 = X := ⟨_, rfl⟩
  simp only [World.size_alloc, hZ, hY, hX] at s1
  have y6 := s1.cel Y 0 6 rfl
  simp only [Nat.zero_add] at y6
  obtain ⟨FIN, hFIN⟩ : ∃ f, serveP (fillDev bt) size 65537 q room m = f := ⟨_, rfl⟩
  replace k := aside (k FIN hFIN)
  replace hFIN := aside hFIN
  replace rm := aside rm
  clear s
  obtain ⟨i0, hi0, hz0, hs0, hb0⟩ := info_intQ
  go_enter Try.func61, Try.ntmps61
  go_upto_block 0 with fail
  obtain ⟨FUEL, hFU⟩ : ∃ n : Nat, n = 65537 := ⟨_, rfl⟩
  clear y6
  go_cut [10] (fun s10 wx => ∃ (q1 : QuM) (x : Nat) (m1 : Int → Int) (L1 : Nat) (H1 : Hp) (B1 : Option Addr) (n1 c1 : Nat) (HA : Option Addr) (HN hc : Nat) (hh : Hp), s10 = .slice HA HN hc ∧ Aside ((⟨q1, x, m1, 0⟩ : ServeR Nat) = FIN) ∧ Aside (∀ l c, H l = some c → H1 l = some c) ∧ Aside (RefM H1 (.agg #[.int .u64 size, .slice B1 n1 c1]) size m1 L1) ∧ Aside (L1 ≤ L + 440000) ∧ Aside (QuM.Kin q q1) ∧ Aside (q.us ≠ q1.us → q1.okP size) ∧ Aside (q1.rdy = true → q1.okP size) ∧
    Sat W0 wx H1 (hh :: cellsH ⟨Z, 0, none⟩ [.int .u64 size, .slice B1 n1 c1] :: cellsH ⟨Y, 0, none⟩ [.int .i64 q1.n, .int .u64 q1.d, .int .u64 q1.a, .int .u64 q1.u, .bool q1.rdy, .int .i64 q1.fet, .int .i64 q1.us, .bool q1.ev, .bool q1.ind] :: cellsH ⟨X, 0, none⟩ [.int .u64 0, .slice none 0 0, .int .i64 0, .int .u64 0, .int .u64 0, .int .u64 0, .bool false, .int .i64 0, .int .i64 0, .bool false, .bool false, .slice none 0 0, .bool false, .int .i64 0] :: A))
  case first =>
    go_wp2_with fail
    go_loopg [3, 10, 11] FUEL (fun p v3 v10 v11 w' => ∃ (i : Nat) (qq : QuM) (x : Nat) (m' : Int → Int) (L' : Nat) (H' : Hp) (B' : Option Addr) (n' c' : Nat) (hs : List Int) (hh : Hp), p + i = FUEL ∧ v3 = .int .i64 x ∧ OwnS 1 v10 hs.length (hs.map (Value.int .i64)) hh ∧ v11 = .int .i64 i ∧ Aside (serveP (fillDev bt) size p qq x m' = FIN) ∧ Aside (∀ l c, H l = some c → H' l = some c) ∧ Aside (RefM H' (.agg #[.int .u64 size, .slice B' n' c']) size m' L') ∧ Aside (L' + 4400 * x ≤ L + 4400 * room ∧ hs.length ≤ i) ∧ Aside (QuM.Kin q qq) ∧ Aside (i = 0 ∧ qq.us = q.us ∨ qq.okP size) ∧
      Sat W0 w' H' (hh :: cellsH ⟨Z, 0, none⟩ [.int .u64 size, .slice B' n' c'] :: cellsH ⟨Y, 0, none⟩ [.int .i64 qq.n, .int .u64 qq.d, .int .u64 qq.a, .int .u64 qq.u, .bool qq.rdy, .int .i64 qq.fet, .int .i64 qq.us, .bool qq.ev, .bool qq.ind] :: cellsH ⟨X, 0, none⟩ [.int .u64 0, .slice none 0 0, .int .i64 0, .int .u64 0, .int .u64 0, .int .u64 0, .bool false, .int .i64 0, .int .i64 0, .bool false, .bool false, .slice none 0 0, .bool false, .int .i64 0] :: A))
    case atStart => exact ⟨0, q, room, m, L, H, B0, n0, c0, [], _, by omega, rfl, OwnS.nil 1, rfl, by rw [hFU]; exact hFIN, aside (fun _ _ h => h), rm, aside ⟨by omega, by simp⟩, aside (QuM.Kin.refl q), aside (.inl ⟨rfl, rfl⟩), s1.emp.wk⟩
    clear s1 hFIN rm
    case round =>
      obtain ⟨i, q1, x, m1, L1, H1, B1, n1, c1, hs, hh, hp, rfl, own, rfl, hFI, le1, rm1, hLx, hkin, hus, t⟩ := hrel
      have htl0 := aside (show q.us ≠ q1.us → q1.okP size from fun h => hus.out.elim (fun h2 => absurd h2.2.symm h) (fun h2 => h2))
      obtain ⟨HA, hc, rfl, hhc, hhc2⟩ := own.shp
      have hL1 := aside (show L1 ≤ 61000000000 by have := hLx.out.1; omega)
      by_cases hi : i < 65537
      · have hi2 : (i : Int) ≤ 65536 := by omega
        have z0 := t.cel Z 0 0 rfl
        have z1 := t.cel Z 0 1 rfl
        simp only [Nat.zero_add] at z0 z1
        have y0 := t.cel Y 0 0 rfl
        have y1 := t.cel Y 0 1 rfl
        have y2 := t.cel Y 0 2 rfl
        have y3 := t.cel Y 0 3 rfl
        have y4 := t.cel Y 0 4 rfl
        have y5 := t.cel Y 0 5 rfl
        have y6 := t.cel Y 0 6 rfl
        have y7 := t.cel Y 0 7 rfl
        have y8 := t.cel Y 0 8 rfl
        simp only [Nat.zero_add] at y0 y1 y2 y3 y4 y5 y6 y7 y8
        replace own := aside own
        go_wp2_with fail
        have hL2 := aside (show L1 ≤ 100000000000 by have := hL1.out; omega)
        refine c_refQFetch q1 t rm1.out hL2.out hz ?_
        intro f hf w2 B2 n2 c2 h2 own2 s2
        obtain ⟨HN, hHN⟩ : ∃ y, hs.length = y := ⟨_, rfl⟩
        rw [hHN] at hhc ⊢
        replace hHN := aside hHN
        clear t z0 z1 y0 y1 y2 y3 y4 y5 y6 y7 y8
        have sz := (s2.alloc (c := [.int .i64 0, .int .u64 0, .int .u64 0, .int .u64 0, .bool false, .int .i64 0, .int .i64 0, .bool false, .bool false]) (t := 106)).alloc (c := [.slice none 0 0, .int .u64 0, .int .u64 0]) (t := 60)
        obtain ⟨P, hP⟩ : ∃ P, w2.heap.size = P := ⟨_, rfl⟩
        obtain ⟨P2, hP2⟩ : ∃ y, P + 1 = y := ⟨_, rfl⟩
        simp only [World.size_alloc, hP, hP2] at sz
        have s3aq0 := sz.cel P 0 0 rfl
        have s3at0 := (sz.pc P 0).s0 (.int .i64 f.q.n)
        have s3aq1 := s3at0.c 1 rfl
        have s3at1 := s3at0.s 1 (by simp) (.int .u64 f.q.d)
        have s3aq2 := s3at1.c 2 rfl
        have s3at2 := s3at1.s 2 (by simp) (.int .u64 f.q.a)
        have s3aq3 := s3at2.c 3 rfl
        have s3at3 := s3at2.s 3 (by simp) (.int .u64 f.q.u)
        have s3aq4 := s3at3.c 4 rfl
        have s3at4 := s3at3.s 4 (by simp) (.bool f.q.rdy)
        have s3aq5 := s3at4.c 5 rfl
        have s3at5 := s3at4.s 5 (by simp) (.int .i64 f.q.fet)
        have s3aq6 := s3at5.c 6 rfl
        have s3at6 := s3at5.s 6 (by simp) (.int .i64 f.q.us)
        have s3aq7 := s3at6.c 7 rfl
        have s3at7 := s3at6.s 7 (by simp) (.bool f.q.ev)
        have s3aq8 := s3at7.c 8 rfl
        have s3a := s3at7.s 8 (by simp) (.bool f.q.ind)
        simp only [List.set_cons_succ, List.set_cons_zero, Nat.zero_add] at s3a s3aq0 s3aq1 s3aq2 s3aq3 s3aq4 s3aq5 s3aq6 s3aq7 s3aq8
        have s3q0 := s3a.cel P2 0 0 rfl
        have s3t0 := (s3a.pc P2 0).s0 (.slice B2 n2 c2)
        have s3q1 := s3t0.c 1 rfl
        have s3t1 := s3t0.s 1 (by simp) (.int .u64 f.ta)
        have s3q2 := s3t1.c 2 rfl
        have s3 := s3t1.s 2 (by simp) (.int .u64 f.tl)
        simp only [List.set_cons_succ, List.set_cons_zero, Nat.zero_add] at s3 s3q0 s3q1 s3q2
        go_upto_region 7 with fail
        generalize hW3 : World.setCell (World.setCell (World.setCell _ _ _) _ _) _ _ = w3 at s3 ⊢
        clear hW3 sz s3a s2
        have hfk := aside (fetchP_kin (size := size) (m := m1) hkin.out)
        rw [hf] at hfk
        by_cases he : f.e = 0
        · obtain ⟨p0, hp0⟩ : ∃ p0, gk = p0 + 1 := ⟨gk - 1, by omega⟩
          rw [hp0] at hFI
          cases ho : f.ok with
          | false =>
            have hno := fetchP_no (q := q1) (size := size) (m := m1) (by rw [hf]; exact he) (by rw [hf]; exact ho)
            have hFI2 := aside (show (⟨q1, x, m1, 0⟩ : ServeR Nat) = FIN by rw [← hFI.out, serveP_no (by rw [hf]; exact he) (by rw [hf]; exact ho)])
            have hask0 := aside (show q1.rdy = true → q1.okP size from hno.2)
            have hne : (f.e != 0) = false := by simp [he]
            replace ho := aside ho
            clear hno hFI own2 hf hfk he
            go_wp2
            go_meet
            exact ⟨q1, x, m1, L1, H1, B1, n1, c1, HA, HN, hc, hh, rfl, hFI2, le1, rm1, aside (by have := hLx.out.1; omega), hkin, htl0, hask0, s3.wk⟩
          | true =>
            cases x with
            | zero =>
              have hFI2 := aside (show (⟨q1, 0, m1, 0⟩ : ServeR Nat) = FIN by rw [← hFI.out, serveP_none (by rw [hf]; exact he) (by rw [hf]; exact ho) rfl])
              have hask0 := aside (show q1.rdy = true → q1.okP size from fun _ => (fetchP_ok (q := q1) (size := size) (m := m1) (by rw [hf]; exact ho)).2.2.1)
              have hne : (f.e != 0) = false := by simp [he]
              replace ho := aside ho
              clear hFI own2 hf hfk he
              go_wp2
              go_meet
              exact ⟨q1, 0, m1, L1, H1, B1, n1, c1, HA, HN, hc, hh, rfl, hFI2, le1, rm1, aside (by have := hLx.out.1; omega), hkin, htl0, hask0, s3.wk⟩
            | succ x =>
              have hgot := fetchP_got (q := q1) (size := size) (m := m1) (by rw [hf]; exact ho)
              obtain ⟨hq2, _, hok, hrdy, hhd, hwk⟩ := fetchP_ok (q := q1) (size := size) (m := m1) (by rw [hf]; exact ho)
              rw [hf] at hq2 hhd hwk hgot
              have hn := QuM.okP_bd hok
              have hmb := rm1.out.bd
              have hlies := walkP_lies hmb hwk (by omega)
              have hsg := aside (show f.segs.length ≤ 511 ∧ ∀ s ∈ f.segs, hasP size s.1 s.2.1 ∧ 0 ≤ s.2.1 from ⟨hlies.2.2.1, fun s hs => hlies.1 s hs⟩)
              have hB := (show segB f.segs from ⟨hsg.out.1, fun x hx => by have := hsg.out.2 x hx; unfold hasP at this; omega⟩).sums f.segs.length
              rw [List.take_length] at hB
              have hct := aside (fillC_bd (segs := f.segs) (by omega))
              have hhdD : f.hdD = f.hd := by unfold FetchR.hdD; rw [hgot]; rfl
              have hdb : 0 ≤ f.hdD ∧ f.hdD ≤ 65535 := by rw [hhdD, hhd]; exact hw_bd hmb _ _
              have hok1 := aside (show f.q.okP size by rw [hq2]; exact hok)
              have hFI2 := aside (show serveP (fillDev bt) size p0 f.q.ret x (retM f.q (fillM bt f.segs m1) f.hd (fillC f.segs)) = FIN by
                rw [← hFI.out, serveP_some (x' := x) (m' := fillM bt f.segs m1) (ct := fillC f.segs) (by rw [hf]; exact he) (by rw [hf]; exact ho) (by rw [hf]; rfl), hf])
              have rd2 := aside own2.rdG
              have hne : (f.e != 0) = false := by simp [he]
              have ex : IntKind.i64.wrap (((x + 1 : Nat) : Int) - 1) = (x : Int) := by simp [IntKind.wrap, IntKind.bits, IntKind.signed]; have := hLx.out.1; omega
              have hx2 : ((((x + 1 : Nat) : Int)) == 0) = false := by simp; omega
              have hLx' := aside (show L1 + 4400 + 4400 * x ≤ L + 4400 * room ∧ hs.length ≤ i by have := hLx.out; omega)
              have hLf := aside (show L1 ≤ 70000000000 by have := hL1.out; omega)
              have hLr := aside (show L1 + 4000 ≤ 70000000000 by have := hL1.out; omega)
              obtain ⟨XX, hXX⟩ : ∃ y, ((x + 1 : Nat) : Int) = y := ⟨_, rfl⟩
              rw [hXX] at ex hx2 ⊢
              have pp0 := s3.cel P 0 0 rfl
              have pp1 := s3.cel P 0 1 rfl
              have pp2 := s3.cel P 0 2 rfl
              have pp3 := s3.cel P 0 3 rfl
              have pp4 := s3.cel P 0 4 rfl
              have pp5 := s3.cel P 0 5 rfl
              have pp6 := s3.cel P 0 6 rfl
              have pp7 := s3.cel P 0 7 rfl
              have pp8 := s3.cel P 0 8 rfl
              simp only [Nat.zero_add] at pp0 pp1 pp2 pp3 pp4 pp5 pp6 pp7 pp8
              have s4q0 := s3.cel Y 0 0 rfl
              have s4t0 := (s3.pc Y 0).s0 (.int .i64 f.q.n)
              have s4q1 := s4t0.c 1 rfl
              have s4t1 := s4t0.s 1 (by simp) (.int .u64 f.q.d)
              have s4q2 := s4t1.c 2 rfl
              have s4t2 := s4t1.s 2 (by simp) (.int .u64 f.q.a)
              have s4q3 := s4t2.c 3 rfl
              have s4t3 := s4t2.s 3 (by simp) (.int .u64 f.q.u)
              have s4q4 := s4t3.c 4 rfl
              have s4t4 := s4t3.s 4 (by simp) (.bool f.q.rdy)
              have s4q5 := s4t4.c 5 rfl
              have s4t5 := s4t4.s 5 (by simp) (.int .i64 f.q.fet)
              have s4q6 := s4t5.c 6 rfl
              have s4t6 := s4t5.s 6 (by simp) (.int .i64 f.q.us)
              have s4q7 := s4t6.c 7 rfl
              have s4t7 := s4t6.s 7 (by simp) (.bool f.q.ev)
              have s4q8 := s4t7.c 8 rfl
              have s4 := s4t7.s 8 (by simp) (.bool f.q.ind)
              simp only [List.set_cons_succ, List.set_cons_zero, Nat.zero_add] at s4 s4q0 s4q1 s4q2 s4q3 s4q4 s4q5 s4q6 s4q7 s4q8
              rw [he]
              replace ho := aside ho
              clear hlies hB hFI own2 hf hwk hok hrdy hhd hgot hmb hn he
              replace hhdD := aside hhdD
              replace hXX := aside hXX
              replace hq2 := aside hq2
              go_upto_region 15 with fail
              generalize hW4 : World.setCell (World.setCell (World.setCell _ _ _) _ _) _ _ = w4 at s4 ⊢
              clear hW4 s3 pp0 pp1 pp2 pp3 pp4 pp5 pp6 pp7 pp8
              have z0 := s4.cel Z 0 0 rfl
              have z1 := s4.cel Z 0 1 rfl
              simp only [Nat.zero_add] at z0 z1
              have y0 := s4.cel P2 0 0 rfl
              have y1 := s4.cel P2 0 1 rfl
              have y2 := s4.cel P2 0 2 rfl
              simp only [Nat.zero_add] at y0 y1 y2
              go_wp2_with fail
              refine c_refFill s4 rm1.out hLf.out hz rd2.out (fun w' t => (Sat.pull (h := h2) t).head) hsg.out f.ta f.tl bt hbt ?_
              intro w5 H5 B5 n5 c5 le5 rm5 s5
              replace rm5 := aside rm5
              replace le5 := aside (show ∀ l c, H l = some c → H5 l = some c from fun l c h => le5 l c (le1.out l c h))
              have s6q0 := s5.cel Z 0 0 rfl
              have s6t0 := (s5.pc Z 0).s0 (.int .u64 size)
              have s6q1 := s6t0.c 1 rfl
              have s6 := s6t0.s 1 (by simp) (.slice B5 n5 c5)
              simp only [List.set_cons_succ, List.set_cons_zero, Nat.zero_add] at s6 s6q0 s6q1
              obtain ⟨FC, hFC⟩ : ∃ y, fillC f.segs = y := ⟨_, rfl⟩
              rw [hFC] at hct hFI2 ⊢
              replace hFC := aside hFC
              clear z0 z1 y0 y1 y2 s4
              go_upto_region 16 with fail
              generalize hW6 : World.setCell (World.setCell _ _ _) _ _ = w6 at s6 ⊢
              clear hW6 s5 s6q0 s6q1
              have z0 := s6.cel Z 0 0 rfl
              have z1 := s6.cel Z 0 1 rfl
              simp only [Nat.zero_add] at z0 z1
              have y0 := s6.cel Y 0 0 rfl
              have y1 := s6.cel Y 0 1 rfl
              have y2 := s6.cel Y 0 2 rfl
              have y3 := s6.cel Y 0 3 rfl
              have y4 := s6.cel Y 0 4 rfl
              have y5 := s6.cel Y 0 5 rfl
              have y6 := s6.cel Y 0 6 rfl
              have y7 := s6.cel Y 0 7 rfl
              have y8 := s6.cel Y 0 8 rfl
              simp only [Nat.zero_add] at y0 y1 y2 y3 y4 y5 y6 y7 y8
              have hct' := hct.out
              go_wp2_with fail
              refine c_refQReturn f.q s6 rm5.out hLr.out hz hok1.out f.hdD FC hdb hct.out ?_
              intro w7 H7 B7 n7 c7 le7 rm7 s7
              replace rm7 := aside (show RefM H7 (.agg #[.int .u64 size, .slice B7 n7 c7]) size (retM f.q (fillM bt f.segs m1) f.hd FC) (L1 + 4400) by rw [← hhdD.out]; exact rm7.leM (by omega))
              replace le7 := aside (show ∀ l c, H l = some c → H7 l = some c from fun l c h => le7 l c (le5.out l c h))
              have s8aq0 := s7.cel Z 0 0 rfl
              have s8at0 := (s7.pc Z 0).s0 (.int .u64 size)
              have s8aq1 := s8at0.c 1 rfl
              have s8a := s8at0.s 1 (by simp) (.slice B7 n7 c7)
              simp only [List.set_cons_succ, List.set_cons_zero, Nat.zero_add] at s8a s8aq0 s8aq1
              have s8q0 := s8a.cel Y 0 0 rfl
              have s8t0 := (s8a.pc Y 0).s0 (.int .i64 f.q.ret.n)
              have s8q1 := s8t0.c 1 rfl
              have s8t1 := s8t0.s 1 (by simp) (.int .u64 f.q.ret.d)
              have s8q2 := s8t1.c 2 rfl
              have s8t2 := s8t1.s 2 (by simp) (.int .u64 f.q.ret.a)
              have s8q3 := s8t2.c 3 rfl
              have s8t3 := s8t2.s 3 (by simp) (.int .u64 f.q.ret.u)
              have s8q4 := s8t3.c 4 rfl
              have s8t4 := s8t3.s 4 (by simp) (.bool f.q.ret.rdy)
              have s8q5 := s8t4.c 5 rfl
              have s8t5 := s8t4.s 5 (by simp) (.int .i64 f.q.ret.fet)
              have s8q6 := s8t5.c 6 rfl
              have s8t6 := s8t5.s 6 (by simp) (.int .i64 f.q.ret.us)
              have s8q7 := s8t6.c 7 rfl
              have s8t7 := s8t6.s 7 (by simp) (.bool f.q.ret.ev)
              have s8q8 := s8t7.c 8 rfl
              have s8 := s8t7.s 8 (by simp) (.bool f.q.ret.ind)
              simp only [List.set_cons_succ, List.set_cons_zero, Nat.zero_add] at s8 s8q0 s8q1 s8q2 s8q3 s8q4 s8q5 s8q6 s8q7 s8q8
              clear z0 z1 y0 y1 y2 y3 y4 y5 y6 y7 y8 s6 hct'
              go_upto_region 17 with fail
              generalize hW8 : World.setCell (World.setCell (World.setCell _ _ _) _ _) _ _ = w8 at s8 ⊢
              clear hW8 s7 s8a s8aq0 s8aq1
              have hkr := aside (show QuM.Kin q f.q.ret from hfk.out.1.ret)
              have hokr := aside (show f.q.ret.okP size from hok1.out)
              obtain ⟨HDD, hHDD⟩ : ∃ y, f.hdD = y := ⟨_, rfl⟩
              rw [hHDD] at hdb ⊢
              have hNb : HN ≤ 65537 := by have h1 := hLx'.out.2; have h2 := hHN.out; omega
              replace hHDD := aside hHDD
              go_wp2_with (at_builtin; refine wpList_append rfl (.tmp 78) (.tmp 80) 139 139 3 rfl i0 (.int .i64 0) 1 8 Try.underlying139 Try.underlying139 hi0 hz0 hs0 hb0 rfl (by decide) rfl (show OwnS 1 (.slice HA HN hc) HN (hs.map (Value.int .i64)) hh by rw [← hHN.out]; exact own.out) (Sat.pull (h := hh) (s8.alloc (c := [.int .i64 HDD]) (t := 3))) rfl (us := [.int .i64 HDD]) rfl row_intQ (by simp [Value.oneCell']) (by omega) (by omega) ?_; intro A9 c9 w9 h9 own9 s9)
              have own9' : OwnS 1 (.slice A9 (HN + 1) c9) (hs ++ [HDD]).length ((hs ++ [HDD]).map (Value.int .i64)) h9 := by rw [List.length_append, List.map_append, hHN.out]; exact own9
              go_roundg (gk - 1)
              case measure => omega
              case rel =>
                have hp1 : p0 = gk - 1 := by omega
                rw [← hp1]
                exact ⟨i + 1, f.q.ret, x, _, _, H7, B7, n7, c7, hs ++ [HDD], h9, by omega, rfl, own9', by go_num, hFI2, le7, rm7, aside ⟨by have := hLx'.out.1; omega, by rw [List.length_append]; have := hLx'.out.2; simp; omega⟩, hkr, aside (.inr hokr.out), s9.wk⟩
        · obtain ⟨p0, hp0⟩ : ∃ p0, gk = p0 + 1 := ⟨gk - 1, by omega⟩
          rw [hp0] at hFI
          have hFI2 := aside (show (⟨f.q, x, m1, f.e⟩ : ServeR Nat) = FIN by rw [← hFI.out, serveP_err (by rw [hf]; exact he), hf])
          have hem := aside (show endM f.q f.e m1 = m1 from if_neg (fun h => he h.1))
          have hne : (f.e != 0) = true := by simp [he]
          have htl := aside (show q.us ≠ f.q.us → f.q.okP size from fun h => by
            rw [hfk.out.1.okP, ← hkin.out.okP]
            exact htl0.out (by rw [← hfk.out.2]; exact h))
          obtain ⟨ER, hER⟩ : ∃ y, f.e = y := ⟨_, rfl⟩
          rw [hER] at hne hem hFI2 ⊢
          have le1x := le1
          have rmx := aside (show RefM H1 (.agg #[.int .u64 size, .slice B1 n1 c1]) size m1 (L + 500000) from rm1.out.leM (by have := hLx.out.1; omega))
          have rmt := rm1
          have hLt := hL2
          clear hFI he own2 hf hi2
          replace hER := aside hER
          replace hfk := aside hfk
          obtain ⟨TE, hTE⟩ : ∃ y, tellsP f.q size m1 q.us = y := ⟨_, rfl⟩
          replace k := aside (show ∀ w' H' B' n' c' HB hn hc, (∀ l c, H l = some c → H' l = some c) → RefM H' (.agg #[.int .u64 size, .slice B' n' c']) size m1 (L + 500000) → Sat W0 w' H' A → R (.returned (.agg (servedW size B' n' c' f.q f.q.rdy (.slice HB hn hc) TE ER).toArray)) w' from fun w' H' B' n' c' HB hn hc h1 h2 h3 => by
            have := k.out w' H' B' n' c' HB hn hc h1 (by rw [← hFI2.out]; simp only; rw [hem.out]; exact h2) h3
            rw [← hFI2.out] at this
            simp only at this
            rw [hem.out, hTE, servedV_W ((rfl : f.q.rdy = f.q.rdy))] at this
            exact this)
          have s4 := s3.alloc (c := [.int .u64 size, .slice B1 n1 c1, .int .i64 f.q.n, .int .u64 f.q.d, .int .u64 f.q.a, .int .u64 f.q.u, .bool f.q.rdy, .int .i64 f.q.fet, .int .i64 f.q.us, .bool f.q.ev, .bool f.q.ind, .slice HA HN hc, .bool false, .int .i64 ER]) (t := 141)
          obtain ⟨T, hT⟩ : ∃ T, w3.heap.size = T := ⟨_, rfl⟩
          rw [hT] at s4
          have z0 := s3.cel Z 0 0 rfl
          have z1 := s3.cel Z 0 1 rfl
          simp only [Nat.zero_add] at z0 z1
          have p0 := s3.cel P 0 0 rfl
          have p1 := s3.cel P 0 1 rfl
          have p2 := s3.cel P 0 2 rfl
          have p3 := s3.cel P 0 3 rfl
          have p4 := s3.cel P 0 4 rfl
          have p5 := s3.cel P 0 5 rfl
          have p6 := s3.cel P 0 6 rfl
          have p7 := s3.cel P 0 7 rfl
          have p8 := s3.cel P 0 8 rfl
          simp only [Nat.zero_add] at p0 p1 p2 p3 p4 p5 p6 p7 p8
          have v0 := s4.cel Z 0 0 rfl
          have v1 := s4.cel Z 0 1 rfl
          simp only [Nat.zero_add] at v0 v1
          have u0 := s4.cel P 0 0 rfl
          have u1 := s4.cel P 0 1 rfl
          have u2 := s4.cel P 0 2 rfl
          have u3 := s4.cel P 0 3 rfl
          have u4 := s4.cel P 0 4 rfl
          have u5 := s4.cel P 0 5 rfl
          have u6 := s4.cel P 0 6 rfl
          have u7 := s4.cel P 0 7 rfl
          have u8 := s4.cel P 0 8 rfl
          simp only [Nat.zero_add] at u0 u1 u2 u3 u4 u5 u6 u7 u8
          replace hTE := aside hTE
          clear hFI2
          by_cases hus2 : f.q.us = q.us
          · have hte : TE = false := by rw [← hTE.out]; exact if_pos hus2.symm
            subst hte
            have hb1 : (f.q.us != q.us) = false := by simp [hus2]
            replace hus2 := aside hus2
            have g0 := s4.c 0 rfl
            have g1 := s4.c 1 rfl
            have g2 := s4.c 2 rfl
            have g3 := s4.c 3 rfl
            have g4 := s4.c 4 rfl
            have g5 := s4.c 5 rfl
            have g6 := s4.c 6 rfl
            have g7 := s4.c 7 rfl
            have g8 := s4.c 8 rfl
            have g9 := s4.c 9 rfl
            have g10 := s4.c 10 rfl
            have g11 := s4.c 11 rfl
            have g12 := s4.c 12 rfl
            have g13 := s4.c 13 rfl
            simp only [Nat.zero_add] at g0 g1 g2 g3 g4 g5 g6 g7 g8 g9 g10 g11 g12 g13
            have xxq0 := s4.cel X 0 0 rfl
            have xxt0 := (s4.pc X 0).s0 (.int .u64 size)
            have xxq1 := xxt0.c 1 rfl
            have xxt1 := xxt0.s 1 (by simp) (.slice B1 n1 c1)
            have xxq2 := xxt1.c 2 rfl
            have xxt2 := xxt1.s 2 (by simp) (.int .i64 f.q.n)
            have xxq3 := xxt2.c 3 rfl
            have xxt3 := xxt2.s 3 (by simp) (.int .u64 f.q.d)
            have xxq4 := xxt3.c 4 rfl
            have xxt4 := xxt3.s 4 (by simp) (.int .u64 f.q.a)
            have xxq5 := xxt4.c 5 rfl
            have xxt5 := xxt4.s 5 (by simp) (.int .u64 f.q.u)
            have xxq6 := xxt5.c 6 rfl
            have xxt6 := xxt5.s 6 (by simp) (.bool f.q.rdy)
            have xxq7 := xxt6.c 7 rfl
            have xxt7 := xxt6.s 7 (by simp) (.int .i64 f.q.fet)
            have xxq8 := xxt7.c 8 rfl
            have xxt8 := xxt7.s 8 (by simp) (.int .i64 f.q.us)
            have xxq9 := xxt8.c 9 rfl
            have xxt9 := xxt8.s 9 (by simp) (.bool f.q.ev)
            have xxq10 := xxt9.c 10 rfl
            have xxt10 := xxt9.s 10 (by simp) (.bool f.q.ind)
            have xxq11 := xxt10.c 11 rfl
            have xxt11 := xxt10.s 11 (by simp) (.slice HA HN hc)
            have xxq12 := xxt11.c 12 rfl
            have xxt12 := xxt11.s 12 (by simp) (.bool false)
            have xxq13 := xxt12.c 13 rfl
            have xx := xxt12.s 13 (by simp) (.int .i64 ER)
            simp only [List.set_cons_succ, List.set_cons_zero, Nat.zero_add] at xx xxq0 xxq1 xxq2 xxq3 xxq4 xxq5 xxq6 xxq7 xxq8 xxq9 xxq10 xxq11 xxq12 xxq13
            generalize hWX : World.setCell _ _ _ = WX at xx
            have f0 := xx.c 0 rfl
            have f1 := xx.c 1 rfl
            have f2 := xx.c 2 rfl
            have f3 := xx.c 3 rfl
            have f4 := xx.c 4 rfl
            have f5 := xx.c 5 rfl
            have f6 := xx.c 6 rfl
            have f7 := xx.c 7 rfl
            have f8 := xx.c 8 rfl
            have f9 := xx.c 9 rfl
            have f10 := xx.c 10 rfl
            have f11 := xx.c 11 rfl
            have f12 := xx.c 12 rfl
            have f13 := xx.c 13 rfl
            simp only [Nat.zero_add] at f0 f1 f2 f3 f4 f5 f6 f7 f8 f9 f10 f11 f12 f13
            replace hWX := aside hWX
            have kk := aside (k.out WX H1 B1 n1 c1 HA HN hc le1x.out rmx.out xx.wk)
            go_wp2
            try rw [hWX.out]
            refine bodyPost_ret (by simp [results, Try.results61, go_sem, f0.1, f1.1, f2.1, f3.1, f4.1, f5.1, f6.1, f7.1, f8.1, f9.1, f10.1, f11.1, f12.1, f13.1]; try rfl) rfl ?_
            exact kk.out
          · have hb1 : (f.q.us != q.us) = true := by simp [hus2]
            replace hus2 := aside hus2
            clear s3
            go_wp2_with fail
            refine c_refQTellsR f.q ((rfl : f.q.rdy = f.q.rdy)) s4 rmt.out hLt.out hz q.us q.hus htl.out ?_
            rw [hTE.out]
            intro w5 s5
            clear s4 z0 z1 p0 p1 p2 p3 p4 p5 p6 p7 p8 v0 v1 u0 u1 u2 u3 u4 u5 u6 u7 u8
            have sT := (Sat.pc s5 T 0).s 12 (by simp) (.bool TE)
            simp only [List.set_cons_succ, List.set_cons_zero, Nat.zero_add] at sT
            have t12 := (Sat.pc s5 T 0).c 12 rfl
            simp only [Nat.zero_add] at t12
            obtain ⟨WT, hWT⟩ : ∃ y, World.setCell w5 ⟨T, 12, none⟩ (.bool TE) = y := ⟨_, rfl⟩
            rw [hWT] at sT
            have g0 := sT.c 0 rfl
            have g1 := sT.c 1 rfl
            have g2 := sT.c 2 rfl
            have g3 := sT.c 3 rfl
            have g4 := sT.c 4 rfl
            have g5 := sT.c 5 rfl
            have g6 := sT.c 6 rfl
            have g7 := sT.c 7 rfl
            have g8 := sT.c 8 rfl
            have g9 := sT.c 9 rfl
            have g10 := sT.c 10 rfl
            have g11 := sT.c 11 rfl
            have g12 := sT.c 12 rfl
            have g13 := sT.c 13 rfl
            simp only [Nat.zero_add] at g0 g1 g2 g3 g4 g5 g6 g7 g8 g9 g10 g11 g12 g13
            have xxq0 := sT.cel X 0 0 rfl
            have xxt0 := (sT.pc X 0).s0 (.int .u64 size)
            have xxq1 := xxt0.c 1 rfl
            have xxt1 := xxt0.s 1 (by simp) (.slice B1 n1 c1)
            have xxq2 := xxt1.c 2 rfl
            have xxt2 := xxt1.s 2 (by simp) (.int .i64 f.q.n)
            have xxq3 := xxt2.c 3 rfl
            have xxt3 := xxt2.s 3 (by simp) (.int .u64 f.q.d)
            have xxq4 := xxt3.c 4 rfl
            have xxt4 := xxt3.s 4 (by simp) (.int .u64 f.q.a)
            have xxq5 := xxt4.c 5 rfl
            have xxt5 := xxt4.s 5 (by simp) (.int .u64 f.q.u)
            have xxq6 := xxt5.c 6 rfl
            have xxt6 := xxt5.s 6 (by simp) (.bool f.q.rdy)
            have xxq7 := xxt6.c 7 rfl
            have xxt7 := xxt6.s 7 (by simp) (.int .i64 f.q.fet)
            have xxq8 := xxt7.c 8 rfl
            have xxt8 := xxt7.s 8 (by simp) (.int .i64 f.q.us)
            have xxq9 := xxt8.c 9 rfl
            have xxt9 := xxt8.s 9 (by simp) (.bool f.q.ev)
            have xxq10 := xxt9.c 10 rfl
            have xxt10 := xxt9.s 10 (by simp) (.bool f.q.ind)
            have xxq11 := xxt10.c 11 rfl
            have xxt11 := xxt10.s 11 (by simp) (.slice HA HN hc)
            have xxq12 := xxt11.c 12 rfl
            have xxt12 := xxt11.s 12 (by simp) (.bool TE)
            have xxq13 := xxt12.c 13 rfl
            have xx := xxt12.s 13 (by simp) (.int .i64 ER)
            simp only [List.set_cons_succ, List.set_cons_zero, Nat.zero_add] at xx xxq0 xxq1 xxq2 xxq3 xxq4 xxq5 xxq6 xxq7 xxq8 xxq9 xxq10 xxq11 xxq12 xxq13
            generalize hWX : World.setCell _ _ _ = WX at xx
            have f0 := xx.c 0 rfl
            have f1 := xx.c 1 rfl
            have f2 := xx.c 2 rfl
            have f3 := xx.c 3 rfl
            have f4 := xx.c 4 rfl
            have f5 := xx.c 5 rfl
            have f6 := xx.c 6 rfl
            have f7 := xx.c 7 rfl
            have f8 := xx.c 8 rfl
            have f9 := xx.c 9 rfl
            have f10 := xx.c 10 rfl
            have f11 := xx.c 11 rfl
            have f12 := xx.c 12 rfl
            have f13 := xx.c 13 rfl
            simp only [Nat.zero_add] at f0 f1 f2 f3 f4 f5 f6 f7 f8 f9 f10 f11 f12 f13
            replace hWX := aside hWX
            have kk := aside (k.out WX H1 B1 n1 c1 HA HN hc le1x.out rmx.out xx.wk)
            go_wp2
            try rw [hWX.out]
            refine bodyPost_ret (by simp [results, Try.results61, go_sem, f0.1, f1.1, f2.1, f3.1, f4.1, f5.1, f6.1, f7.1, f8.1, f9.1, f10.1, f11.1, f12.1, f13.1]; try rfl) rfl ?_
            exact kk.out
      · obtain rfl : gk = 0 := by omega
        have hi3 : ¬ (i : Int) ≤ 65536 := by omega
        have hFI2 : (⟨q1, x, m1, 0⟩ : ServeR Nat) = FIN := hFI.out
        replace hFI2 := aside hFI2
        have hask0 := aside (show q1.rdy = true → q1.okP size from fun _ => hus.out.elim (fun h => absurd h.1 (by omega)) (fun h => h))
        obtain ⟨HN, hHN⟩ : ∃ y, hs.length = y := ⟨_, rfl⟩
        rw [hHN] at hhc ⊢
        replace hHN := aside hHN
        clear hFI hp hFU
        go_wp2
        go_meet
        exact ⟨q1, x, m1, L1, H1, B1, n1, c1, HA, HN, hc, hh, rfl, hFI2, le1, rm1, aside (by have := hLx.out.1; omega), hkin, htl0, hask0, t.wk⟩
  case rest =>
    obtain ⟨q1, x, m1, L1, H1, B1, n1, c1, HA, HN, hc, hh, rfl, hFI2, le1, rm1, hLx, hkin, htl0, hask0, t⟩ := hcut
    have htl := aside (show q.us ≠ q1.us → q1.okP size from htl0.out)
    obtain ⟨RD, hRD⟩ : ∃ b, q1.rdy = b := ⟨_, rfl⟩
    rw [hRD] at t
    obtain ⟨ME, hME⟩ : ∃ y, endM q1 0 m1 = y := ⟨_, rfl⟩
    replace hRD := aside hRD
    replace hME := aside hME
    have y4 := t.cel Y 0 4 rfl
    simp only [Nat.zero_add] at y4
    go_upto_if 83 with fail
    clear y4
    go_cut [] (fun wx => ∃ (H5 : Hp) (B5 : Option Addr) (n5 c5 : Nat), Aside (∀ l c, H l = some c → H5 l = some c) ∧ Aside (RefM H5 (.agg #[.int .u64 size, .slice B5 n5 c5]) size ME (L + 490000)) ∧ Sat W0 wx H5 (hh :: cellsH ⟨Z, 0, none⟩ [.int .u64 size, .slice B5 n5 c5] :: cellsH ⟨Y, 0, none⟩ [.int .i64 q1.n, .int .u64 q1.d, .int .u64 q1.a, .int .u64 q1.u, .bool RD, .int .i64 q1.fet, .int .i64 q1.us, .bool q1.ev, .bool q1.ind] :: cellsH ⟨X, 0, none⟩ [.int .u64 0, .slice none 0 0, .int .i64 0, .int .u64 0, .int .u64 0, .int .u64 0, .bool false, .int .i64 0, .int .i64 0, .bool false, .bool false, .slice none 0 0, .bool false, .int .i64 0] :: A))
    case first =>
      cases RD with
      | true =>
        have hask := aside (show q1.ev = true → q1.okP size from fun _ => hask0.out hRD.out)
        have hem := aside (show ME = askM q1 m1 from hME.out.symm.trans (if_pos ⟨rfl, hRD.out⟩))
        have hL8 := aside (show L1 ≤ 80000000000 by have := hLx.out; omega)
        have z0 := t.cel Z 0 0 rfl
        have z1 := t.cel Z 0 1 rfl
        simp only [Nat.zero_add] at z0 z1
        have y0 := t.cel Y 0 0 rfl
        have y1 := t.cel Y 0 1 rfl
        have y2 := t.cel Y 0 2 rfl
        have y3 := t.cel Y 0 3 rfl
        have y4 := t.cel Y 0 4 rfl
        have y5 := t.cel Y 0 5 rfl
        have y6 := t.cel Y 0 6 rfl
        have y7 := t.cel Y 0 7 rfl
        have y8 := t.cel Y 0 8 rfl
        simp only [Nat.zero_add] at y0 y1 y2 y3 y4 y5 y6 y7 y8
        go_wp2_with fail
        refine c_refQAskR q1 hRD.out t rm1.out hL8.out hz hask.out ?_
        intro w5 H5 B5 n5 c5 le5 rm5 s5
        have le6 := aside (show ∀ l c, H l = some c → H5 l = some c from fun l c h => le5 l c (le1.out l c h))
        have rm6 := aside (show RefM H5 (.agg #[.int .u64 size, .slice B5 n5 c5]) size ME (L + 490000) by rw [hem.out]; exact rm5.leM (by have := hLx.out; omega))
        have s6q0 := s5.cel Z 0 0 rfl
        have s6t0 := (s5.pc Z 0).s0 (.int .u64 size)
        have s6q1 := s6t0.c 1 rfl
        have s6 := s6t0.s 1 (by simp) (.slice B5 n5 c5)
        simp only [List.set_cons_succ, List.set_cons_zero, Nat.zero_add] at s6 s6q0 s6q1
        clear t z0 z1 y0 y1 y2 y3 y4 y5 y6 y7 y8 le5 rm5 s5
        go_wp2
        go_meet
        exact ⟨H5, B5, n5, c5, le6, rm6, s6.wk⟩
      | false =>
        have hem := aside (show ME = m1 from hME.out.symm.trans (if_neg (fun h => by rw [hRD.out] at h; exact absurd h.2 (by decide))))
        have rm6 := aside (show RefM H1 (.agg #[.int .u64 size, .slice B1 n1 c1]) size ME (L + 490000) by rw [hem.out]; exact rm1.out.leM (by have := hLx.out; omega))
        go_wp2
        go_meet
        exact ⟨H1, B1, n1, c1, le1, rm6, t.wk⟩
    case rest =>
      obtain ⟨H5, B5, n5, c5, le1x, rmt, s6⟩ := hcut
      have hem := hME
      have rmx := aside (rmt.out.leM (show L + 490000 ≤ L + 500000 by omega))
      have hLt := aside (show L + 490000 ≤ 100000000000 by omega)
      clear t
      obtain ⟨TE, hTE⟩ : ∃ y, tellsP q1 size ME q.us = y := ⟨_, rfl⟩
      replace k := aside (show ∀ w' H' B' n' c' HB hn hc, (∀ l c, H l = some c → H' l = some c) → RefM H' (.agg #[.int .u64 size, .slice B' n' c']) size ME (L + 500000) → Sat W0 w' H' A → R (.returned (.agg (servedW size B' n' c' q1 RD (.slice HB hn hc) TE 0).toArray)) w' from fun w' H' B' n' c' HB hn hc h1 h2 h3 => by
        have := k.out w' H' B' n' c' HB hn hc h1 (by rw [← hFI2.out]; simp only; rw [hem.out]; exact h2) h3
        rw [← hFI2.out] at this
        simp only at this
        rw [hem.out, hTE, servedV_W (hRD.out)] at this
        exact this)
      have s4 := s6.alloc (c := [.int .u64 size, .slice B5 n5 c5, .int .i64 q1.n, .int .u64 q1.d, .int .u64 q1.a, .int .u64 q1.u, .bool RD, .int .i64 q1.fet, .int .i64 q1.us, .bool q1.ev, .bool q1.ind, .slice HA HN hc, .bool false, .int .i64 0]) (t := 141)
      obtain ⟨T, hT⟩ : ∃ T, wc.heap.size = T := ⟨_, rfl⟩
      rw [hT] at s4
      have z0 := s6.cel Z 0 0 rfl
      have z1 := s6.cel Z 0 1 rfl
      simp only [Nat.zero_add] at z0 z1
      have p0 := s6.cel Y 0 0 rfl
      have p1 := s6.cel Y 0 1 rfl
      have p2 := s6.cel Y 0 2 rfl
      have p3 := s6.cel Y 0 3 rfl
      have p4 := s6.cel Y 0 4 rfl
      have p5 := s6.cel Y 0 5 rfl
      have p6 := s6.cel Y 0 6 rfl
      have p7 := s6.cel Y 0 7 rfl
      have p8 := s6.cel Y 0 8 rfl
      simp only [Nat.zero_add] at p0 p1 p2 p3 p4 p5 p6 p7 p8
      have v0 := s4.cel Z 0 0 rfl
      have v1 := s4.cel Z 0 1 rfl
      simp only [Nat.zero_add] at v0 v1
      have u0 := s4.cel Y 0 0 rfl
      have u1 := s4.cel Y 0 1 rfl
      have u2 := s4.cel Y 0 2 rfl
      have u3 := s4.cel Y 0 3 rfl
      have u4 := s4.cel Y 0 4 rfl
      have u5 := s4.cel Y 0 5 rfl
      have u6 := s4.cel Y 0 6 rfl
      have u7 := s4.cel Y 0 7 rfl
      have u8 := s4.cel Y 0 8 rfl
      simp only [Nat.zero_add] at u0 u1 u2 u3 u4 u5 u6 u7 u8
      replace hTE := aside hTE
      clear hFI2
      by_cases hus2 : q1.us = q.us
      · have hte : TE = false := by rw [← hTE.out]; exact if_pos hus2.symm
        subst hte
        have hb1 : (q1.us != q.us) = false := by simp [hus2]
        replace hus2 := aside hus2
        have g0 := s4.c 0 rfl
        have g1 := s4.c 1 rfl
        have g2 := s4.c 2 rfl
        have g3 := s4.c 3 rfl
        have g4 := s4.c 4 rfl
        have g5 := s4.c 5 rfl
        have g6 := s4.c 6 rfl
        have g7 := s4.c 7 rfl
        have g8 := s4.c 8 rfl
        have g9 := s4.c 9 rfl
        have g10 := s4.c 10 rfl
        have g11 := s4.c 11 rfl
        have g12 := s4.c 12 rfl
        have g13 := s4.c 13 rfl
        simp only [Nat.zero_add] at g0 g1 g2 g3 g4 g5 g6 g7 g8 g9 g10 g11 g12 g13
        have xxq0 := s4.cel X 0 0 rfl
        have xxt0 := (s4.pc X 0).s0 (.int .u64 size)
        have xxq1 := xxt0.c 1 rfl
        have xxt1 := xxt0.s 1 (by simp) (.slice B5 n5 c5)
        have xxq2 := xxt1.c 2 rfl
        have xxt2 := xxt1.s 2 (by simp) (.int .i64 q1.n)
        have xxq3 := xxt2.c 3 rfl
        have xxt3 := xxt2.s 3 (by simp) (.int .u64 q1.d)
        have xxq4 := xxt3.c 4 rfl
        have xxt4 := xxt3.s 4 (by simp) (.int .u64 q1.a)
        have xxq5 := xxt4.c 5 rfl
        have xxt5 := xxt4.s 5 (by simp) (.int .u64 q1.u)
        have xxq6 := xxt5.c 6 rfl
        have xxt6 := xxt5.s 6 (by simp) (.bool RD)
        have xxq7 := xxt6.c 7 rfl
        have xxt7 := xxt6.s 7 (by simp) (.int .i64 q1.fet)
        have xxq8 := xxt7.c 8 rfl
        have xxt8 := xxt7.s 8 (by simp) (.int .i64 q1.us)
        have xxq9 := xxt8.c 9 rfl
        have xxt9 := xxt8.s 9 (by simp) (.bool q1.ev)
        have xxq10 := xxt9.c 10 rfl
        have xxt10 := xxt9.s 10 (by simp) (.bool q1.ind)
        have xxq11 := xxt10.c 11 rfl
        have xxt11 := xxt10.s 11 (by simp) (.slice HA HN hc)
        have xxq12 := xxt11.c 12 rfl
        have xxt12 := xxt11.s 12 (by simp) (.bool false)
        have xxq13 := xxt12.c 13 rfl
        have xx := xxt12.s 13 (by simp) (.int .i64 0)
        simp only [List.set_cons_succ, List.set_cons_zero, Nat.zero_add] at xx xxq0 xxq1 xxq2 xxq3 xxq4 xxq5 xxq6 xxq7 xxq8 xxq9 xxq10 xxq11 xxq12 xxq13
        generalize hWX : World.setCell _ _ _ = WX at xx
        have f0 := xx.c 0 rfl
        have f1 := xx.c 1 rfl
        have f2 := xx.c 2 rfl
        have f3 := xx.c 3 rfl
        have f4 := xx.c 4 rfl
        have f5 := xx.c 5 rfl
        have f6 := xx.c 6 rfl
        have f7 := xx.c 7 rfl
        have f8 := xx.c 8 rfl
        have f9 := xx.c 9 rfl
        have f10 := xx.c 10 rfl
        have f11 := xx.c 11 rfl
        have f12 := xx.c 12 rfl
        have f13 := xx.c 13 rfl
        simp only [Nat.zero_add] at f0 f1 f2 f3 f4 f5 f6 f7 f8 f9 f10 f11 f12 f13
        replace hWX := aside hWX
        have kk := aside (k.out WX H5 B5 n5 c5 HA HN hc le1x.out rmx.out xx.wk)
        go_wp2
        try rw [hWX.out]
        refine bodyPost_ret (by simp [results, Try.results61, go_sem, f0.1, f1.1, f2.1, f3.1, f4.1, f5.1, f6.1, f7.1, f8.1, f9.1, f10.1, f11.1, f12.1, f13.1]; try rfl) rfl ?_
        exact kk.out
      · have hb1 : (q1.us != q.us) = true := by simp [hus2]
        replace hus2 := aside hus2
        clear s6
        go_wp2_with fail
        refine c_refQTellsR q1 (hRD.out) s4 rmt.out hLt.out hz q.us q.hus htl.out ?_
        rw [hTE.out]
        intro w5 s5
        clear s4 z0 z1 p0 p1 p2 p3 p4 p5 p6 p7 p8 v0 v1 u0 u1 u2 u3 u4 u5 u6 u7 u8
        have sT := (Sat.pc s5 T 0).s 12 (by simp) (.bool TE)
        simp only [List.set_cons_succ, List.set_cons_zero, Nat.zero_add] at sT
        have t12 := (Sat.pc s5 T 0).c 12 rfl
        simp only [Nat.zero_add] at t12
        obtain ⟨WT, hWT⟩ : ∃ y, World.setCell w5 ⟨T, 12, none⟩ (.bool TE) = y := ⟨_, rfl⟩
        rw [hWT] at sT
        have g0 := sT.c 0 rfl
        have g1 := sT.c 1 rfl
        have g2 := sT.c 2 rfl
        have g3 := sT.c 3 rfl
        have g4 := sT.c 4 rfl
        have g5 := sT.c 5 rfl
        have g6 := sT.c 6 rfl
        have g7 := sT.c 7 rfl
        have g8 := sT.c 8 rfl
        have g9 := sT.c 9 rfl
        have g10 := sT.c 10 rfl
        have g11 := sT.c 11 rfl
        have g12 := sT.c 12 rfl
        have g13 := sT.c 13 rfl
        simp only [Nat.zero_add] at g0 g1 g2 g3 g4 g5 g6 g7 g8 g9 g10 g11 g12 g13
        have xxq0 := sT.cel X 0 0 rfl
        have xxt0 := (sT.pc X 0).s0 (.int .u64 size)
        have xxq1 := xxt0.c 1 rfl
        have xxt1 := xxt0.s 1 (by simp) (.slice B5 n5 c5)
        have xxq2 := xxt1.c 2 rfl
        have xxt2 := xxt1.s 2 (by simp) (.int .i64 q1.n)
        have xxq3 := xxt2.c 3 rfl
        have xxt3 := xxt2.s 3 (by simp) (.int .u64 q1.d)
        have xxq4 := xxt3.c 4 rfl
        have xxt4 := xxt3.s 4 (by simp) (.int .u64 q1.a)
        have xxq5 := xxt4.c 5 rfl
        have xxt5 := xxt4.s 5 (by simp) (.int .u64 q1.u)
        have xxq6 := xxt5.c 6 rfl
        have xxt6 := xxt5.s 6 (by simp) (.bool RD)
        have xxq7 := xxt6.c 7 rfl
        have xxt7 := xxt6.s 7 (by simp) (.int .i64 q1.fet)
        have xxq8 := xxt7.c 8 rfl
        have xxt8 := xxt7.s 8 (by simp) (.int .i64 q1.us)
        have xxq9 := xxt8.c 9 rfl
        have xxt9 := xxt8.s 9 (by simp) (.bool q1.ev)
        have xxq10 := xxt9.c 10 rfl
        have xxt10 := xxt9.s 10 (by simp) (.bool q1.ind)
        have xxq11 := xxt10.c 11 rfl
        have xxt11 := xxt10.s 11 (by simp) (.slice HA HN hc)
        have xxq12 := xxt11.c 12 rfl
        have xxt12 := xxt11.s 12 (by simp) (.bool TE)
        have xxq13 := xxt12.c 13 rfl
        have xx := xxt12.s 13 (by simp) (.int .i64 0)
        simp only [List.set_cons_succ, List.set_cons_zero, Nat.zero_add] at xx xxq0 xxq1 xxq2 xxq3 xxq4 xxq5 xxq6 xxq7 xxq8 xxq9 xxq10 xxq11 xxq12 xxq13
        generalize hWX : World.setCell _ _ _ = WX at xx
        have f0 := xx.c 0 rfl
        have f1 := xx.c 1 rfl
        have f2 := xx.c 2 rfl
        have f3 := xx.c 3 rfl
        have f4 := xx.c 4 rfl
        have f5 := xx.c 5 rfl
        have f6 := xx.c 6 rfl
        have f7 := xx.c 7 rfl
        have f8 := xx.c 8 rfl
        have f9 := xx.c 9 rfl
        have f10 := xx.c 10 rfl
        have f11 := xx.c 11 rfl
        have f12 := xx.c 12 rfl
        have f13 := xx.c 13 rfl
        simp only [Nat.zero_add] at f0 f1 f2 f3 f4 f5 f6 f7 f8 f9 f10 f11 f12 f13
        replace hWX := aside hWX
        have kk := aside (k.out WX H5 B5 n5 c5 HA HN hc le1x.out rmx.out xx.wk)
        go_wp2
        try rw [hWX.out]
        refine bodyPost_ret (by simp [results, Try.results61, go_sem, f0.1, f1.1, f2.1, f3.1, f4.1, f5.1, f6.1, f7.1, f8.1, f9.1, f10.1, f11.1, f12.1, f13.1]; try rfl) rfl ?_
        exact kk.out
end
end Go.Proofs.Ytippipfogbgemaa
