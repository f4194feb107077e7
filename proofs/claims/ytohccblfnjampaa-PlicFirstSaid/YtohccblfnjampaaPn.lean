/-
  PLIC: a call at both, the script's.
-/
import Derived.Test.YtohccblfnjampaaPm
namespace Go.Proofs.Ytohccblfnjampaa
open Go.RowKit
set_option linter.unusedVariables false
set_option linter.unusedSimpArgs false

structure OpP where
  kind : Int
  n : Int
  m : Int
  high : Bool
  adr : Int
  wd : Int
  hkind : -9223372036854775808 ≤ kind ∧ kind ≤ 9223372036854775807
  hn : -9223372036854775808 ≤ n ∧ n ≤ 9223372036854775807
  hm : -9223372036854775808 ≤ m ∧ m ≤ 9223372036854775807
  hadr : 0 ≤ adr ∧ adr ≤ 18446744073709551615
  hwd : 0 ≤ wd ∧ wd ≤ 18446744073709551615
def OpP.vals (o : OpP) : List Value := [.int .i64 o.kind, .int .i64 o.n, .int .i64 o.m, .bool o.high, .int .u64 o.adr, .int .u64 o.wd]
def opPE : El OpP := fun _ o vs => vs = o.vals
theorem opn_opP : Opn Try.prog 110 opPE :=
  opn_struct Try.underlying110 fun H enc w fuel cs hlen hf => by
    obtain ⟨y0, h0⟩ := hf 0 _ rfl
    obtain ⟨y1, h1⟩ := hf 1 _ rfl
    obtain ⟨y2, h2⟩ := hf 2 _ rfl
    obtain ⟨y3, h3⟩ := hf 3 _ rfl
    obtain ⟨y4, h4⟩ := hf 4 _ rfl
    obtain ⟨y5, h5⟩ := hf 5 _ rfl
    obtain ⟨x0, g0, b0⟩ := opn_i64 Try.underlying3 H enc w fuel _ y0.1 y0.2 h0
    obtain ⟨x1, g1, b1⟩ := opn_i64 Try.underlying3 H enc w fuel _ y1.1 y1.2 h1
    obtain ⟨x2, g2, b2⟩ := opn_i64 Try.underlying3 H enc w fuel _ y2.1 y2.2 h2
    obtain ⟨x3, g3⟩ := opn_bool Try.underlying4 H enc w fuel _ y3.1 y3.2 h3
    obtain ⟨x4, g4, b4⟩ := opn_u64 Try.underlying28 H enc w fuel _ y4.1 y4.2 h4
    obtain ⟨x5, g5, b5⟩ := opn_u64 Try.underlying28 H enc w fuel _ y5.1 y5.2 h5
    have e : Try.prog.cellsOf 110 = 6 := by kernel_rfl
    have e0 : Try.prog.cellsOf 3 = 1 := by kernel_rfl
    have e1 : Try.prog.cellsOf 4 = 1 := by kernel_rfl
    have e2 : Try.prog.cellsOf 28 = 1 := by kernel_rfl
    rw [e] at hlen
    rw [e0] at g0
    rw [e0] at g1
    rw [e0] at g2
    rw [e1] at g3
    rw [e2] at g4
    rw [e2] at g5
    obtain ⟨c0, c1, c2, c3, c4, c5, rfl⟩ := len6 hlen
    obtain rfl : c0 = .int .i64 x0 := (List.cons.inj g0).1
    obtain rfl : c1 = .int .i64 x1 := (List.cons.inj g1).1
    obtain rfl : c2 = .int .i64 x2 := (List.cons.inj g2).1
    obtain rfl : c3 = .bool x3 := (List.cons.inj g3).1
    obtain rfl : c4 = .int .u64 x4 := (List.cons.inj g4).1
    obtain rfl : c5 = .int .u64 x5 := (List.cons.inj g5).1
    exact ⟨⟨x0, x1, x2, x3, x4, x5, b0, b1, b2, b4, b5⟩, rfl⟩

def PlS.step (s : PlS) (o : OpP) : PlS :=
  if o.kind = 0 then s.line o.n o.high else
  if o.kind = 1 then (s.take o.n).1 else
  if o.kind = 2 then s.done o.n o.m else
  if o.kind = 3 then (s.load o.adr o.n).1 else
  if o.kind = 4 then (s.store o.adr o.n o.wd).1 else s

section
variable {R : Ending → World → Prop} {W0 w : World} {H : Hp} {A F : List Hp} {s : PlS} {b o : Nat} {C L C2 L2 : List Value}

theorem c_plLineL (t : Sat W0 w H (cellsH ⟨b, o, none⟩ C :: F)) (hC : s.enc = C) (n : Int) (hi : Bool) (hnb : -9223372036854775808 ≤ n ∧ n ≤ 9223372036854775807) (hC2 : (s.line n hi).enc = C2) (k : ∀ w', Sat W0 w' H (cellsH ⟨b, o, none⟩ C2 :: F) → R (.returned (.tuple #[])) w') :
    Calls Try.prog 55 #[.pointer (some ⟨b, o, none⟩), .int .i64 n, .bool hi] w R := by
  subst hC hC2; exact c_plLine t n hi hnb k
theorem c_rpLineL (t : Sat W0 w H A) (hL : s.ref = L) (n : Int) (hi : Bool) (hnb : -9223372036854775808 ≤ n ∧ n ≤ 9223372036854775807) (hL2 : (s.line n hi).ref = L2) (k : ∀ w', Sat W0 w' H A → R (.returned (.agg L2.toArray)) w') :
    Calls Try.prog 114 #[.agg L.toArray, .int .i64 n, .bool hi] w R := by
  subst hL hL2; exact c_rpLine t n hi hnb k
theorem c_plDoneL (t : Sat W0 w H (cellsH ⟨b, o, none⟩ C :: F)) (hC : s.enc = C) (c n : Int) (hcb : -9223372036854775808 ≤ c ∧ c ≤ 9223372036854775807) (hnb : -9223372036854775808 ≤ n ∧ n ≤ 9223372036854775807) (hC2 : (s.done c n).enc = C2) (k : ∀ w', Sat W0 w' H (cellsH ⟨b, o, none⟩ C2 :: F) → R (.returned (.tuple #[])) w') :
    Calls Try.prog 56 #[.pointer (some ⟨b, o, none⟩), .int .i64 c, .int .i64 n] w R := by
  subst hC hC2; exact c_plDone t c n hcb hnb k
theorem c_rpDoneL (t : Sat W0 w H A) (hL : s.ref = L) (c n : Int) (hcb : -9223372036854775808 ≤ c ∧ c ≤ 9223372036854775807) (hnb : -9223372036854775808 ≤ n ∧ n ≤ 9223372036854775807) (hL2 : (s.done c n).ref = L2) (k : ∀ w', Sat W0 w' H A → R (.returned (.agg L2.toArray)) w') :
    Calls Try.prog 116 #[.agg L.toArray, .int .i64 c, .int .i64 n] w R := by
  subst hL hL2; exact c_rpDone t c n hcb hnb k
theorem c_plTakeL (t : Sat W0 w H (cellsH ⟨b, o, none⟩ C :: F)) (hC : s.enc = C) (c : Int) {q : Nat} (hcb : -9223372036854775808 ≤ c ∧ c ≤ 9223372036854775807) (hC2 : (s.take c).1.enc = C2) (hq : (s.take c).2 = q) (k : ∀ w', Sat W0 w' H (cellsH ⟨b, o, none⟩ C2 :: F) → R (.returned (.int .i64 q)) w') :
    Calls Try.prog 54 #[.pointer (some ⟨b, o, none⟩), .int .i64 c] w R := by
  subst hC hC2 hq; exact c_plTake t c hcb k
theorem c_rpTakeL (t : Sat W0 w H A) (hL : s.ref = L) (c : Int) {q : Nat} (hcb : -9223372036854775808 ≤ c ∧ c ≤ 9223372036854775807) (hL2 : (s.take c).1.ref = L2) (hq : (s.take c).2 = q) (k : ∀ w', Sat W0 w' H A → R (.returned (.tuple #[.agg L2.toArray, .int .i64 q])) w') :
    Calls Try.prog 115 #[.agg L.toArray, .int .i64 c] w R := by
  subst hL hL2 hq; exact c_rpTake t c hcb k
theorem c_plLoadL (t : Sat W0 w H (cellsH ⟨b, o, none⟩ C :: F)) (hC : s.enc = C) (a n : Int) {x : Int} {y : Bool} (ha : 0 ≤ a ∧ a ≤ 18446744073709551615) (hn : -9223372036854775808 ≤ n ∧ n ≤ 9223372036854775807) (hC2 : (s.load a n).1.enc = C2) (hx : (s.load a n).2.1 = x) (hy : (s.load a n).2.2 = y)
    (k : ∀ w', Sat W0 w' H (cellsH ⟨b, o, none⟩ C2 :: F) → R (.returned (.tuple #[.int .u64 x, .bool y])) w') : Calls Try.prog 118 #[.pointer (some ⟨b, o, none⟩), .int .u64 a, .int .i64 n] w R := by
  subst hC hC2 hx hy; exact c_plLoad t a n ha hn k
theorem c_rpLoadL (t : Sat W0 w H A) (hL : s.ref = L) (a n : Int) {x : Int} {y : Bool} (ha : 0 ≤ a ∧ a ≤ 18446744073709551615) (hn : -9223372036854775808 ≤ n ∧ n ≤ 9223372036854775807) (hL2 : (s.load a n).1.ref = L2) (hx : (s.load a n).2.1 = x) (hy : (s.load a n).2.2 = y)
    (k : ∀ w', Sat W0 w' H A → R (.returned (.tuple #[.agg L2.toArray, .int .u64 x, .bool y])) w') : Calls Try.prog 117 #[.agg L.toArray, .int .u64 a, .int .i64 n] w R := by
  subst hL hL2 hx hy; exact c_rpLoad t a n ha hn k
theorem c_plStoreL (t : Sat W0 w H (cellsH ⟨b, o, none⟩ C :: F)) (hC : s.enc = C) (a n v : Int) {y : Bool} (ha : 0 ≤ a ∧ a ≤ 18446744073709551615) (hn : -9223372036854775808 ≤ n ∧ n ≤ 9223372036854775807) (hv : 0 ≤ v ∧ v ≤ 18446744073709551615) (hC2 : (s.store a n v).1.enc = C2) (hy : (s.store a n v).2 = y)
    (k : ∀ w', Sat W0 w' H (cellsH ⟨b, o, none⟩ C2 :: F) → R (.returned (.bool y)) w') : Calls Try.prog 93 #[.pointer (some ⟨b, o, none⟩), .int .u64 a, .int .i64 n, .int .u64 v] w R := by
  subst hC hC2 hy; exact c_plStore t a n v ha hn hv k
theorem c_rpStoreL (t : Sat W0 w H A) (hL : s.ref = L) (a n v : Int) {y : Bool} (ha : 0 ≤ a ∧ a ≤ 18446744073709551615) (hn : -9223372036854775808 ≤ n ∧ n ≤ 9223372036854775807) (hv : 0 ≤ v ∧ v ≤ 18446744073709551615) (hL2 : (s.store a n v).1.ref = L2) (hy : (s.store a n v).2 = y)
    (k : ∀ w', Sat W0 w' H A → R (.returned (.tuple #[.agg L2.toArray, .bool y])) w') : Calls Try.prog 119 #[.agg L.toArray, .int .u64 a, .int .i64 n, .int .u64 v] w R := by
  subst hL hL2 hy; exact c_rpStore t a n v ha hn hv k


set_option maxRecDepth 100000 in
set_option maxHeartbeats 4000000 in
theorem c_plDo (t : Sat W0 w H (cellsH ⟨b, o, none⟩ s.enc :: A)) (q : OpP) (k : ∀ w', Sat W0 w' H (cellsH ⟨b, o, none⟩ (s.step q).enc :: A) → R (.returned (.tuple #[.agg (s.step q).ref.toArray, .bool true])) w') :
    Calls Try.prog 95 #[.pointer (some ⟨b, o, none⟩), .agg s.ref.toArray, .agg q.vals.toArray] w R := by
  have t1 := ((t.alloc (c := s.ref) (t := 104)).alloc (c := q.vals) (t := 110)).alloc (c := plZero) (t := 104)
  rw [plZero_eq] at t1
  obtain ⟨Z, hZ⟩ : ∃ Z, w.heap.size = Z := ⟨_, rfl⟩
  simp only [World.size_alloc] at t1
  rw [hZ] at t1
  obtain ⟨LZ, hLZ⟩ : ∃ L, plZero = L := ⟨_, rfl⟩
  have hlz : LZ.length = 194 := by rw [← hLZ]; exact plZero_len
  rw [hLZ] at t1
  obtain ⟨L, hL⟩ : ∃ L, s.ref = L := ⟨_, rfl⟩
  obtain ⟨C, hC⟩ : ∃ L, s.enc = L := ⟨_, rfl⟩
  have hsl := s.r_size
  rw [hL] at t1 hsl ⊢
  rw [hC] at t1
  obtain ⟨kd, n, m, hi, a, v, hkd, hn, hm, ha, hv⟩ := q
  simp only [OpP.vals, List.cons_append, List.nil_append, List.singleton_append] at t1 ⊢
  have y0 := t1.cel (Z+1) 0 0 rfl
  have y1 := t1.cel (Z+1) 0 1 rfl
  have y2 := t1.cel (Z+1) 0 2 rfl
  have y3 := t1.cel (Z+1) 0 3 rfl
  have y4 := t1.cel (Z+1) 0 4 rfl
  have y5 := t1.cel (Z+1) 0 5 rfl
  simp only [Nat.zero_add] at y0 y1 y2 y3 y4 y5
  replace hlz := aside hlz
  replace hLZ := aside hLZ
  clear t
  by_cases h0 : kd = 0
  · have e : s.step ⟨kd, n, m, hi, a, v, hkd, hn, hm, ha, hv⟩ = s.line n hi := by simp only [PlS.step]; rw [if_pos h0]
    subst h0
    have hgl := (s.line n hi).r_size
    have hgn := (s.line n hi).ref_len
    have hgo := (s.line n hi).r_one
    obtain ⟨G, hG⟩ : ∃ G, (s.line n hi).ref = G := ⟨_, rfl⟩
    obtain ⟨D, hD⟩ : ∃ D, (s.line n hi).enc = D := ⟨_, rfl⟩
    rw [hG] at hgl hgn hgo
    rw [e, hG, hD] at k
    replace k := aside k
    clear e
    replace hG := aside hG
    replace hD := aside hD
    replace hgl := aside hgl
    replace hgn := aside hgn
    replace hgo := aside hgo
    replace hL := aside hL
    replace hC := aside hC
    replace hsl := aside hsl
    go_enter Try.func95, Try.ntmps95
    go_wp2_with fail
    refine c_plLineL (Sat.pull (h := cellsH ⟨b, o, none⟩ C) t1) hC.out n hi hn hD.out ?_
    intro w2 t2
    clear t1 hZ y0 y1 y2 y3 y4 y5
    have y0 := t2.cel (Z+1) 0 0 rfl
    have y1 := t2.cel (Z+1) 0 1 rfl
    have y2 := t2.cel (Z+1) 0 2 rfl
    have y3 := t2.cel (Z+1) 0 3 rfl
    have y4 := t2.cel (Z+1) 0 4 rfl
    have y5 := t2.cel (Z+1) 0 5 rfl
    simp only [Nat.zero_add] at y0 y1 y2 y3 y4 y5
    go_wp2_with (refine wpList_loadS rfl 104 (.tmp 4) rfl Z 0 rfl (Sat.pull (h := cellsH ⟨Z, 0, none⟩ L) t2) Try.underlying104 rfl hsl.out ?_)
    go_wp2_with fail
    refine c_rpLineL t2 hL.out n hi hn hG.out ?_
    intro w3 t3
    clear t2 y0 y1 y2 y3 y4 y5
    go_wp2_with (refine wpList_storeS rfl 104 (.tmp 6) (.tmp 32) rfl (Z + 1 + 1) 0 rfl rfl (Sat.pull (h := cellsH ⟨Z + 1 + 1, 0, none⟩ LZ) t3) (by rw [hlz.out, hgn.out]; decide) hgl.out hgo.out ?_; intro w9 t9; rw [setR_all (by rw [hlz.out, hgn.out])] at t9)
    refine bodyPost_ret (results_S2 Try.results95 _ (Z + 1 + 1) rfl rfl t9 Try.underlying104 rfl hgl.out) rfl ?_
    exact k.out _ t9.wk
  by_cases h1 : kd = 1
  · have e : s.step ⟨kd, n, m, hi, a, v, hkd, hn, hm, ha, hv⟩ = (s.take n).1 := by simp only [PlS.step]; rw [if_neg h0, if_pos h1]
    subst h1
    have hgl := ((s.take n).1).r_size
    have hgn := ((s.take n).1).ref_len
    have hgo := ((s.take n).1).r_one
    obtain ⟨G, hG⟩ : ∃ G, ((s.take n).1).ref = G := ⟨_, rfl⟩
    obtain ⟨D, hD⟩ : ∃ D, ((s.take n).1).enc = D := ⟨_, rfl⟩
    rw [hG] at hgl hgn hgo
    rw [e, hG, hD] at k
    replace k := aside k
    clear e
    replace hG := aside hG
    replace hD := aside hD
    replace hgl := aside hgl
    replace hgn := aside hgn
    replace hgo := aside hgo
    replace hL := aside hL
    replace hC := aside hC
    replace hsl := aside hsl
    obtain ⟨q, hq⟩ : ∃ q, (s.take n).2 = q := ⟨_, rfl⟩
    replace hq := aside hq
    go_enter Try.func95, Try.ntmps95
    go_wp2_with (refine wpList_loadS rfl 104 (.tmp 4) rfl Z 0 rfl (Sat.pull (h := cellsH ⟨Z, 0, none⟩ L) t1) Try.underlying104 rfl hsl.out ?_)
    go_wp2_with fail
    refine c_rpTakeL t1 hL.out n hn hG.out hq.out ?_
    intro w2 t2
    clear t1 hZ y0 y1 y2 y3 y4 y5
    have t3 := t2.alloc (c := plZero) (t := 104)
    rw [plZero_eq, hLZ.out] at t3
    obtain ⟨Y, hY⟩ : ∃ Y, w2.heap.size = Y := ⟨_, rfl⟩
    rw [hY] at t3
    clear t2
    go_wp2_with (refine wpList_storeS rfl 104 (.tmp 8) (.tmp 40) rfl Y 0 rfl rfl t3 (by rw [hlz.out, hgn.out]; decide) hgl.out hgo.out ?_; intro w4 t4; rw [setR_all (by rw [hlz.out, hgn.out])] at t4)
    clear t3 hY
    have t5 := t4.drew
    have y0 := t5.cel (Z+1) 0 0 rfl
    have y1 := t5.cel (Z+1) 0 1 rfl
    have y2 := t5.cel (Z+1) 0 2 rfl
    have y3 := t5.cel (Z+1) 0 3 rfl
    have y4 := t5.cel (Z+1) 0 4 rfl
    have y5 := t5.cel (Z+1) 0 5 rfl
    simp only [Nat.zero_add] at y0 y1 y2 y3 y4 y5
    refine wp_region_held_drew (S := fun w' => w'.rangeAt Y 0 G ∧ w'.cell? ⟨Z + 1, 1, none⟩ = some (.int .i64 n)) (by kernel_rfl) ⟨fun j v hv => (t5.c j hv).1, y1.1⟩ (fun hHeld => ?_)
    refine wpAnyH_take (i := 0) rfl (by kernel_rfl) (by kernel_rfl) (by kernel_rfl) (fun _ _ _ h => h) (yieldsIf_load_mid (by rfl) _ _ rfl Y 0 rfl G _ (fun w hSw => hSw.1) Try.underlying104 rfl hgl.out) (by assumption) ?_
    try simp only [Act.put, List.getElem_toArray, List.getElem_cons_succ, List.getElem_cons_zero, List.setIfInBounds_toArray, List.set_cons_zero, List.set_cons_succ]
    refine wpAnyH_take (i := 1) (v := ?_) rfl (by kernel_rfl) (by kernel_rfl) (by kernel_rfl) (fun _ _ _ h => h) (Or.inl ⟨by rfl, ?_⟩) (by assumption) ?_
    rotate_left
    · (intro w hSw; (try dsimp only at hSw); go_simp; try with_reducible rfl)
    try simp only [Act.put, List.getElem_toArray, List.getElem_cons_succ, List.getElem_cons_zero, List.setIfInBounds_toArray, List.set_cons_zero, List.set_cons_succ]
    refine wpAnyH_take (i := 2) (v := ?_) rfl (by kernel_rfl) (by kernel_rfl) (by kernel_rfl) (fun _ _ _ h => h) (Or.inl ⟨by rfl, ?_⟩) (by assumption) ?_
    rotate_left
    · (intro w hSw; (try dsimp only at hSw); go_simp; try with_reducible rfl)
    try simp only [Act.put, List.getElem_toArray, List.getElem_cons_succ, List.getElem_cons_zero, List.setIfInBounds_toArray, List.set_cons_zero, List.set_cons_succ]
    refine wpAnyH_take (i := 3) (v := ?_) rfl (by kernel_rfl) (by kernel_rfl) (by kernel_rfl) (fun _ _ _ h => h) (Or.inl ⟨by rfl, ?_⟩) (by assumption) ?_
    rotate_left
    · (intro w hSw; (try dsimp only at hSw); go_simp; try with_reducible rfl)
    try simp only [Act.put, List.getElem_toArray, List.getElem_cons_succ, List.getElem_cons_zero, List.setIfInBounds_toArray, List.set_cons_zero, List.set_cons_succ]
    refine wpAnyH_take (i := 5) (v := ?_) rfl (by kernel_rfl) (by kernel_rfl) (by kernel_rfl) (fun _ _ _ h => h) (Or.inl ⟨by rfl, ?_⟩) (by assumption) ?_
    rotate_left
    · (intro w hSw; (try dsimp only at hSw); go_simp; try with_reducible rfl)
    try simp only [Act.put, List.getElem_toArray, List.getElem_cons_succ, List.getElem_cons_zero, List.setIfInBounds_toArray, List.set_cons_zero, List.set_cons_succ]
    refine wpAnyH_ready (rs := [4]) (by kernel_rfl) (by simp) ?_
    refine AllReadyH.cons rfl (fun K hK => ?_) AllReadyH.nil
    try simp only [List.getElem_toArray, List.getElem_cons_succ, List.getElem_cons_zero]
    rw [if_pos (by rfl)]
    go_simp
    refine c_plTakeL (Sat.pull (h := cellsH ⟨b, o, none⟩ C) t5) hC.out n hn hD.out hq.out ?_
    intro w6 t6
    go_wp2_with fail
    clear y0 y1 y2 y3 y4 y5
    have y0 := t6.cel (Z+1) 0 0 rfl
    have y1 := t6.cel (Z+1) 0 1 rfl
    have y2 := t6.cel (Z+1) 0 2 rfl
    have y3 := t6.cel (Z+1) 0 3 rfl
    have y4 := t6.cel (Z+1) 0 4 rfl
    have y5 := t6.cel (Z+1) 0 5 rfl
    simp only [Nat.zero_add] at y0 y1 y2 y3 y4 y5
    refine hK.out _ _ ⟨fun j v hv => ((Sat.pull (h := cellsH ⟨Y, 0, none⟩ G) t6).c j hv).1, y1.1⟩ (fun hHeld => ?_)
    clear hK K
    try simp only [Act.put, List.getElem_toArray, List.getElem_cons_succ, List.getElem_cons_zero, List.setIfInBounds_toArray, List.set_cons_zero, List.set_cons_succ]
    refine wpAnyH_take (i := 6) (v := ?_) rfl (by kernel_rfl) (by kernel_rfl) (by kernel_rfl) (fun _ _ _ h => h) (Or.inl ⟨by rfl, ?_⟩) (by assumption) ?_
    rotate_left
    · (intro w hSw; (try dsimp only at hSw); go_simp; try with_reducible rfl)
    try simp only [Act.put, List.getElem_toArray, List.getElem_cons_succ, List.getElem_cons_zero, List.setIfInBounds_toArray, List.set_cons_zero, List.set_cons_succ]
    refine wpAnyH_ready (rs := [7]) (by kernel_rfl) (by simp) ?_
    refine AllReadyH.cons rfl (fun K hK => ?_) AllReadyH.nil
    try simp only [List.getElem_toArray, List.getElem_cons_succ, List.getElem_cons_zero]
    rw [if_pos (by rfl)]
    refine wp_storeS 104 (.tmp 6) (.tmp 42) rfl (Z + 1 + 1) 0 rfl rfl (Sat.pull (h := cellsH ⟨Z + 1 + 1, 0, none⟩ LZ) t6) (by rw [hlz.out, hgn.out]; decide) hgl.out hgo.out ?_
    intro w9 t9
    rw [setR_all (by rw [hlz.out, hgn.out])] at t9
    clear y0 y1 y2 y3 y4 y5
    have y0 := t9.cel (Z+1) 0 0 rfl
    have y1 := t9.cel (Z+1) 0 1 rfl
    have y2 := t9.cel (Z+1) 0 2 rfl
    have y3 := t9.cel (Z+1) 0 3 rfl
    have y4 := t9.cel (Z+1) 0 4 rfl
    have y5 := t9.cel (Z+1) 0 5 rfl
    simp only [Nat.zero_add] at y0 y1 y2 y3 y4 y5
    refine hK.out _ _ ⟨fun j v hv => ((Sat.pull (h := cellsH ⟨Y, 0, none⟩ G) t9).c j hv).1, y1.1⟩ (fun hHeld => ?_)
    clear hK K
    try simp only [Act.put, List.getElem_toArray, List.getElem_cons_succ, List.getElem_cons_zero, List.setIfInBounds_toArray, List.set_cons_zero, List.set_cons_succ]
    refine wpAnyH_take (i := 8) (v := ?_) rfl (by kernel_rfl) (by kernel_rfl) (by kernel_rfl) (fun _ _ _ h => h) (Or.inl ⟨by rfl, ?_⟩) (by assumption) ?_
    rotate_left
    · (intro w hSw; (try dsimp only at hSw); go_simp; try with_reducible rfl)
    try simp only [Act.put, List.getElem_toArray, List.getElem_cons_succ, List.getElem_cons_zero, List.setIfInBounds_toArray, List.set_cons_zero, List.set_cons_succ]
    refine wpAnyH_done (by kernel_rfl) ?_ _
    go_wp2
    refine bodyPost_ret (results_S2 Try.results95 _ (Z + 1 + 1) rfl (by simp; rfl) t9 Try.underlying104 rfl hgl.out) rfl ?_
    refine ret_cast (k.out _ t9.wk) (by simp) rfl
  by_cases h2 : kd = 2
  · have e : s.step ⟨kd, n, m, hi, a, v, hkd, hn, hm, ha, hv⟩ = s.done n m := by simp only [PlS.step]; rw [if_neg h0, if_neg h1, if_pos h2]
    subst h2
    have hgl := (s.done n m).r_size
    have hgn := (s.done n m).ref_len
    have hgo := (s.done n m).r_one
    obtain ⟨G, hG⟩ : ∃ G, (s.done n m).ref = G := ⟨_, rfl⟩
    obtain ⟨D, hD⟩ : ∃ D, (s.done n m).enc = D := ⟨_, rfl⟩
    rw [hG] at hgl hgn hgo
    rw [e, hG, hD] at k
    replace k := aside k
    clear e
    replace hG := aside hG
    replace hD := aside hD
    replace hgl := aside hgl
    replace hgn := aside hgn
    replace hgo := aside hgo
    replace hL := aside hL
    replace hC := aside hC
    replace hsl := aside hsl
    go_enter Try.func95, Try.ntmps95
    go_wp2_with fail
    refine c_plDoneL (Sat.pull (h := cellsH ⟨b, o, none⟩ C) t1) hC.out n m hn hm hD.out ?_
    intro w2 t2
    clear t1 hZ y0 y1 y2 y3 y4 y5
    have y0 := t2.cel (Z+1) 0 0 rfl
    have y1 := t2.cel (Z+1) 0 1 rfl
    have y2 := t2.cel (Z+1) 0 2 rfl
    have y3 := t2.cel (Z+1) 0 3 rfl
    have y4 := t2.cel (Z+1) 0 4 rfl
    have y5 := t2.cel (Z+1) 0 5 rfl
    simp only [Nat.zero_add] at y0 y1 y2 y3 y4 y5
    go_wp2_with (refine wpList_loadS rfl 104 (.tmp 4) rfl Z 0 rfl (Sat.pull (h := cellsH ⟨Z, 0, none⟩ L) t2) Try.underlying104 rfl hsl.out ?_)
    go_wp2_with fail
    refine c_rpDoneL t2 hL.out n m hn hm hG.out ?_
    intro w3 t3
    clear t2 y0 y1 y2 y3 y4 y5
    go_wp2_with (refine wpList_storeS rfl 104 (.tmp 6) (.tmp 62) rfl (Z + 1 + 1) 0 rfl rfl (Sat.pull (h := cellsH ⟨Z + 1 + 1, 0, none⟩ LZ) t3) (by rw [hlz.out, hgn.out]; decide) hgl.out hgo.out ?_; intro w9 t9; rw [setR_all (by rw [hlz.out, hgn.out])] at t9)
    refine bodyPost_ret (results_S2 Try.results95 _ (Z + 1 + 1) rfl rfl t9 Try.underlying104 rfl hgl.out) rfl ?_
    exact k.out _ t9.wk
  by_cases h3 : kd = 3
  · have e : s.step ⟨kd, n, m, hi, a, v, hkd, hn, hm, ha, hv⟩ = (s.load a n).1 := by simp only [PlS.step]; rw [if_neg h0, if_neg h1, if_neg h2, if_pos h3]
    subst h3
    have hgl := ((s.load a n).1).r_size
    have hgn := ((s.load a n).1).ref_len
    have hgo := ((s.load a n).1).r_one
    obtain ⟨G, hG⟩ : ∃ G, ((s.load a n).1).ref = G := ⟨_, rfl⟩
    obtain ⟨D, hD⟩ : ∃ D, ((s.load a n).1).enc = D := ⟨_, rfl⟩
    rw [hG] at hgl hgn hgo
    rw [e, hG, hD] at k
    replace k := aside k
    clear e
    replace hG := aside hG
    replace hD := aside hD
    replace hgl := aside hgl
    replace hgn := aside hgn
    replace hgo := aside hgo
    replace hL := aside hL
    replace hC := aside hC
    replace hsl := aside hsl
    obtain ⟨x, hx⟩ : ∃ q, (s.load a n).2.1 = q := ⟨_, rfl⟩
    obtain ⟨z, hz⟩ : ∃ q, (s.load a n).2.2 = q := ⟨_, rfl⟩
    replace hx := aside hx
    replace hz := aside hz
    go_enter Try.func95, Try.ntmps95
    go_wp2_with (refine wpList_loadS rfl 104 (.tmp 4) rfl Z 0 rfl (Sat.pull (h := cellsH ⟨Z, 0, none⟩ L) t1) Try.underlying104 rfl hsl.out ?_)
    go_wp2_with fail
    refine c_rpLoadL t1 hL.out a n ha hn hG.out hx.out hz.out ?_
    intro w2 t2
    clear t1 hZ y0 y1 y2 y3 y4 y5
    have t3 := t2.alloc (c := plZero) (t := 104)
    rw [plZero_eq, hLZ.out] at t3
    obtain ⟨Y, hY⟩ : ∃ Y, w2.heap.size = Y := ⟨_, rfl⟩
    rw [hY] at t3
    clear t2
    go_wp2_with (refine wpList_storeS rfl 104 (.tmp 10) (.tmp 72) rfl Y 0 rfl rfl t3 (by rw [hlz.out, hgn.out]; decide) hgl.out hgo.out ?_; intro w4 t4; rw [setR_all (by rw [hlz.out, hgn.out])] at t4; have y1 := t4.cel (Z+1) 0 1 rfl; have y4 := t4.cel (Z+1) 0 4 rfl; simp only [Nat.zero_add] at y1 y4)
    clear t3 hY
    go_wp2_with fail
    refine c_plLoadL (Sat.pull (h := cellsH ⟨b, o, none⟩ C) t4) hC.out a n ha hn hD.out hx.out hz.out ?_
    intro w5 t5
    clear t4 y1 y4
    have hzz : (z == z) = true := by simp
    go_wp2_with (first
      | (refine wpList_loadS rfl 104 (.tmp 10) rfl Y 0 rfl (Sat.pull (h := cellsH ⟨Y, 0, none⟩ G) t5) Try.underlying104 rfl hgl.out ?_)
      | (refine wpList_storeS rfl 104 (.tmp 6) (.tmp 84) rfl (Z + 1 + 1) 0 rfl rfl (Sat.pull (h := cellsH ⟨Z + 1 + 1, 0, none⟩ LZ) t5) (by rw [hlz.out, hgn.out]; decide) hgl.out hgo.out ?_; intro w9 t9; rw [setR_all (by rw [hlz.out, hgn.out])] at t9))
    refine bodyPost_ret (results_S2 Try.results95 _ (Z + 1 + 1) rfl rfl t9 Try.underlying104 rfl hgl.out) rfl ?_
    refine ret_cast (k.out _ t9.wk) (by simp) rfl
  by_cases h4 : kd = 4
  · have e : s.step ⟨kd, n, m, hi, a, v, hkd, hn, hm, ha, hv⟩ = (s.store a n v).1 := by simp only [PlS.step]; rw [if_neg h0, if_neg h1, if_neg h2, if_neg h3, if_pos h4]
    subst h4
    have hgl := ((s.store a n v).1).r_size
    have hgn := ((s.store a n v).1).ref_len
    have hgo := ((s.store a n v).1).r_one
    obtain ⟨G, hG⟩ : ∃ G, ((s.store a n v).1).ref = G := ⟨_, rfl⟩
    obtain ⟨D, hD⟩ : ∃ D, ((s.store a n v).1).enc = D := ⟨_, rfl⟩
    rw [hG] at hgl hgn hgo
    rw [e, hG, hD] at k
    replace k := aside k
    clear e
    replace hG := aside hG
    replace hD := aside hD
    replace hgl := aside hgl
    replace hgn := aside hgn
    replace hgo := aside hgo
    replace hL := aside hL
    replace hC := aside hC
    replace hsl := aside hsl
    obtain ⟨z, hz⟩ : ∃ q, (s.store a n v).2 = q := ⟨_, rfl⟩
    replace hz := aside hz
    go_enter Try.func95, Try.ntmps95
    go_wp2_with (refine wpList_loadS rfl 104 (.tmp 4) rfl Z 0 rfl (Sat.pull (h := cellsH ⟨Z, 0, none⟩ L) t1) Try.underlying104 rfl hsl.out ?_)
    go_wp2_with fail
    refine c_rpStoreL t1 hL.out a n v ha hn hv hG.out hz.out ?_
    intro w2 t2
    clear t1 hZ y0 y1 y2 y3 y4 y5
    have t3 := t2.alloc (c := plZero) (t := 104)
    rw [plZero_eq, hLZ.out] at t3
    obtain ⟨Y, hY⟩ : ∃ Y, w2.heap.size = Y := ⟨_, rfl⟩
    rw [hY] at t3
    clear t2
    go_wp2_with (refine wpList_storeS rfl 104 (.tmp 15) (.tmp 104) rfl Y 0 rfl rfl t3 (by rw [hlz.out, hgn.out]; decide) hgl.out hgo.out ?_; intro w4 t4; rw [setR_all (by rw [hlz.out, hgn.out])] at t4)
    clear t3 hY
    have t5 := t4.drew
    have y0 := t5.cel (Z+1) 0 0 rfl
    have y1 := t5.cel (Z+1) 0 1 rfl
    have y2 := t5.cel (Z+1) 0 2 rfl
    have y3 := t5.cel (Z+1) 0 3 rfl
    have y4 := t5.cel (Z+1) 0 4 rfl
    have y5 := t5.cel (Z+1) 0 5 rfl
    simp only [Nat.zero_add] at y0 y1 y2 y3 y4 y5
    refine wp_region_held_drew (S := fun w' => w'.rangeAt Y 0 G ∧ w'.cell? ⟨Z + 1, 1, none⟩ = some (.int .i64 n) ∧ w'.cell? ⟨Z + 1, 4, none⟩ = some (.int .u64 a) ∧ w'.cell? ⟨Z + 1, 5, none⟩ = some (.int .u64 v)) (by kernel_rfl) ⟨fun j v hv => (t5.c j hv).1, y1.1, y4.1, y5.1⟩ (fun hHeld => ?_)
    refine wpAnyH_take (i := 0) rfl (by kernel_rfl) (by kernel_rfl) (by kernel_rfl) (fun _ _ _ h => h) (yieldsIf_load_mid (by rfl) _ _ rfl Y 0 rfl G _ (fun w hSw => hSw.1) Try.underlying104 rfl hgl.out) (by assumption) ?_
    try simp only [Act.put, List.getElem_toArray, List.getElem_cons_succ, List.getElem_cons_zero, List.setIfInBounds_toArray, List.set_cons_zero, List.set_cons_succ]
    refine wpAnyH_take (i := 1) (v := ?_) rfl (by kernel_rfl) (by kernel_rfl) (by kernel_rfl) (fun _ _ _ h => h) (Or.inl ⟨by rfl, ?_⟩) (by assumption) ?_
    rotate_left
    · (intro w hSw; (try dsimp only at hSw); go_simp; try with_reducible rfl)
    try simp only [Act.put, List.getElem_toArray, List.getElem_cons_succ, List.getElem_cons_zero, List.setIfInBounds_toArray, List.set_cons_zero, List.set_cons_succ]
    refine wpAnyH_take (i := 2) (v := ?_) rfl (by kernel_rfl) (by kernel_rfl) (by kernel_rfl) (fun _ _ _ h => h) (Or.inl ⟨by rfl, ?_⟩) (by assumption) ?_
    rotate_left
    · (intro w hSw; (try dsimp only at hSw); go_simp; try with_reducible rfl)
    try simp only [Act.put, List.getElem_toArray, List.getElem_cons_succ, List.getElem_cons_zero, List.setIfInBounds_toArray, List.set_cons_zero, List.set_cons_succ]
    refine wpAnyH_take (i := 3) (v := ?_) rfl (by kernel_rfl) (by kernel_rfl) (by kernel_rfl) (fun _ _ _ h => h) (Or.inl ⟨by rfl, ?_⟩) (by assumption) ?_
    rotate_left
    · (intro w hSw; (try dsimp only at hSw); go_simp; try with_reducible rfl)
    try simp only [Act.put, List.getElem_toArray, List.getElem_cons_succ, List.getElem_cons_zero, List.setIfInBounds_toArray, List.set_cons_zero, List.set_cons_succ]
    refine wpAnyH_take (i := 4) (v := ?_) rfl (by kernel_rfl) (by kernel_rfl) (by kernel_rfl) (fun _ _ _ h => h) (Or.inl ⟨by rfl, ?_⟩) (by assumption) ?_
    rotate_left
    · (intro w hSw; (try dsimp only at hSw); go_simp; try with_reducible rfl)
    try simp only [Act.put, List.getElem_toArray, List.getElem_cons_succ, List.getElem_cons_zero, List.setIfInBounds_toArray, List.set_cons_zero, List.set_cons_succ]
    refine wpAnyH_take (i := 5) (v := ?_) rfl (by kernel_rfl) (by kernel_rfl) (by kernel_rfl) (fun _ _ _ h => h) (Or.inl ⟨by rfl, ?_⟩) (by assumption) ?_
    rotate_left
    · (intro w hSw; (try dsimp only at hSw); go_simp; try with_reducible rfl)
    try simp only [Act.put, List.getElem_toArray, List.getElem_cons_succ, List.getElem_cons_zero, List.setIfInBounds_toArray, List.set_cons_zero, List.set_cons_succ]
    refine wpAnyH_take (i := 6) (v := ?_) rfl (by kernel_rfl) (by kernel_rfl) (by kernel_rfl) (fun _ _ _ h => h) (Or.inl ⟨by rfl, ?_⟩) (by assumption) ?_
    rotate_left
    · (intro w hSw; (try dsimp only at hSw); go_simp; try with_reducible rfl)
    try simp only [Act.put, List.getElem_toArray, List.getElem_cons_succ, List.getElem_cons_zero, List.setIfInBounds_toArray, List.set_cons_zero, List.set_cons_succ]
    refine wpAnyH_take (i := 7) (v := ?_) rfl (by kernel_rfl) (by kernel_rfl) (by kernel_rfl) (fun _ _ _ h => h) (Or.inl ⟨by rfl, ?_⟩) (by assumption) ?_
    rotate_left
    · (intro w hSw; (try dsimp only at hSw); go_simp; try with_reducible rfl)
    try simp only [Act.put, List.getElem_toArray, List.getElem_cons_succ, List.getElem_cons_zero, List.setIfInBounds_toArray, List.set_cons_zero, List.set_cons_succ]
    refine wpAnyH_take (i := 9) (v := ?_) rfl (by kernel_rfl) (by kernel_rfl) (by kernel_rfl) (fun _ _ _ h => h) (Or.inl ⟨by rfl, ?_⟩) (by assumption) ?_
    rotate_left
    · (intro w hSw; (try dsimp only at hSw); go_simp; try with_reducible rfl)
    try simp only [Act.put, List.getElem_toArray, List.getElem_cons_succ, List.getElem_cons_zero, List.setIfInBounds_toArray, List.set_cons_zero, List.set_cons_succ]
    refine wpAnyH_ready (rs := [8]) (by kernel_rfl) (by simp) ?_
    refine AllReadyH.cons rfl (fun K hK => ?_) AllReadyH.nil
    try simp only [List.getElem_toArray, List.getElem_cons_succ, List.getElem_cons_zero]
    rw [if_pos (by rfl)]
    go_simp
    refine c_plStoreL (Sat.pull (h := cellsH ⟨b, o, none⟩ C) t5) hC.out a n v ha hn hv hD.out hz.out ?_
    intro w6 t6
    go_wp2_with fail
    clear y0 y1 y2 y3 y4 y5
    have y0 := t6.cel (Z+1) 0 0 rfl
    have y1 := t6.cel (Z+1) 0 1 rfl
    have y2 := t6.cel (Z+1) 0 2 rfl
    have y3 := t6.cel (Z+1) 0 3 rfl
    have y4 := t6.cel (Z+1) 0 4 rfl
    have y5 := t6.cel (Z+1) 0 5 rfl
    simp only [Nat.zero_add] at y0 y1 y2 y3 y4 y5
    refine hK.out _ _ ⟨fun j v hv => ((Sat.pull (h := cellsH ⟨Y, 0, none⟩ G) t6).c j hv).1, y1.1, y4.1, y5.1⟩ (fun hHeld => ?_)
    clear hK K
    try simp only [Act.put, List.getElem_toArray, List.getElem_cons_succ, List.getElem_cons_zero, List.setIfInBounds_toArray, List.set_cons_zero, List.set_cons_succ]
    refine wpAnyH_take (i := 10) (v := ?_) rfl (by kernel_rfl) (by kernel_rfl) (by kernel_rfl) (fun _ _ _ h => h) (Or.inl ⟨by rfl, ?_⟩) (by assumption) ?_
    rotate_left
    · (intro w hSw; (try dsimp only at hSw); go_simp; try with_reducible rfl)
    try simp only [Act.put, List.getElem_toArray, List.getElem_cons_succ, List.getElem_cons_zero, List.setIfInBounds_toArray, List.set_cons_zero, List.set_cons_succ]
    refine wpAnyH_ready (rs := [11]) (by kernel_rfl) (by simp) ?_
    refine AllReadyH.cons rfl (fun K hK => ?_) AllReadyH.nil
    try simp only [List.getElem_toArray, List.getElem_cons_succ, List.getElem_cons_zero]
    rw [if_pos (by rfl)]
    refine wp_storeS 104 (.tmp 6) (.tmp 106) rfl (Z + 1 + 1) 0 rfl rfl (Sat.pull (h := cellsH ⟨Z + 1 + 1, 0, none⟩ LZ) t6) (by rw [hlz.out, hgn.out]; decide) hgl.out hgo.out ?_
    intro w9 t9
    rw [setR_all (by rw [hlz.out, hgn.out])] at t9
    clear y0 y1 y2 y3 y4 y5
    have y0 := t9.cel (Z+1) 0 0 rfl
    have y1 := t9.cel (Z+1) 0 1 rfl
    have y2 := t9.cel (Z+1) 0 2 rfl
    have y3 := t9.cel (Z+1) 0 3 rfl
    have y4 := t9.cel (Z+1) 0 4 rfl
    have y5 := t9.cel (Z+1) 0 5 rfl
    simp only [Nat.zero_add] at y0 y1 y2 y3 y4 y5
    refine hK.out _ _ ⟨fun j v hv => ((Sat.pull (h := cellsH ⟨Y, 0, none⟩ G) t9).c j hv).1, y1.1, y4.1, y5.1⟩ (fun hHeld => ?_)
    clear hK K
    try simp only [Act.put, List.getElem_toArray, List.getElem_cons_succ, List.getElem_cons_zero, List.setIfInBounds_toArray, List.set_cons_zero, List.set_cons_succ]
    refine wpAnyH_take (i := 12) (v := ?_) rfl (by kernel_rfl) (by kernel_rfl) (by kernel_rfl) (fun _ _ _ h => h) (Or.inl ⟨by rfl, ?_⟩) (by assumption) ?_
    rotate_left
    · (intro w hSw; (try dsimp only at hSw); go_simp; try with_reducible rfl)
    try simp only [Act.put, List.getElem_toArray, List.getElem_cons_succ, List.getElem_cons_zero, List.setIfInBounds_toArray, List.set_cons_zero, List.set_cons_succ]
    refine wpAnyH_done (by kernel_rfl) ?_ _
    go_wp2
    refine bodyPost_ret (results_S2 Try.results95 _ (Z + 1 + 1) rfl (by simp; rfl) t9 Try.underlying104 rfl hgl.out) rfl ?_
    refine ret_cast (k.out _ t9.wk) (by simp) rfl
  · have e : s.step ⟨kd, n, m, hi, a, v, hkd, hn, hm, ha, hv⟩ = s := by simp only [PlS.step]; rw [if_neg h0, if_neg h1, if_neg h2, if_neg h3, if_neg h4]
    have d0 : (kd == 0) = false := by rw [beq_eq_false_iff_ne]; exact h0
    have d1 : (kd == 1) = false := by rw [beq_eq_false_iff_ne]; exact h1
    have d2 : (kd == 2) = false := by rw [beq_eq_false_iff_ne]; exact h2
    have d3 : (kd == 3) = false := by rw [beq_eq_false_iff_ne]; exact h3
    have d4 : (kd == 4) = false := by rw [beq_eq_false_iff_ne]; exact h4
    clear h0 h1 h2 h3 h4
    have hgn := s.ref_len
    have hgo := s.r_one
    rw [hL] at hgn hgo
    rw [e, hL, hC] at k
    replace k := aside k
    clear e
    replace hgn := aside hgn
    replace hgo := aside hgo
    replace hL := aside hL
    replace hC := aside hC
    replace hsl := aside hsl
    go_enter Try.func95, Try.ntmps95
    go_wp2_with (first
      | (refine wpList_loadS rfl 104 (.tmp 4) rfl Z 0 rfl (Sat.pull (h := cellsH ⟨Z, 0, none⟩ L) t1) Try.underlying104 rfl hsl.out ?_)
      | (refine wpList_storeS rfl 104 (.tmp 6) (.tmp 117) rfl (Z + 1 + 1) 0 rfl rfl (Sat.pull (h := cellsH ⟨Z + 1 + 1, 0, none⟩ LZ) t1) (by rw [hlz.out, hgn.out]; decide) hsl.out hgo.out ?_; intro w9 t9; rw [setR_all (by rw [hlz.out, hgn.out])] at t9))
    refine bodyPost_ret (results_S2 Try.results95 _ (Z + 1 + 1) rfl rfl t9 Try.underlying104 rfl hsl.out) rfl ?_
    exact k.out _ t9.wk
end
end Go.Proofs.Ytohccblfnjampaa
