/-
  RamLogs returns true for every script; no condition.
-/
import Derived.Test.YtohccblfnjampaaVv
namespace Go.Proofs.Ytohccblfnjampaa
open Go.RowKit
set_option linter.unusedVariables false

def spanE : El (Int × Int) := fun _ x vs => vs = [.int .u64 x.1, .int .u64 x.2]
def encS (l : List (Int × Int)) : List Value := l.flatMap fun x => [.int .u64 x.1, .int .u64 x.2]
theorem encS_at {L : List (Int × Int)} : ∀ {i : Nat} {x : Int × Int}, L[i]? = some x → (encS L)[i * 2]? = some (.int .u64 x.1) ∧ (encS L)[i * 2 + 1]? = some (.int .u64 x.2) := by
  induction L with
  | nil => intro i x h; simp at h
  | cons y ys ih =>
    intro i x h
    cases i with
    | zero => simp at h; subst h; exact ⟨rfl, rfl⟩
    | succ i =>
      have := ih (i := i) (x := x) (by simpa using h)
      have e : (i + 1) * 2 = i * 2 + 2 := by omega
      rw [e]
      simpa [encS, List.flatMap_cons] using this
theorem OwnS.rdS {v : Value} {xs : List (Int × Int)} {h : Hp} (own : OwnS 2 v xs.length (encS xs) h) : Rd spanE 2 h v xs := by
  obtain ⟨A, c, spare, rfl, h1, h2, h3, h4, h5, rfl⟩ := own
  refine ⟨A, c, rfl, h1, h2, fun i x hi => ?_⟩
  have hlt : i < xs.length := (List.getElem?_eq_some_iff.1 hi).1
  obtain ⟨b, o, rfl⟩ := h5 (by omega)
  refine ⟨b, o, _, rfl, rfl, rfl, fun j u hu => ⟨false, ?_⟩⟩
  have ha := encS_at hi
  have hl : i * 2 + j < (encS xs).length := by
    rw [h3]
    match j, hu with
    | 0, _ => omega
    | 1, _ => omega
    | j + 2, hu => simp at hu
  have h9 := cellsH_at (a := ⟨b, o, none⟩) (vs := encS xs ++ spare) (i := i * 2 + j) (v := u) (by
    rw [List.getElem?_append_left hl]
    match j, hu with
    | 0, hu => simp at hu; subst hu; exact ha.1
    | 1, hu => simp at hu; subst hu; exact ha.2
    | j + 2, hu => simp at hu)
  simpa [Nat.add_assoc, rowH] using h9
theorem Rd.span {H : Hp} {A : Option Addr} {n c : Nat} {xs : List (Int × Int)} (r : Rd spanE 2 H (.slice A n c) xs) : n = xs.length ∧ n ≤ c ∧ c ≤ 9223372036854775807 ∧
    ∀ i (hi : i < xs.length), ∃ b o, A = some ⟨b, o, none⟩ ∧ (∃ fr, H (.cell b (o + i * 2)) = some (.val (.int .u64 xs[i].1) fr)) ∧ (∃ fr, H (.cell b (o + i * 2 + 1)) = some (.val (.int .u64 xs[i].2) fr)) := by
  obtain ⟨A', c', hv, hc, hc2, hat⟩ := r
  injection hv with e1 e2 e3
  subst e1 e2 e3
  refine ⟨rfl, hc, hc2, fun i hi => ?_⟩
  obtain ⟨b, o, vs, hA, rfl, _, hcell⟩ := hat i xs[i] (by simp [hi])
  exact ⟨b, o, hA, by simpa using hcell 0 _ rfl, by simpa using hcell 1 _ rfl⟩

section
variable {R : Ending → World → Prop} {W0 w : World} {H : Hp} {A F : List Hp} {b o : Nat} {r : RamG} {l : Option LogG}

set_option maxRecDepth 100000 in
set_option maxHeartbeats 4000000 in
/-- two rows of spans that are alike -/
theorem c_Same {h1 h2 : Hp} {a b : Value} {xs : List (Int × Int)} (H1 : Holds w h1) (H2 : Holds w h2) (r1 : Rd spanE 2 h1 a xs) (r2 : Rd spanE 2 h2 b xs)
    (k : ∀ n, R (.returned (.bool true)) (w.drewN n)) :
    Calls Try.prog 23 #[a, b] w R := by
  obtain ⟨A, c, rfl, r1⟩ := r1.open_
  obtain ⟨B, d, rfl, r2⟩ := r2.open_
  obtain ⟨_, hc, hc2, g1⟩ := r1.span
  obtain ⟨_, hd, hd2, g2⟩ := r2.span
  clear r1 r2
  go_enter Try.func23, Try.ntmps23
  go_wp2
  go_loopg [5] xs.length (fun m v w' => ∃ (i n : Nat), m + i = xs.length ∧ v = .int .i64 i ∧ w' = w.drewN n)
  case atStart => exact ⟨0, 0, by simp, rfl, rfl⟩
  case round =>
    obtain ⟨i, n, hm, rfl, rfl⟩ := hrel
    by_cases hi : i < xs.length
    · obtain ⟨ba, oa, rfl, hca, hca2⟩ := g1 i hi
      obtain ⟨bb, ob, rfl, hcb, hcb2⟩ := g2 i hi
      have ca := H1.cell hca
      have ca2 := H1.cell hca2
      have cb := H2.cell hcb
      have cb2 := H2.cell hcb2
      generalize xs[i].1 = x at ca cb
      generalize xs[i].2 = y at ca2 cb2
      clear hca hcb hca2 hcb2 g1 g2
      go_wp2
      go_quiet (fail)
      go_wp2
      go_roundg (gk - 1)
      case measure => omega
      case rel => exact ⟨i + 1, n + nq, by omega, by go_num, rfl⟩
    · go_wp2
      exact k _

set_option maxRecDepth 100000 in
set_option maxHeartbeats 4000000 in
theorem c_Watch {x0 x1 x2 : Value} (s : Sat W0 w H (cellsH ⟨b, o, none⟩ [x0, x1, x2] :: F)) (p : Option Addr)  (hx : ∃ q, x2 = .pointer q)
    (k : ∀ w', Sat W0 w' H (cellsH ⟨b, o, none⟩ [x0, x1, .pointer p] :: F) → R (.returned (.tuple #[])) w') :
    Calls Try.prog 17 #[.pointer (some ⟨b, o, none⟩), .pointer p] w R := by
  have c2 := s.c 2 rfl
  have s2 := s.s 2 (by simp) (.pointer p)
  have K := k _ s2
  clear s s2 k
  go_enter Try.func17, Try.ntmps17
  go_wp2
  refine bodyPost_end (results_none rfl _ _ _) rfl ?_
  exact K
end


/-- append of one span -/
theorem appendSp {ops : Array Oper} {rest : List Oper} {o : Oper} {a : Act} {Q : Exit → Act → World → Prop} {W0 w : World} {H : Hp} {A F : List Hp}
    (hg : o.guard = none) (sx xx : Operand) (hop : o.op = .call { callee := .builtin .append, args := #[sx, xx], argTypes := #[29, 29] })
    {v : Value} {xs : List (Int × Int)} {h : Hp} (hv : a.eval sx = v) (own : OwnS 2 v xs.length (encS xs) h) (s : Sat W0 w H A) [fr : FrH h A F] {X : Option Addr} {c : Nat} (hx : a.eval xx = .slice X 1 c) (p q : Int) (hus : RowR w X [.int .u64 p, .int .u64 q])
    (hb : xs.length ≤ 1000000)
    (k : ∀ v' w' h', OwnS 2 v' (xs ++ [(p, q)]).length (encS (xs ++ [(p, q)])) h' → Sat W0 w' H (h' :: F) → wpList Try.prog ops Q rest (a.put o.dst v') w') : wpList Try.prog ops Q (o :: rest) a w := by
  obtain ⟨i0, hi, hz, hs1, hb1⟩ := info_span
  refine wpList_append hg sx xx _ _ _ hop i0 (.agg #[.int .u64 0, .int .u64 0]) 2 16 Try.underlying29 Try.underlying29 hi hz hs1 hb1 rfl (by decide) hv own s.pull hx (us := [.int .u64 p, .int .u64 q]) rfl hus (by simp [Value.oneCell']) (by omega) (by omega) ?_
  intro A' cap' w' h' ho hs
  exact k _ w' h' (by simpa [encS, List.flatMap_append] using ho) hs

/-- what stands between two rounds -/
def LogInv (W w : World) (b p i : Nat) (v6 v7 : Value) : Prop :=
  ∃ (r : RamG) (l : Option LogG) (ws rs : List (Int × Int)) (h6 h7 : Hp), r.size = 4096 ∧ lgs l = some (⟨p, 0, none⟩, ws, rs) ∧ ws.length ≤ i ∧ rs.length ≤ i ∧ OwnS 2 v6 ws.length (encS ws) h6 ∧ OwnS 2 v7 rs.length (encS rs) h7 ∧
    Sat W w (look W) (ramL ⟨b, 0, none⟩ (r, l) ++ (h6 :: h7 :: []))

set_option maxRecDepth 100000 in
set_option maxHeartbeats 4000000 in
theorem law_RamLogs (W : World) {v0 : Value} {os : List OpM} (e0 : sliceE opE 5 (look W) os [v0]) :
    Calls Try.prog 3 #[v0] W fun e w' => e = .returned (.bool true) ∧ Below W.heap.size W w' := by
  obtain ⟨_, hv0, e0⟩ := e0
  obtain rfl := (List.cons.inj hv0).1
  clear hv0
  obtain ⟨D, dc, rfl, rd⟩ := e0.open_
  obtain ⟨A', c', hv, hc, hc2, hat⟩ := id rd
  injection hv with ea eb ec
  subst ea ec
  have hlen : (os.length : Int) ≤ 9223372036854775807 := by omega
  go_enter Try.func3, Try.ntmps3
  go_wp2_with fail
  refine c_ramAwake (Sat.start W) ?_; intro w1 s1
  go_wp2_with fail
  refine c_ramNew2 s1 _ (by omega) ?_; intro w2 b r hz hm s2
  have s3 := s2.alloc (c := [.slice none 0 0, .slice none 0 0]) (t := 31)
  obtain ⟨p, hp⟩ : ∃ p, w2.heap.size = p := ⟨_, rfl⟩
  rw [hp] at s3
  clear s2 s1
  go_wp2_with fail
  simp only [ramL, logL, Option.map_none, List.cons_append, List.nil_append] at s3
  refine c_Watch (b := b) (o := 0) (F := _) (Sat.pull (h := cellsH ⟨b, 0, none⟩ [.int .u64 r.size, .map (some r.mb), .pointer none]) s3) _ ⟨_, rfl⟩ ?_
  intro w4 s4
  have inv0 : LogInv W w4 b p 0 (.slice none 0 0) (.slice none 0 0) := by
    have s5 := s4.emp.emp.emp.emp
    refine ⟨r, some ⟨p, 0, .slice none 0 0, empH, [], .slice none 0 0, empH, [], OwnS.nil 2, OwnS.nil 2⟩, [], [], empH, empH, hz, rfl, Nat.le_refl _, Nat.le_refl _, OwnS.nil 2, OwnS.nil 2, ?_⟩
    simp only [ramL, logL, Option.map_some, List.cons_append, List.nil_append]
    exact s5.wk
  clear s4 s3 hz hm
  go_wp2
  go_loopg [6, 7, 8] os.length (fun q v6 v7 v8 w' => ∃ (i : Nat), q + i = os.length ∧ v8 = .int .i64 i ∧ i ≤ 30 ∧ LogInv W w' b p i v6 v7)
  case atStart => exact ⟨0, by simp, rfl, by omega, inv0⟩
  clear inv0
  case round =>
    obtain ⟨i, hq, rfl, hi30, inv⟩ := hrel
    by_cases hi : i < os.length ∧ i < 30
    · obtain ⟨hi1, hi2⟩ := hi
      obtain ⟨r, l, ws, rs, h6, h7, hz, hl, hw1, hw2, o6, o7, s'⟩ := inv
      obtain ⟨bb, ob, vs, rfl, ⟨dv, rfl, rdv⟩, _, hcell⟩ := hat i os[i] (by simp [hi1])
      have x0 := s'.ro.cell (hcell 0 _ rfl)
      have x1 := s'.ro.cell (hcell 1 _ rfl)
      have x2 := s'.ro.cell (hcell 2 _ rfl)
      have x3 := s'.ro.cell (hcell 3 _ rfl)
      have x4 := s'.ro.cell (hcell 4 _ rfl)
      generalize os[i] = op at *
      rw [Nat.add_zero] at x0
      obtain ⟨E, ec, rfl, rdv⟩ := rdv.open_
      have s5 := s'.alloc (c := op.vals (.slice E op.data.length ec)) (t := 36)
      obtain ⟨Q, hQ⟩ : ∃ Q, wr.heap.size = Q := ⟨_, rfl⟩
      rw [hQ] at s5
      have y := s5.cel Q 0
      clear hcell hat rd s'
      go_wp2_with fail
      refine c_small s5 op rdv ?_
      intro w6 s6
      clear s5 y x0 x1 x2 x3 x4
      by_cases hsm : op.small
      · rw [decide_eq_true hsm]
        obtain ⟨kind, at', n, x, data, hk, ha, hn, hx⟩ := op
        simp only [OpM.vals] at *
        unfold OpM.small at hsm
        simp only at hsm
        have y0 := s6.cel Q 0 0 rfl
        have y1 := s6.cel Q 0 1 rfl
        have y2 := s6.cel Q 0 2 rfl
        have y3 := s6.cel Q 0 3 rfl
        have y4 := s6.cel Q 0 4 rfl
        simp only [Nat.zero_add] at y0 y1 y2 y3 y4
        have hdl : (data.length : Int) ≤ 64 := by omega
        by_cases k0 : kind = 0
        · subst k0
          go_wp2_with fail
          refine c_ramStore s6 _ _ _ ha hn hx ?_ ?_
          · intro _
            go_wp2
            go_roundg (gk - 1)
            case measure => omega
            case rel => exact ⟨i + 1, by omega, by go_num, by omega, r, l, ws, rs, h6, h7, hz, hl, by omega, by omega, o6, o7, s6.tail1⟩
          · intro hsz w7 r7 l7 _ hz7 hl7 s7
            have z1 := s7.cel Q 0 1 rfl
            have z2 := s7.cel Q 0 2 rfl
            simp only [Nat.zero_add] at z1 z2
            have hnp : 0 < n ∧ n ≤ 8 := by have := hsz.1; unfold sizedP at this; omega
            have e1 : IntKind.u64.wrap n = n := by rw [wrap_u64]; omega
            have hl8 : lgs l7 = some (⟨p, 0, none⟩, ws ++ [(at', n)], rs) := by rw [hl7, hl]; simp only [addW, Option.map_some, if_pos (And.intro hnp.1 (show ws.length < 4096 by omega))]
            clear hl7
            go_wp2_with (at_builtin; refine appendSp rfl (.tmp 55) (.tmp 62) rfl rfl o6 (s7.alloc (c := [.int .u64 at', .int .u64 n]) (t := 40)) rfl at' n row_span (by omega) ?_; intro v8 w8 h8 o8 s8)
            go_roundg (gk - 1)
            case measure => omega
            case rel => exact ⟨i + 1, by omega, by go_num, by omega, r7, l7, ws ++ [(at', n)], rs, h8, h7, by omega, hl8, by simp; omega, by omega, o8, o7, s8.wk⟩
        by_cases k1 : kind = 1
        · subst k1
          go_wp2_with fail
          refine c_ramWrite s6 _ ha rdv (fun _ s => s.ro) ?_ ?_
          · intro _
            go_wp2
            go_roundg (gk - 1)
            case measure => omega
            case rel => exact ⟨i + 1, by omega, by go_num, by omega, r, l, ws, rs, h6, h7, hz, hl, by omega, by omega, o6, o7, s6.tail1⟩
          · intro hsz w7 r7 l7 _ hz7 hl7 s7
            have z1 := s7.cel Q 0 1 rfl
            have z4 := s7.cel Q 0 4 rfl
            simp only [Nat.zero_add] at z1 z4
            by_cases hd0 : (0 : Int) < data.length
            · have hl8 : lgs l7 = some (⟨p, 0, none⟩, ws ++ [(at', (data.length : Int))], rs) := by rw [hl7, hl]; simp only [addW, Option.map_some, if_pos (And.intro hd0 (show ws.length < 4096 by omega))]
              clear hl7
              go_wp2_with (at_builtin; refine appendSp rfl (.tmp 78) (.tmp 86) rfl rfl o6 (s7.alloc (c := [.int .u64 at', .int .u64 (data.length : Int)]) (t := 40)) rfl at' (data.length : Int) row_span (by omega) ?_; intro v8 w8 h8 o8 s8)
              go_roundg (gk - 1)
              case measure => omega
              case rel => exact ⟨i + 1, by omega, by go_num, by omega, r7, l7, ws ++ [(at', (data.length : Int))], rs, h8, h7, by omega, hl8, by simp; omega, by omega, o8, o7, s8.wk⟩
            · have hl8 : lgs l7 = some (⟨p, 0, none⟩, ws, rs) := by rw [hl7, hl]; simp only [addW, Option.map_some, if_neg (fun h : (0 : Int) < data.length ∧ ws.length < 4096 => hd0 h.1)]
              clear hl7
              go_wp2
              go_roundg (gk - 1)
              case measure => omega
              case rel => exact ⟨i + 1, by omega, by go_num, by omega, r7, l7, ws, rs, h6, h7, by omega, hl8, by omega, by omega, o6, o7, s7.wk⟩
        by_cases k2 : kind = 2
        · subst k2
          go_wp2_with fail
          refine c_ramLoad s6 _ _ ha hn ?_ ?_
          · intro _
            go_wp2
            go_roundg (gk - 1)
            case measure => omega
            case rel => exact ⟨i + 1, by omega, by go_num, by omega, r, l, ws, rs, h6, h7, hz, hl, by omega, by omega, o6, o7, s6.tail1⟩
          · intro _
            go_wp2
            go_roundg (gk - 1)
            case measure => omega
            case rel => exact ⟨i + 1, by omega, by go_num, by omega, r, l, ws, rs, h6, h7, hz, hl, by omega, by omega, o6, o7, s6.tail1⟩
        by_cases k3 : kind = 3
        · subst k3
          have hn64 : 0 ≤ n ∧ n ≤ 64 := by omega
          have e1 : IntKind.u64.wrap n = n := by rw [wrap_u64]; omega
          go_wp2_with fail
          refine c_ramRead s6 _ n ha (by omega) ?_ ?_
          · intro _
            go_wp2
            go_roundg (gk - 1)
            case measure => omega
            case rel => exact ⟨i + 1, by omega, by go_num, by omega, r, l, ws, rs, h6, h7, hz, hl, by omega, by omega, o6, o7, s6.tail1⟩
          · intro _ w7 v7' h7' l7 _ hl7 s7
            have z1 := s7.cel Q 0 1 rfl
            have z2 := s7.cel Q 0 2 rfl
            simp only [Nat.zero_add] at z1 z2
            by_cases hd0 : 0 < n
            · have hl8 : lgs l7 = some (⟨p, 0, none⟩, ws, rs ++ [(at', n)]) := by rw [hl7, hl]; simp only [addR, Option.map_some, if_pos (And.intro hd0 (show rs.length < 4096 by omega))]
              clear hl7
              go_wp2_with (at_builtin; refine appendSp rfl (.tmp 114) (.tmp 121) rfl rfl o7 (s7.alloc (c := [.int .u64 at', .int .u64 n]) (t := 40)) rfl at' n row_span (by omega) ?_; intro v8 w8 h8 o8 s8)
              go_roundg (gk - 1)
              case measure => omega
              case rel => exact ⟨i + 1, by omega, by go_num, by omega, r, l7, ws, rs ++ [(at', n)], h6, h8, by omega, hl8, by omega, by simp; omega, o6, o8, s8.wk⟩
            · have hl8 : lgs l7 = some (⟨p, 0, none⟩, ws, rs) := by rw [hl7, hl]; simp only [addR, Option.map_some, if_neg (fun h : 0 < n ∧ rs.length < 4096 => hd0 h.1)]
              clear hl7
              go_wp2
              go_roundg (gk - 1)
              case measure => omega
              case rel => exact ⟨i + 1, by omega, by go_num, by omega, r, l7, ws, rs, h6, h7, by omega, hl8, by omega, by omega, o6, o7, s7.wk⟩
        have e0 : (kind == 0) = false := by simp [k0]
        have e1 : (kind == 1) = false := by simp [k1]
        have e2 : (kind == 2) = false := by simp [k2]
        have e3 : (kind == 3) = false := by simp [k3]
        clear k0 k1 k2 k3
        go_wp2
        go_roundg (gk - 1)
        case measure => omega
        case rel => exact ⟨i + 1, by omega, by go_num, by omega, r, l, ws, rs, h6, h7, hz, hl, by omega, by omega, o6, o7, s6.tail1⟩
      · rw [decide_eq_false hsm]
        go_wp2
        go_ret
        exact ⟨rfl, s6.below⟩
    · obtain ⟨r, l, ws, rs, h6, h7, hz, hl, hw1, hw2, o6, o7, s'⟩ := inv
      clear hat rd
      obtain ⟨lg, rfl, hpb, hpo, hws, hrs⟩ : ∃ lg, l = some lg ∧ lg.pb = p ∧ lg.po = 0 ∧ lg.ws = ws ∧ lg.rs = rs := by
        cases l with
        | none => simp [lgs] at hl
        | some lg => simp [lgs] at hl; exact ⟨lg, rfl, hl.1.1, hl.1.2, hl.2.1, hl.2.2⟩
      obtain ⟨pb, po, wsl, wbk, ws', rsl, rbk, rs', hw, hr⟩ := lg
      simp only at hpb hpo hws hrs
      subst hpb hpo hws hrs
      simp only [ramL, logL, Option.map_some, List.cons_append, List.nil_append] at s'
      have hz4 : r.size = 4096 := hz
      by_cases hx : (i : Int) < os.length
      all_goals
        go_wp2_with fail
        refine c_Watch (b := b) (o := 0) (Sat.pull (h := cellsH ⟨b, 0, none⟩ [.int .u64 r.size, .map (some r.mb), .pointer (some ⟨pb, 0, none⟩)]) s') none ⟨_, rfl⟩ ?_
        intro w5 s5
        have s6 : Sat W w5 (look W) (ramL ⟨b, 0, none⟩ (r, none) ++ (cellsH ⟨pb, 0, none⟩ [wsl, rsl] :: wbk :: rbk :: h6 :: h7 :: [])) := by
          simp only [ramL, logL, Option.map_none, List.cons_append, List.nil_append]
          exact s5.wk
        clear s5 s' hz
        go_wp2_with fail
        refine c_ramStore s6 _ _ _ (by omega) (by omega) (by omega) (fun hbad => absurd (show _ ∧ _ from ⟨by unfold sizedP; omega, by unfold RamG.has; omega⟩) hbad) ?_
        intro _ w7 r7 l7 _ _ _ s7
        have d0 := s7.cel pb 0 0 rfl
        rw [Nat.zero_add] at d0
        go_wp2_with fail
        refine c_Same (Sat.pull (h := wbk) s7).head (Sat.pull (h := h6) s7).head hw.rdS o6.rdS ?_
        intro n1
        have s8 := s7.drewN n1
        generalize World.drewN w7 n1 = w8 at s8
        have d1 := s8.cel pb 0 1 rfl
        rw [Nat.zero_add] at d1
        go_wp2_with fail
        refine c_Same (Sat.pull (h := rbk) s8).head (Sat.pull (h := h7) s8).head hr.rdS o7.rdS ?_
        intro n2
        have s9 := s8.drewN n2
        generalize World.drewN w8 n2 = w9 at s9
        go_wp2
        go_ret
        exact ⟨rfl, s9.below⟩
end Go.Proofs.Ytohccblfnjampaa
