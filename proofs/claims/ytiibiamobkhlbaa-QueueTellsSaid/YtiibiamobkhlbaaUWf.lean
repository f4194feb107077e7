/-
  RAM: Differ.
-/
import Derived.Test.YtiibiamobkhlbaaUVsp
import Derived.Test.YtiibiamobkhlbaaG6
import Derived.Test.YtiibiamobkhlbaaG1
set_option linter.unusedVariables false
set_option linter.unusedSimpArgs false
namespace Go.Proofs.Ytiibiamobkhlbaa
open Go.RowKit
set_option linter.unusedVariables false
set_option linter.unusedSimpArgs false

/-- the pieces where two memories differ -/
def difR (d o : RamG) (most : Int) : List (Int × Int) := difL most (dfrom d.mem o.mem 2147483648 d.size.toNat) []

/-- a look into a memory's map, whatever it holds -/
theorem RamG.look {W : World} (d : RamG) (ho : W.heap[d.mb]? = some (.map (d.ents.map Ent.me).toArray d.ck)) (k : Nat) :
    ∃ (p : Option Addr) (bl : Bool), (Instr.lookup 176 (.map (some d.mb)) (.int .u64 (k : Int)) true).run Try.prog W = .ok (.tuple #[.pointer p, .bool bl]) W ∧ (bl = false → ∀ i : Nat, i < 4096 → d.mem ((2147483648 + 4096 * k + i : Nat) : Int) = 0) := by
  by_cases he : ∃ e ∈ d.ents, e.key = k
  · obtain ⟨e, hm, rfl⟩ := he
    exact ⟨_, true, run_lookup_yes Try.underlying176 Try.underlying23 ho d.hkey hm, fun h => by cases h⟩
  · exact ⟨none, false, run_lookup_no (z := .pointer none) Try.underlying176 Try.underlying23 ho (fun e hm h => he ⟨e, hm, h⟩) (zero_page W), fun _ i hi => d.hzero k (fun e hm h => he ⟨e, hm, h⟩) i hi⟩

/-- an owned row of spans that is not empty: its last one -/
theorem OwnS.lastS {v : Value} {pre : List (Int × Int)} {p q : Int} {h : Hp} (own : OwnS 2 v (pre ++ [(p, q)]).length (encS (pre ++ [(p, q)])) h) :
    ∃ b o cap spare, v = .slice (some ⟨b, o, none⟩) (pre.length + 1) cap ∧ pre.length + 1 ≤ cap ∧ cap ≤ 9223372036854775807 ∧ h = cellsH ⟨b, o, none⟩ (encS pre ++ [.int .u64 p, .int .u64 q] ++ spare) ∧ (encS pre).length = pre.length * 2 ∧ spare.length = (cap - (pre.length + 1)) * 2 := by
  obtain ⟨A, cap, spare, rfl, h1, h2, h3, h4, h5, rfl⟩ := own
  rw [List.length_append, List.length_singleton] at *
  obtain ⟨b, o, rfl⟩ := h5 (by omega)
  have he : encS (pre ++ [(p, q)]) = encS pre ++ [.int .u64 p, .int .u64 q] := by simp [encS, List.flatMap_append]
  rw [he] at h3 ⊢
  refine ⟨b, o, cap, spare, rfl, h1, h2, rfl, ?_, h4⟩
  rw [List.length_append] at h3
  simp at h3; omega

theorem OwnS.lastS_mk {pre : List (Int × Int)} {p q : Int} {b o cap : Nat} {spare : List Value} (h1 : pre.length + 1 ≤ cap) (h2 : cap ≤ 9223372036854775807) (h3 : (encS pre).length = pre.length * 2) (h4 : spare.length = (cap - (pre.length + 1)) * 2) :
    OwnS 2 (.slice (some ⟨b, o, none⟩) (pre.length + 1) cap) (pre ++ [(p, q)]).length (encS (pre ++ [(p, q)])) (cellsH ⟨b, o, none⟩ (encS pre ++ [.int .u64 p, .int .u64 q] ++ spare)) := by
  have he : encS (pre ++ [(p, q)]) = encS pre ++ [.int .u64 p, .int .u64 q] := by simp [encS, List.flatMap_append]
  rw [he, List.length_append, List.length_singleton]
  exact ⟨_, cap, spare, rfl, h1, h2, by rw [List.length_append, h3]; simp; omega, h4, fun _ => ⟨b, o, rfl⟩, rfl⟩

theorem bb_cases : ∀ b1 b2 : Bool, ¬ (b1 = false ∧ b2 = false) → b1 = true ∨ (b1 = false ∧ b2 = true) := by decide
theorem lastS_get {E sp : List Value} {x y : Value} {K : Nat} (h : E.length = K * 2) : (E ++ [x, y] ++ sp)[K * 2]? = some x ∧ (E ++ [x, y] ++ sp)[K * 2 + 1]? = some y := by
  constructor
  · rw [List.append_assoc, List.getElem?_append_right (by omega), h]; simp
  · rw [List.append_assoc, List.getElem?_append_right (by omega), h]; simp
theorem lastS_set {E sp : List Value} {x y z : Value} {K : Nat} (h : E.length = K * 2) : (E ++ [x, y] ++ sp).set (K * 2 + 1) z = E ++ [x, z] ++ sp := by
  rw [List.append_assoc, List.set_append_right _ _ (by omega), h, show K * 2 + 1 - K * 2 = 1 by omega, List.append_assoc]; rfl

section
variable {R : Ending → World → Prop} {W0 w : World} {H : Hp} {A F : List Hp} {a b : Nat} {d o : RamG} {l l2 : Option LogG}

set_option maxRecDepth 100000 in
set_option maxHeartbeats 4000000 in
theorem c_ramDiffer (s : Sat W0 w H (ramL ⟨a, 0, none⟩ (d, l) ++ (ramL ⟨b, 0, none⟩ (o, l2) ++ F))) (hsz : o.size = d.size) (most : Int) (hmo : -9223372036854775808 ≤ most ∧ most ≤ 9223372036854775807)
    (k : ∀ w' v h, OwnS 2 v (difR d o most).length (encS (difR d o most)) h → Sat W0 w' H (h :: (ramL ⟨a, 0, none⟩ (d, l) ++ (ramL ⟨b, 0, none⟩ (o, l2) ++ F))) → R (.returned v) w') :
    Calls Try.prog 32 #[.pointer (some ⟨a, 0, none⟩), .pointer (some ⟨b, 0, none⟩), .int .i64 most] w R := by
  have hs := d.hsize
  obtain ⟨N, hN⟩ : ∃ N : Nat, d.size = 4096 * (N : Int) := ⟨(d.size / 4096).toNat, by omega⟩
  obtain ⟨S, hS⟩ : ∃ S, d.size = S := ⟨_, rfl⟩
  have hN16 : (N : Int) ≤ 65536 := by omega
  have eS : S / 4096 = (N : Int) := by omega
  have hS0 : 0 ≤ S ∧ S ≤ 268435456 := by omega
  have hSN := aside (show S = 4096 * (N : Int) by omega)
  obtain ⟨FIN, hFIN⟩ : ∃ FIN, difR d o most = FIN := ⟨_, rfl⟩
  rw [hFIN] at k
  have hstart := aside (show difL most (dfrom d.mem o.mem (2147483648 + 4096 * ((0 : Nat) : Int)) (4096 * (N - 0))) [] = FIN by
    rw [← hFIN]; unfold difR; rw [show d.size.toNat = 4096 * (N - 0) by omega]; rfl)
  have cellA : ∀ (w' : World) (h : Hp), Sat W0 w' H (h :: (ramL ⟨a, 0, none⟩ (d, l) ++ (ramL ⟨b, 0, none⟩ (o, l2) ++ F))) → w'.cell? ⟨a, 0, none⟩ = some (.int .u64 S) ∧ w'.cell? ⟨b, 0, none⟩ = some (.int .u64 S) ∧ w'.cell? ⟨a, 1, none⟩ = some (.map (some d.mb)) ∧ w'.cell? ⟨b, 1, none⟩ = some (.map (some o.mb)) ∧ w'.heap[d.mb]? = some (.map (d.ents.map Ent.me).toArray d.ck) ∧ w'.heap[o.mb]? = some (.map (o.ents.map Ent.me).toArray o.ck) := fun w' h q => by
    have q1 := q.tail1
    have q2 := (show Sat W0 w' H (ramL ⟨b, 0, none⟩ (o, l2) ++ (ramL ⟨a, 0, none⟩ (d, l) ++ F)) from by
      rw [← List.append_assoc] at q1 ⊢
      exact q1.perm (List.Perm.append_right F List.perm_append_comm))
    have hob1 := q1.obj (b := d.mb) (o := .map (d.ents.map Ent.me).toArray d.ck) (by simp [ramL])
    have hob2 := q2.obj (b := o.mb) (o := .map (o.ents.map Ent.me).toArray o.ck) (by simp [ramL])
    simp only [ramL, List.cons_append] at q1 q2
    have a0 := q1.c0
    have a1 := q1.c 1 rfl
    have b0 := q2.c0
    have b1 := q2.c 1 rfl
    simp only [Nat.zero_add] at a1 b1
    rw [hS] at a0
    rw [hsz, hS] at b0
    exact ⟨a0.1, b0.1, a1.1, b1.1, hob1, hob2⟩
  have s0 := s.emp
  have hc := cellA _ _ s0
  obtain ⟨c0, c1, _, _, _, _⟩ := hc
  have hsS := aside (show d.size = S ∧ o.size = S from ⟨hS, hsz.trans hS⟩)
  replace hN := aside hN
  replace hFIN := aside hFIN
  replace cellA := aside cellA
  clear hs hsz hS s
  go_enter Try.func32, Try.ntmps32
  go_wp2
  go_quiet (fail)
  have s1 := s0.drewN nq
  generalize World.drewN w nq = w1 at s1 ⊢
  clear c0 c1 s0
  go_wp2
  go_loopg [7, 8] N (fun q v7 v8 w' => ∃ (n : Nat) (out : List (Int × Int)) (h : Hp), q + n = N ∧ v8 = .int .u64 n ∧ OwnS 2 v7 out.length (encS out) h ∧ Aside (spIn 2147483648 (2147483648 + S) out ∧ out.length ≤ 4096 * n) ∧ Aside (difL most (dfrom d.mem o.mem (2147483648 + 4096 * (n : Int)) (4096 * (N - n))) out = FIN) ∧ Sat W0 w' H (h :: (ramL ⟨a, 0, none⟩ (d, l) ++ (ramL ⟨b, 0, none⟩ (o, l2) ++ F))))
  case atStart => exact ⟨0, [], empH, by simp, rfl, OwnS.nil 2, aside ⟨fun s hs => by simp at hs, by simp⟩, hstart.out, s1⟩
  clear s1
  case round =>
    obtain ⟨n, out, h, hq, rfl, own, hsp, hfin, s'⟩ := hrel
    obtain ⟨c0, c1, c2, c3, ho1, ho2⟩ := cellA.out _ _ s'
    by_cases hn : n < N
    · obtain ⟨p1, b1, hl1, hz1⟩ := d.look ho1 n
      obtain ⟨p2, b2, hl2, hz2⟩ := o.look ho2 n
      have hn2 : (n : Int) < N := by omega
      have hn16 := aside (show n < 65536 by omega)
      replace hz1 := aside hz1
      replace hz2 := aside hz2
      clear ho1 ho2 c1
      by_cases hb : b1 = false ∧ b2 = false
      · obtain ⟨rfl, rfl⟩ := hb
        have hfin2 := hfin.out
        rw [show 4096 * (N - n) = 4096 + 4096 * (N - (n + 1)) by omega, dfrom_skip 4096 _ _ (fun i hi => by
          have h1 := hz1.out rfl i hi
          have h2 := hz2.out rfl i hi
          rw [show 2147483648 + 4096 * (n : Int) + (i : Int) = ((2147483648 + 4096 * n + i : Nat) : Int) by omega, h1, h2]), show 2147483648 + 4096 * (n : Int) + ((4096 : Nat) : Int) = 2147483648 + 4096 * ((n + 1 : Nat) : Int) by omega] at hfin2
        have hsp2 := aside (show spIn 2147483648 (2147483648 + S) out ∧ out.length ≤ 4096 * (n + 1) from ⟨hsp.out.1, by have := hsp.out.2; omega⟩)
        have hq2 := aside (show gk - 1 + (n + 1) = N ∧ gk - 1 < gk by omega)
        replace hfin2 := aside hfin2
        replace hq := aside hq
        clear hfin hz1 hz2 hsp
        go_wp2
        go_roundg (gk - 1)
        case measure => exact hq2.out.2
        case rel => exact ⟨n + 1, out, h, hq2.out.1, by go_num, own, hsp2, hfin2, s'⟩
      · have hbb := bb_cases b1 b2 hb
        clear hb hz1 hz2
        have hfin2 := hfin.out
        rw [show 4096 * (N - n) = 4096 - 0 + 4096 * (N - (n + 1)) by omega, show 2147483648 + 4096 * (n : Int) = 2147483648 + 4096 * (n : Int) + ((0 : Nat) : Int) by omega] at hfin2
        have hsp2 := aside (show spIn 2147483648 (2147483648 + S) out ∧ out.length ≤ 4096 * n + 0 from hsp.out)
        replace hfin2 := aside hfin2
        replace hq := aside hq
        clear hfin hsp
        rcases hbb with rfl | ⟨rfl, rfl⟩
        all_goals
          go_wp2
          rw [eS]
          clear hl1 hl2 c0 c2 c3 eS
          obtain ⟨ko, rfl⟩ : ∃ ko : Nat, ko = gk := ⟨_, rfl⟩
          obtain ⟨wo, rfl⟩ : ∃ wo : World, wo = wr := ⟨_, rfl⟩
          go_loopg [7, 58] 4096 (fun q v7 v58 w' => ∃ (i : Nat) (out : List (Int × Int)) (h : Hp), q + i = 4096 ∧ v58 = .int .u64 i ∧ OwnS 2 v7 out.length (encS out) h ∧ Aside (spIn 2147483648 (2147483648 + S) out ∧ out.length ≤ 4096 * n + i) ∧ Aside (difL most (dfrom d.mem o.mem (2147483648 + 4096 * (n : Int) + (i : Int)) (4096 - i + 4096 * (N - (n + 1)))) out = FIN) ∧ Sat W0 w' H (h :: (ramL ⟨a, 0, none⟩ (d, l) ++ (ramL ⟨b, 0, none⟩ (o, l2) ++ F))))
          case atStart => exact ⟨0, out, h, by simp, rfl, own, hsp2, hfin2, s'⟩
          clear s' own hsp2 hfin2
          clear h out
          case round =>
            obtain ⟨i, out, h, hqi, rfl, own, hsp, hfin, s'⟩ := hrel
            by_cases hi : i < 4096
            · have hi2 : (i : Int) < 4096 := by omega
              obtain ⟨P, hP⟩ : ∃ P : Nat, 4096 * n = P := ⟨_, rfl⟩
              obtain ⟨P2, hP2⟩ : ∃ P2 : Nat, 2147483648 + P = P2 := ⟨_, rfl⟩
              obtain ⟨B, hB⟩ : ∃ B : Nat, P2 + i = B := ⟨_, rfl⟩
              have hBb : 2147483648 ≤ (B : Int) ∧ (B : Int) - 2147483648 < S ∧ (B : Int) ≤ 2415919104 := by have := hSN.out; omega
              have e1 : IntKind.u64.wrap ((n : Int) * 4096) = (P : Int) := by rw [wrap_u64]; omega
              have e2 : IntKind.u64.wrap (2147483648 + (P : Int)) = (P2 : Int) := by rw [wrap_u64]; omega
              have e3 : IntKind.u64.wrap ((P2 : Int) + i) = (B : Int) := by rw [wrap_u64]; omega
              have ei1 : IntKind.u64.wrap ((i : Int) + 1) = (i : Int) + 1 := by rw [wrap_u64]; omega
              have hBd := aside (show (B : Int) - 2147483648 < d.size by rw [hsS.out.1]; exact hBb.2.1)
              have hBo := aside (show (B : Int) - 2147483648 < o.size by rw [hsS.out.2]; exact hBb.2.1)
              have hBl := hBb.1
              have hBA : 2147483648 + 4096 * (n : Int) + (i : Int) = (B : Int) := by omega
              have hB1 : 2147483648 + 4096 * (n : Int) + ((i + 1 : Nat) : Int) = (B : Int) + 1 := by omega
              have hR : 4096 - i + 4096 * (N - (n + 1)) = 4096 - (i + 1) + 4096 * (N - (n + 1)) + 1 := by omega
              have hfin2 := hfin.out
              rw [hBA, hR] at hfin2
              have hq2 := aside (show gk - 1 + (i + 1) = 4096 ∧ gk - 1 < gk by omega)
              obtain ⟨x, hx⟩ : ∃ x, d.mem (B : Int) = x := ⟨_, rfl⟩
              obtain ⟨y, hy⟩ : ∃ y, o.mem (B : Int) = y := ⟨_, rfl⟩
              have hxb : 0 ≤ x ∧ x ≤ 255 := hx ▸ d.hmem _
              have hyb : 0 ≤ y ∧ y ≤ 255 := hy ▸ o.hmem _
              replace hx := aside hx
              replace hy := aside hy
              replace hBb := aside hBb
              replace hBA := aside hBA
              replace hB1 := aside hB1
              replace hR := aside hR
              replace hfin2 := aside hfin2
              replace hqi := aside hqi
              replace hP := aside hP
              replace hP2 := aside hP2
              replace hB := aside hB
              clear hfin
              go_wp2_with fail
              refine c_ramGet (r := d) (l := l) s' (B : Int) hBl hBd.out ?_
              rw [hx.out]
              go_wp2_with fail
              refine c_ramGet (r := o) (l := l2) s' (B : Int) hBl hBo.out ?_
              rw [hy.out]
              by_cases hxy : x = y
              · have hfin3 := hfin2.out
                rw [dfrom_same (by rw [hx.out, hy.out]; exact hxy), ← hB1.out] at hfin3
                have hsp3 := aside (show spIn 2147483648 (2147483648 + S) out ∧ out.length ≤ 4096 * n + (i + 1) from ⟨hsp.out.1, by have := hsp.out.2; omega⟩)
                replace hfin3 := aside hfin3
                clear hsp hfin2
                go_wp2
                go_roundg (gk - 1)
                case measure => exact hq2.out.2
                case rel => exact ⟨i + 1, out, h, hq2.out.1, by go_num, own, hsp3, hfin3, s'⟩
              · have hfin3 := hfin2.out
                rw [dfrom_other (by rw [hx.out, hy.out]; exact hxy), ← hB1.out] at hfin3
                clear hfin2
                have hlenb : out.length ≤ 1000000000 := by have := hsp.out.2; have := hn16.out; omega
                rcases List.eq_nil_or_concat out with rfl | ⟨pre, ⟨p, q⟩, rfl⟩
                · obtain ⟨A, cap, sp, rfl, own2⟩ := id own
                  by_cases hm : most ≤ 0
                  · rw [difL_stop (extS_nil _) hm] at hfin3
                    replace hfin3 := aside hfin3
                    clear own2
                    go_wp2
                    go_quiet (fail)
                    have s2 := s'.drewN nq
                    generalize World.drewN _ nq = w2 at s2 ⊢
                    clear s'
                    go_wp2
                    have hF := hfin3.out
                    exact k _ _ h (by rw [← hF]; exact own) s2
                  · rw [difL_new (extS_nil _) hm] at hfin3
                    have hsp3 := aside (show spIn 2147483648 (2147483648 + S) ([] ++ [((B : Int), (1 : Int))]) ∧ ([] ++ [((B : Int), (1 : Int))]).length ≤ 4096 * n + (i + 1) from ⟨hsp.out.1.snoc hBl (by have := hBb.out; omega), by simp; omega⟩)
                    replace hfin3 := aside hfin3
                    clear hsp own2
                    go_wp2
                    go_quiet (fail)
                    have s2 := s'.drewN nq
                    generalize World.drewN _ nq = w2 at s2 ⊢
                    clear s'
                    go_wp2_with (at_builtin; refine appendSp rfl (.tmp 106) (.tmp 109) rfl rfl own (s2.alloc (c := [.int .u64 (B : Int), .int .u64 1]) (t := 48)) rfl (B : Int) 1 row_span (by simp) ?_; intro v3 w3 h3 own3 s3)
                    go_roundg (gk - 1)
                    case measure => exact hq2.out.2
                    case rel => exact ⟨i + 1, _, h3, hq2.out.1, by go_num, own3, hsp3, hfin3, s3.wk⟩
                · rw [List.concat_eq_append] at *
                  obtain ⟨b0, o0, cap, sp, rfl, hcap, hcap2, rfl, hEl, hspl⟩ := own.lastS
                  obtain ⟨K, hK⟩ : ∃ K, pre.length = K := ⟨_, rfl⟩
                  have hpq := hsp.out.1 (p, q) (by simp)
                  simp only at hpq
                  have hBb1 := hBb.out
                  rw [hK] at hEl hcap hspl own ⊢
                  obtain ⟨M, hM⟩ : ∃ M, K + 1 = M := ⟨_, rfl⟩
                  rw [hM] at hcap hspl own ⊢
                  have hKb : K ≤ 1000000000 := by rw [List.length_append, hK] at hlenb; omega
                  have ek : IntKind.i64.wrap ((M : Int) - 1) = (K : Int) := by simp [IntKind.wrap, IntKind.bits, IntKind.signed]; omega
                  have hK0 : 0 ≤ (K : Int) := by omega
                  have hKM : (K : Int) < M := by omega
                  obtain ⟨g0, g1⟩ := lastS_get (sp := sp) (x := .int .u64 p) (y := .int .u64 q) hEl
                  have eS1 : IntKind.u64.wrap (p + q) = p + q := by rw [wrap_u64]; omega
                  have eS2 : IntKind.u64.wrap (q + 1) = q + 1 := by rw [wrap_u64]; omega
                  have c1 := s'.c (K * 2) g0
                  have c2 := s'.c (K * 2 + 1) g1
                  rw [← Nat.add_assoc] at c2
                  obtain ⟨r, hr⟩ : ∃ r, p + q = r := ⟨_, rfl⟩
                  replace eS1 := eS1.trans hr
                  replace hr := aside hr
                  replace hpq := aside hpq
                  replace hM := aside hM
                  replace hEl := aside hEl
                  replace hspl := aside hspl
                  replace hcap := aside hcap
                  replace hKb := aside hKb
                  clear g0 hBb1
                  by_cases hrB : r = (B : Int)
                  · have hT : (IntKind.u64.wrap (p + q) == (B : Int)) = true := by rw [eS1, hrB]; simp
                    clear eS1
                    rw [difL_ext (o := pre ++ [(p, q + 1)]) (by rw [extS_snoc, if_pos (by rw [hr.out]; exact hrB)])] at hfin3
                    have hsp3 := aside (show spIn 2147483648 (2147483648 + S) (pre ++ [(p, q + 1)]) ∧ (pre ++ [(p, q + 1)]).length ≤ 4096 * n + (i + 1) from ⟨hsp.out.1.ext (by have := hBb.out; have := hr.out; omega), by have := hsp.out.2; simp only [List.length_append, List.length_singleton] at this ⊢; omega⟩)
                    have s2 := s'.drewN
                    have s3 := fun nq => (s'.drewN nq).s (K * 2 + 1) (by have := hEl.out; simp; omega) (.int .u64 (q + 1))
                    simp only [lastS_set hEl.out, ← Nat.add_assoc] at s3
                    have own3 := aside (show OwnS 2 (.slice (some ⟨b0, o0, none⟩) M cap) (pre ++ [(p, q + 1)]).length (encS (pre ++ [(p, q + 1)])) (cellsH ⟨b0, o0, none⟩ (encS pre ++ [.int .u64 p, .int .u64 (q + 1)] ++ sp)) by
                      have h1 := hcap.out
                      have h2 := hspl.out
                      have h3 := hEl.out
                      have hM1 := hM.out
                      subst hM1
                      subst hK
                      exact OwnS.lastS_mk h1 hcap2 h3 h2)
                    replace hfin3 := aside hfin3
                    replace s3 := aside s3
                    replace hrB := aside hrB
                    clear hsp own s2
                    go_wp2
                    go_quiet (fail)
                    have s4 := s3.out nq
                    clear s' s3
                    go_wp2
                    go_roundg (gk - 1)
                    case measure => exact hq2.out.2
                    case rel => exact ⟨i + 1, _, _, hq2.out.1, by go_num, own3.out, hsp3, hfin3, s4⟩
                  · have hT : (IntKind.u64.wrap (p + q) == (B : Int)) = false := by rw [eS1]; simp [hrB]
                    clear eS1
                    have hext : extS (pre ++ [(p, q)]) (B : Int) = none := by rw [extS_snoc, if_neg (by rw [hr.out]; exact hrB)]
                    have hln : (((pre ++ [(p, q)]).length : Nat) : Int) = (M : Int) := by rw [List.length_append, List.length_singleton, hK, hM.out]
                    replace hext := aside hext
                    replace hln := aside hln
                    replace hrB := aside hrB
                    by_cases hm : most ≤ (M : Int)
                    · rw [difL_stop hext.out (by rw [hln.out]; exact hm)] at hfin3
                      replace hfin3 := aside hfin3
                      go_wp2
                      go_quiet (fail)
                      have s2 := s'.drewN nq
                      generalize World.drewN _ nq = w2 at s2 ⊢
                      clear s' c1 c2
                      go_wp2
                      have hF := hfin3.out
                      exact k _ (.slice (some ⟨b0, o0, none⟩) M cap) _ (by rw [← hF]; exact own) s2
                    · rw [difL_new hext.out (by rw [hln.out]; exact hm)] at hfin3
                      have hsp3 := aside (show spIn 2147483648 (2147483648 + S) ((pre ++ [(p, q)]) ++ [((B : Int), (1 : Int))]) ∧ ((pre ++ [(p, q)]) ++ [((B : Int), (1 : Int))]).length ≤ 4096 * n + (i + 1) from ⟨hsp.out.1.snoc hBl (by have := hBb.out; omega), by have := hsp.out.2; rw [List.length_append]; simp only [List.length_singleton]; omega⟩)
                      have hln2 := aside (show (pre ++ [(p, q)]).length = M by have := hln.out; omega)
                      replace hfin3 := aside hfin3
                      go_wp2
                      go_quiet (fail)
                      have s2 := s'.drewN nq
                      generalize World.drewN _ nq = w2 at s2 ⊢
                      clear s' c1 c2 hsp
                      go_wp2_with (at_builtin; refine appendSp rfl (.tmp 106) (.tmp 109) rfl rfl own (s2.alloc (c := [.int .u64 (B : Int), .int .u64 1]) (t := 48)) rfl (B : Int) 1 row_span (by have := hKb.out; have := hln2.out; have := hM.out; omega) ?_; intro v3 w3 h3 own3 s3)
                      go_roundg (gk - 1)
                      case measure => exact hq2.out.2
                      case rel => exact ⟨i + 1, _, h3, hq2.out.1, by go_num, own3, hsp3, hfin3, s3.wk⟩
            · obtain rfl : i = 4096 := by omega
              have hfin2 := hfin.out
              rw [show 4096 - 4096 + 4096 * (N - (n + 1)) = 4096 * (N - (n + 1)) by omega, show 2147483648 + 4096 * (n : Int) + ((4096 : Nat) : Int) = 2147483648 + 4096 * ((n + 1 : Nat) : Int) by omega] at hfin2
              have hsp2 := aside (show spIn 2147483648 (2147483648 + S) out ∧ out.length ≤ 4096 * (n + 1) from ⟨hsp.out.1, by have := hsp.out.2; omega⟩)
              have hq2 := aside (show ko - 1 + (n + 1) = N ∧ ko - 1 < ko by have := hq.out; omega)
              replace hfin2 := aside hfin2
              clear hfin hsp hqi
              go_wp2
              go_roundg (ko - 1)
              case measure => exact hq2.out.2
              case rel => exact ⟨n + 1, out, h, hq2.out.1, by go_num, own, hsp2, hfin2, s'⟩
    · obtain rfl : n = N := by omega
      have hfin2 := hfin.out
      rw [Nat.sub_self, Nat.mul_zero] at hfin2
      have hF : out = FIN := hfin2
      replace hF := aside hF
      replace hfin2 := aside hfin2
      clear hfin c2 c3 ho1 ho2 c1 hq
      go_wp2
      exact k _ _ h (by rw [← hF.out]; exact own) s'
end
end Go.Proofs.Ytiibiamobkhlbaa
