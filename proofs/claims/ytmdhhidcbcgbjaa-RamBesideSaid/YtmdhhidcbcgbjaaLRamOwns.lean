/-
  RamOwns returns true for every data and every place; no condition.
-/
import Derived.Test.YtmdhhidcbcgbjaaVs
import Derived.Test.YtmdhhidcbcgbjaaVc
namespace Go.Proofs.Ytmdhhidcbcgbjaa
open Go.RowKit
set_option linter.unusedVariables false

theorem rdB_putB (m : Int → Int) (a : Int) (bs : List Int) : rdB (putB m a bs) a bs.length = bs := by
  apply List.ext_getElem?
  intro i
  rcases Nat.lt_or_ge i bs.length with h | h
  · rw [rdB_get _ _ _ _ h]
    unfold putB
    rw [if_pos (by omega)]
    have : (a + (i : Int) - a).toNat = i := by omega
    rw [this, List.getElem?_eq_getElem h]; rfl
  · rw [List.getElem?_eq_none (by rw [rdB_len]; exact h), List.getElem?_eq_none h]

/-- a row whose first n cells are bytes -/
def ByteRow (n : Nat) (us : List Value) : Prop := n ≤ us.length ∧ ∀ i, i < n → ∃ x, us[i]? = some (.int .u8 x)
theorem ByteRow.of (ds : List Int) (sp : List Value) : ByteRow ds.length (ds.map (.int .u8) ++ sp) := by
  refine ⟨by simp, fun i hi => ⟨ds[i], ?_⟩⟩
  rw [List.getElem?_append_left (by simpa using hi)]
  simp [hi]
theorem ByteRow.set {n : Nat} {us : List Value} (h : ByteRow n us) (i : Nat) (x : Int) : ByteRow n (us.set i (.int .u8 x)) := by
  refine ⟨by rw [List.length_set]; exact h.1, fun j hj => ?_⟩
  by_cases e : i = j
  · subst e
    exact ⟨x, by rw [List.getElem?_set_self (by have := h.1; omega)]⟩
  · rw [List.getElem?_set_ne e]; exact h.2 j hj

theorem OwnS.cell0 {n : Nat} {ds : List Int} {A : Option Addr} {cap : Nat} {h : Hp} (own : OwnS 1 (.slice A n cap) n (ds.map (.int .u8)) h) (hn : 0 < n) : n = ds.length ∧ ∃ B ob sp, A = some ⟨B, ob, none⟩ ∧ h = cellsH ⟨B, ob, none⟩ (ds.map (.int .u8) ++ sp) := by
  obtain ⟨A', c', sp, hv, h1, h2, h3, h4, h5, h6⟩ := own
  injection hv with e1 e2 e3
  subst e1 e3
  obtain ⟨B, ob, rfl⟩ := h5 (by omega)
  exact ⟨by simpa using h3.symm, B, ob, sp, rfl, h6⟩

set_option maxRecDepth 100000 in
set_option maxHeartbeats 4000000 in
theorem law_RamOwns (W : World) {v0 v1 : Value} {ds : List Int} {a : Int} (e0 : sliceE u8E 1 (look W) ds [v0]) (e1 : u64E (look W) a [v1]) :
    Calls Try.prog 14 #[v0, v1] W fun e w' => e = .returned (.bool true) ∧ Below W.heap.size W w' := by
  obtain ⟨h1, a1, b1⟩ := e1
  obtain rfl : v1 = _ := List.cons.inj h1 |>.1
  clear h1
  obtain ⟨_, hv0, e0⟩ := e0
  obtain rfl := (List.cons.inj hv0).1
  clear hv0
  obtain ⟨D, dc, rfl, rd⟩ := e0.open_
  have hbd := rd.bytes
  obtain ⟨_, hc, hc2, g⟩ := rd.u8
  clear g e0
  by_cases hlong : ds.length ≤ 100
  · have hlen : (ds.length : Int) ≤ 100 := by omega
    go_enter Try.func14, Try.ntmps14
    go_wp2_with fail
    refine c_ramAwake (Sat.start W) ?_; intro w1 s1
    go_wp2_with fail
    refine c_ramNew2 s1 _ (by omega) ?_; intro w2 b r hz hm s2
    have hr2 := (rd.row s2.ro)
    replace hz := aside hz
    replace hm := aside hm
    clear s1
    go_wp2_with (at_builtin; refine append8 rfl (.tmp 33) (.tmp 34) rfl rfl (OwnS.zero 1 _) (s2.alloc (c := []) (t := 5)).emp rfl (ds.take ds.length) (by simp) (rowR_old hr2 _ _) (by omega) ?_; intro A3 cap3 w3 h3 o3 s3)
    have o3' : OwnS 1 (.slice A3 ds.length cap3) ds.length (ds.map (.int .u8)) h3 := by simpa using o3
    clear o3 s2
    refine c_ramWrite s3 a ⟨a1, b1⟩ (o3'.rd hbd) (fun _ s => s.head) ?_ ?_
    · intro _
      go_wp2
      go_ret
      exact ⟨rfl, s3.below⟩
    intro hh w4 r4 l4 hm4 hz4 hl4 s4
    have hm5 : rdB r4.mem a ds.length = ds := by rw [hm4]; exact rdB_putB _ _ _
    have hh4 : r4.has a ds.length := by unfold RamG.has at hh ⊢; rw [hz4]; exact hh
    have s5 : Sat W w4 (look W) (h3 :: (ramL ⟨b, 0, none⟩ (r4, l4) ++ [])) := s4.wk
    obtain ⟨A3', c3', sp3, hv, q1, q2, q3, q4, hA3, hrow⟩ := id o3'
    injection hv with ea eb ec
    subst ea ec
    have br := ByteRow.of ds sp3
    rw [hrow] at s5
    generalize ds.map (.int .u8) ++ sp3 = us at br s5
    clear s3 s4 hz hm hm4 hz4 hl4 hrow hr2 hh o3'
    go_wp2
    have s9 := s5
    clear s5
    go_loopg [8] ds.length (fun q v8 w' => ∃ (i : Nat) (us : List Value), q + i = ds.length ∧ v8 = .int .i64 i ∧ ByteRow ds.length us ∧ Sat W w' (look W) (rowH A3 us :: (ramL ⟨b, 0, none⟩ (r4, l4) ++ [])))
    case atStart => exact ⟨0, us, by simp, rfl, br, s9⟩
    clear br s9 us
    case round =>
      obtain ⟨i, us, hq, rfl, br, s'⟩ := hrel
      by_cases hi : i < ds.length
      · obtain ⟨B, ob, rfl⟩ := hA3 (by omega)
        obtain ⟨x, hx⟩ := br.2 i hi
        have hlu : i < us.length := by have := br.1; omega
        have cc := Sat.c (vs := us) s' i hx
        go_wp2
        go_roundg (gk - 1)
        case measure => omega
        case rel => exact ⟨i + 1, _, by omega, by go_num, br.set i _, Sat.s (vs := us) s' i hlu _⟩
      · obtain rfl : i = ds.length := by omega
        have h63 : IntKind.u64.wrap (ds.length : Int) = ds.length := by rw [wrap_u64]; omega
        go_wp2_with fail
        refine c_ramRead s' a (ds.length : Int) ⟨a1, b1⟩ (by omega) (fun h => absurd hh4 h) ?_
        intro _ w5 v5 h5 l5 o5 _ s5
        rw [Int.toNat_natCast, hm5] at o5
        go_wp2_with fail
        refine c_Bytes s5.head s5.ro (o5.rd hbd) rd ?_
        intro n5
        rw [decide_eq_true rfl]
        have s6 := s5.drewN n5
        generalize World.drewN w5 n5 = w6 at s6
        clear s5 s' br
        obtain ⟨A5, c5, sp5, rfl, p1, p2, p3, p4, hA5, hrow5⟩ := id o5
        have br := ByteRow.of ds sp5
        rw [hrow5] at s6
        generalize ds.map (.int .u8) ++ sp5 = us at br s6
        clear hrow5 o5
        go_wp2
        have s9 : Sat W w6 (look W) (rowH A5 us :: (ramL ⟨b, 0, none⟩ (r4, l5) ++ [])) := s6.wk
        clear s6
        go_loopg [11] ds.length (fun q v11 w' => ∃ (i : Nat) (us : List Value), q + i = ds.length ∧ v11 = .int .i64 i ∧ ByteRow ds.length us ∧ Sat W w' (look W) (rowH A5 us :: (ramL ⟨b, 0, none⟩ (r4, l5) ++ [])))
        case atStart => exact ⟨0, us, by simp, rfl, br, s9⟩
        clear br s9 us
        case round =>
          obtain ⟨i, us, hq, rfl, br, s'⟩ := hrel
          by_cases hi : i < ds.length
          · obtain ⟨B, ob, rfl⟩ := hA5 (by omega)
            obtain ⟨x, hx⟩ := br.2 i hi
            have hlu : i < us.length := by have := br.1; omega
            have cc := Sat.c (vs := us) s' i hx
            go_wp2
            go_roundg (gk - 1)
            case measure => omega
            case rel => exact ⟨i + 1, _, by omega, by go_num, br.set i _, Sat.s (vs := us) s' i hlu _⟩
          · have hi2 : i = ds.length := by omega
            subst hi2
            go_wp2_with fail
            refine c_ramRead s' a (ds.length : Int) ⟨a1, b1⟩ (by omega) (fun h => absurd hh4 h) ?_
            intro _ w7 v7 h7 l7 o7 _ s7
            rw [Int.toNat_natCast, hm5] at o7
            go_wp2_with fail
            refine c_Bytes s7.head s7.ro (o7.rd hbd) rd ?_
            intro n7
            rw [decide_eq_true rfl]
            have s8 := s7.drewN n7
            generalize World.drewN w7 n7 = w8 at s8
            go_wp2
            go_ret
            exact ⟨rfl, s8.below⟩
  · have hlen : 100 < (ds.length : Int) := by omega
    go_enter Try.func14, Try.ntmps14
    go_wp2_with fail
    refine c_ramAwake (Sat.start W) ?_; intro w1 s1
    go_wp2_with fail
    refine c_ramNew2 s1 _ (by omega) ?_; intro w2 b r hz hm s2
    go_wp2
    go_ret
    exact ⟨rfl, s2.below⟩
end Go.Proofs.Ytmdhhidcbcgbjaa
