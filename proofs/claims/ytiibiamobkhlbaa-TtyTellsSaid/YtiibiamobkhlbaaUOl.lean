/-
  REGIONS THAT STORE WHAT THEY HAVE LOADED: a condition S on the world that is to hold only till one of the operations 'fin' (the last stores) comes up; a load that each of these waits for may be taken first. Plain theorems over any program.
-/
import Derived.Test.YtiibiamobkhlbaaG1
import Derived.Deep.RegionHeld
set_option linter.unusedVariables false
set_option linter.unusedSimpArgs false
namespace Go.Proofs.Ytiibiamobkhlbaa
set_option linter.unusedVariables false
set_option linter.unusedSimpArgs false

section
variable {P : Program} {ops : Array Oper} {Q : Exit → Act → World → Prop} {md : Region.Mode} {S : World → Prop} {fin : List Nat}

/-- none of 'fin' has come up -/
def liveL (fin : List Nat) (L : Array Bool) : Prop := ∀ z ∈ fin, L.getD z true = false

def wpAnyL (P : Program) (md : Region.Mode) (ops : Array Oper) (Q : Exit → Act → World → Prop) (fin : List Nat) (S : World → Prop) : Nat → Array Bool → Act → World → Prop
  | 0, listed, a, w => Region.ready md ops listed = [] ∧ Q .normal a w
  | fuel + 1, listed, a, w =>
    (Region.ready md ops listed = [] → Q .normal a w) ∧
    ∀ i ∈ Region.ready md ops listed, wpOp P ops Q i (fun a' w' => (liveL fin (listed.setIfInBounds i true) → S w') ∧ wpAnyL P md ops Q fin S fuel (listed.setIfInBounds i true) a' w') a w

theorem wpAny_of_L : ∀ (fuel : Nat) (listed : Array Bool) (a : Act) (w : World), wpAnyL P md ops Q fin S fuel listed a w → wpAny P md ops Q fuel listed a w
  | 0, _, _, _, h => h
  | fuel + 1, _, _, _, h => ⟨h.1, fun i hi => wpOp_mono (fun a' w' h' => wpAny_of_L fuel _ a' w' h'.2) (h.2 i hi)⟩

/-- z waits for i, over at most n others -/
def waitsB (md : Region.Mode) (ops : Array Oper) (i : Nat) : Nat → Nat → Bool
  | 0, _ => false
  | n + 1, z => match ops[z]? with
    | none => false
    | some o => o.after.toList.any fun e => Region.binds md e && (e.on == i || waitsB md ops i n e.on)
/-- what is listed waits for nothing that isn't -/
def Closed (md : Region.Mode) (ops : Array Oper) (L : Array Bool) : Prop :=
  ∀ j o, ops[j]? = some o → L.getD j true = true → ∀ e ∈ o.after, Region.binds md e = true → L.getD e.on false = true
def closedB (md : Region.Mode) (ops : Array Oper) (L : Array Bool) : Bool :=
  (List.range ops.size).all fun j => match ops[j]? with
    | none => true
    | some o => !L.getD j true || o.after.toList.all fun e => !Region.binds md e || L.getD e.on false
theorem closed_of {L : Array Bool} (h : closedB md ops L = true) : Closed md ops L := by
  intro j o ho hl e he hb
  unfold closedB at h
  rw [List.all_eq_true] at h
  have h1 := h j (List.mem_range.2 (Array.getElem?_eq_some_iff.1 ho).1)
  simp only [ho, hl, Bool.not_true, Bool.false_or] at h1
  rw [List.all_eq_true] at h1
  have h2 := h1 e (Array.mem_toList_iff.2 he)
  simpa [hb] using h2
theorem getD_tf {L : Array Bool} {i : Nat} (h : L.getD i false = true) : L.getD i true = true := by
  rcases Nat.lt_or_ge i L.size with h' | h'
  · simp [h'] at h ⊢; exact h
  · simp [Array.getElem?_eq_none h'] at h
theorem waits_un {i : Nat} {L : Array Bool} (hc : Closed md ops L) (hi : L.getD i true = false) : ∀ (n z : Nat), waitsB md ops i n z = true → L.getD z true = false ∧ z ∉ Region.ready md ops L
  | 0, z, h => by cases h
  | n + 1, z, h => by
    unfold waitsB at h
    cases ho : ops[z]? with
    | none => rw [ho] at h; cases h
    | some o =>
      rw [ho] at h
      simp only [List.any_eq_true, Bool.and_eq_true, Bool.or_eq_true, beq_iff_eq] at h
      obtain ⟨e, he, hb, h⟩ := h
      have hno : L.getD e.on false ≠ true := fun hn => by
        have ht := getD_tf hn
        rcases h with h | h
        · rw [h] at ht; rw [ht] at hi; cases hi
        · rw [(waits_un hc hi n e.on h).1] at ht; cases ht
      have he' : e ∈ o.after := Array.mem_toList_iff.1 he
      constructor
      · cases hz : L.getD z true with
        | false => rfl
        | true => exact absurd (hc z o ho hz e he' hb) hno
      · intro hr
        obtain ⟨_, o', ho', hall⟩ := mem_ready.1 hr
        rw [ho] at ho'
        obtain rfl := Option.some.inj ho'
        exact hno (hall e he' hb)
theorem Closed.up {L : Array Bool} {j : Nat} (hc : Closed md ops L) (hr : j ∈ Region.ready md ops L) : Closed md ops (L.setIfInBounds j true) := by
  intro k o ho hl e he hb
  by_cases hjk : j = k
  · subst hjk
    obtain ⟨_, o', ho', hall⟩ := mem_ready.1 hr
    rw [ho] at ho'
    obtain rfl := Option.some.inj ho'
    exact getD_set_true (hall e he hb)
  · rw [getD_set_ne true hjk] at hl
    exact getD_set_true (hc k o ho hl e he hb)

/-- what is taken first: T holds wherever it may stand -/
theorem wpAnyL_first {i : Nat} {oi : Oper} {v : Value} {T : World → Prop} (hi : ops[i]? = some oi) (hsel : ∀ (j : Nat) (o : Oper) cs b, ops[j]? = some o → o.op ≠ .select cs b)
    (hQ : ∀ c a w, Q (.panic c) (a.put oi.dst v) w → Q (.panic c) a w) (hfi : i ∉ fin) (hT : (∀ w, T w) ∨ ((∀ w, S w → T w) ∧ ∀ z ∈ fin, ∃ n, waitsB md ops i n z = true)) :
    ∀ (fuel : Nat) (listed : Array Bool) (a : Act) (w : World), Closed md ops listed →
      (∀ j oj, ops[j]? = some oj → j ≠ i → listed.getD j true = false → (∀ e ∈ oj.after, Region.binds md e = true → e.on ≠ i) → oi.apart ops oj = true) →
      i ∈ Region.ready md ops listed → YieldsIf P ops T oi v a → T w →
      wpAnyL P md ops Q fin S fuel (listed.setIfInBounds i true) (a.put oi.dst v) w → (liveL fin (listed.setIfInBounds i true) → S w) → wpAnyL P md ops Q fin S (fuel + 1) listed a w := by
  intro fuel
  induction fuel with
  | zero =>
    intro listed a w hc _ hr hy hS H hSw
    refine ⟨fun h => (by rw [h] at hr; cases hr), fun j hj => ?_⟩
    by_cases hji : j = i
    · subst hji; exact hy.wpOp hi hS ⟨hSw, H⟩
    · have := ready_mono hj hji
      rw [H.1] at this
      cases this
  | succ fuel ih =>
    intro listed a w hc hfree hr hy hS H hSw
    refine ⟨fun h => (by rw [h] at hr; cases hr), fun j hj => ?_⟩
    by_cases hji : j = i
    · subst hji; exact hy.wpOp hi hS ⟨hSw, H⟩
    · have h1 := H.2 j (ready_mono hj hji)
      obtain ⟨hjun, oj, hoj, hall⟩ := mem_ready.1 hj
      have hnot : ∀ e ∈ oj.after, Region.binds md e = true → e.on ≠ i := fun e he hb heq => by
        have h1 := hall e he hb
        have h0 := (mem_ready.1 hr).1
        rw [heq] at h1
        rcases Nat.lt_or_ge i listed.size with h' | h'
        · simp [h'] at h0 h1; rw [h0] at h1; cases h1
        · simp [Array.getElem?_eq_none h'] at h1
      have h2 := wpOp_putIf hoj (hfree j oj hoj hji hjun hnot) (fun cs b => hsel i oi cs b hi) (fun cs b => hsel j oj cs b hoj) hQ hy h1
      have hfree' : ∀ k ok, ops[k]? = some ok → k ≠ i → (listed.setIfInBounds j true).getD k true = false →
          (∀ e ∈ ok.after, Region.binds md e = true → e.on ≠ i) → oi.apart ops ok = true := fun k ok hk hki hun hno => by
        refine hfree k ok hk hki ?_ hno
        by_cases hjk : j = k
        · subst hjk; exact hjun
        · rw [getD_set_ne true hjk] at hun; exact hun
      have hcj := hc.up hj
      have hi0 : (listed.setIfInBounds j true).getD i true = false := by rw [getD_set_ne true hji]; exact (mem_ready.1 hr).1
      have hlive : ((∀ w, T w) ∨ ((∀ w, S w → T w) ∧ liveL fin ((listed.setIfInBounds i true).setIfInBounds j true))) := hT.imp id fun h => ⟨h.1, fun z hz => by
        obtain ⟨n, hn⟩ := h.2 z hz
        have hzj : j ≠ z := fun e => (waits_un hc (mem_ready.1 hr).1 n z hn).2 (e ▸ hj)
        have hz0 := (waits_un hcj hi0 n z hn).1
        have hzi : i ≠ z := fun e => (waits_un hc (mem_ready.1 hr).1 n z hn).2 (e ▸ hr)
        rw [getD_set_ne true hzj, getD_set_ne true hzi]
        rwa [getD_set_ne true hzj] at hz0⟩
      refine wpOp_mono (fun a' w' h3 => ⟨fun hl => ?_, ih (listed.setIfInBounds j true) a' w' hcj hfree' (ready_mono hr (Ne.symm hji)) h3.1 (hlive.elim (fun h => h w') fun h => h.1 w' (h3.2.1 h.2)) ?_ fun hl => ?_⟩) h2
      · refine h3.2.1 fun z hz => ?_
        have hzi : i ≠ z := fun e => hfi (e ▸ hz)
        have h5 := hl z hz
        by_cases hzj : j = z
        · subst hzj
          have hlt : j < listed.size := by
            rcases Nat.lt_or_ge j listed.size with h' | h'
            · exact h'
            · simp [Array.getElem?_eq_none h'] at hjun
          simp [hlt] at h5
        · rw [getD_set_ne true hzj] at h5
          rw [getD_set_ne true hzj, getD_set_ne true hzi]
          exact h5
      · rw [Array.setIfInBounds_comm _ _ hji]
        exact h3.2.2
      · rw [Array.setIfInBounds_comm _ _ hji] at hl
        exact h3.2.1 hl

/-- a pure operation is taken first -/
theorem wpAnyL_pure {i : Nat} {oi : Oper} {v : Value} {fuel : Nat} {listed : Array Bool} {a : Act} {w : World} (hi : ops[i]? = some oi)
    (hs : Region.noSelect ops = true) (hf : Region.free md ops listed i = true) (hr : (Region.ready md ops listed).contains i = true) (hc : closedB md ops listed = true) (hfi : fin.contains i = false)
    (hQ : ∀ c a w, Q (.panic c) (a.put oi.dst v) w → Q (.panic c) a w) (hy : YieldsIf P ops (fun _ => True) oi v a) (hS : liveL fin (listed.setIfInBounds i true) → S w)
    (h : wpAnyL P md ops Q fin S fuel (listed.setIfInBounds i true) (a.put oi.dst v) w) : wpAnyL P md ops Q fin S (fuel + 1) listed a w :=
  wpAnyL_first (T := fun _ => True) hi (Region.noSelect_spec hs) hQ (by simpa using hfi) (.inl fun _ => trivial) fuel listed a w (closed_of hc) (Region.free_spec hi hf) (by simpa using hr) hy trivial h hS
/-- a load is taken first, for which all of 'fin' wait -/
theorem wpAnyL_load {i : Nat} {oi : Oper} {v : Value} {fuel : Nat} {listed : Array Bool} {a : Act} {w : World} (hi : ops[i]? = some oi)
    (hs : Region.noSelect ops = true) (hf : Region.free md ops listed i = true) (hr : (Region.ready md ops listed).contains i = true) (hc : closedB md ops listed = true) (hfi : fin.contains i = false) (hw : (fin.all fun z => waitsB md ops i ops.size z) = true)
    (hQ : ∀ c a w, Q (.panic c) (a.put oi.dst v) w → Q (.panic c) a w) (hS : S w) (hy : YieldsIf P ops S oi v a)
    (h : wpAnyL P md ops Q fin S fuel (listed.setIfInBounds i true) (a.put oi.dst v) w) : wpAnyL P md ops Q fin S (fuel + 1) listed a w :=
  wpAnyL_first (T := S) hi (Region.noSelect_spec hs) hQ (by simpa using hfi) (.inr ⟨fun _ h => h, fun z hz => ⟨ops.size, List.all_eq_true.1 hw z hz⟩⟩) fuel listed a w (closed_of hc) (Region.free_spec hi hf) (by simpa using hr) hy hS h (fun _ => hS)

theorem dead_L {P : Prop} {L : Array Bool} (hb : (fin.any fun z => L.getD z true) = true) : liveL fin L → P := fun h => by
  obtain ⟨z, hz, hl⟩ := List.any_eq_true.1 hb
  rw [h z hz] at hl
  cases hl
/-- what comes up is carried out: behind it S, as long as none of 'fin' has come up -/
def AllReadyL (P : Program) (md : Region.Mode) (ops : Array Oper) (Q : Exit → Act → World → Prop) (fin : List Nat) (S : World → Prop) (fuel : Nat) (listed : Array Bool) (a : Act) (w : World) (rs : List Nat) : Prop :=
  ∀ i ∈ rs, wpOp P ops Q i (fun a' w' => (liveL fin (listed.setIfInBounds i true) → S w') ∧ wpAnyL P md ops Q fin S fuel (listed.setIfInBounds i true) a' w') a w
theorem AllReadyL.nil {fuel : Nat} {listed : Array Bool} {a : Act} {w : World} : AllReadyL P md ops Q fin S fuel listed a w [] := fun _ h => by cases h
theorem AllReadyL.cons {fuel : Nat} {listed : Array Bool} {a : Act} {w : World} {i : Nat} {o : Oper} {rs : List Nat} (ho : ops[i]? = some o)
    (h : ∀ K' : Act → World → Prop, Shut (∀ a w, S w → (S w → wpAnyL P md ops Q fin S fuel (listed.setIfInBounds i true) a w) → K' a w) → if Region.wanted o (yielded ops a.tmps) = true then Oper.wp P o a w K' Q else K' (a.put o.dst undef) w)
    (hs : AllReadyL P md ops Q fin S fuel listed a w rs) : AllReadyL P md ops Q fin S fuel listed a w (i :: rs) := fun j hj => by
  rcases List.mem_cons.1 hj with rfl | hj
  · exact wpOp_step ho (fun K' hK => h K' (fun a w hS hW => hK a w ⟨fun _ => hS, hW hS⟩))
  · exact hs j hj
/-- one of 'fin' comes up: from here on nothing is asked of the world -/
theorem AllReadyL.last {fuel : Nat} {listed : Array Bool} {a : Act} {w : World} {i : Nat} {o : Oper} {rs : List Nat} (ho : ops[i]? = some o) (hfi : fin.contains i = true)
    (h : ∀ K' : Act → World → Prop, Shut (∀ a w, wpAnyL P md ops Q fin S fuel (listed.setIfInBounds i true) a w → K' a w) → if Region.wanted o (yielded ops a.tmps) = true then Oper.wp P o a w K' Q else K' (a.put o.dst undef) w)
    (hlt : decide (i < listed.size) = true) (hs : AllReadyL P md ops Q fin S fuel listed a w rs) : AllReadyL P md ops Q fin S fuel listed a w (i :: rs) := fun j hj => by
  rcases List.mem_cons.1 hj with rfl | hj
  · refine wpOp_step ho (fun K' hK => h K' (fun a w hW => hK a w ⟨fun hl => ?_, hW⟩))
    have := hl j (by simpa using hfi)
    have hlt := of_decide_eq_true hlt
    simp [hlt] at this
  · exact hs j hj
theorem wpAnyL_ready {rs : List Nat} {fuel : Nat} {listed : Array Bool} {a : Act} {w : World} (hr : Region.ready md ops listed = rs) (hne : rs ≠ [])
    (h : AllReadyL P md ops Q fin S fuel listed a w rs) : wpAnyL P md ops Q fin S (fuel + 1) listed a w :=
  ⟨fun h0 => absurd (hr ▸ h0) hne, hr ▸ h⟩
theorem wpAnyL_done {listed : Array Bool} {a : Act} {w : World} (hr : Region.ready md ops listed = []) (h : Q .normal a w) : ∀ fuel, wpAnyL P md ops Q fin S fuel listed a w
  | 0 => ⟨hr, h⟩
  | _ + 1 => ⟨fun _ => h, by rw [hr]; simp⟩
theorem wp_region_L (fin : List Nat) (S : World → Prop) {id : Nat} {a : Act} {w : World} (hm : P.follows .mixedOrders = true) (hS : S w.drew)
    (h : S w.drew → wpAnyL P .any ops Q fin S ops.size (Array.replicate ops.size false) a w.drew) : (Code.region id ops true).wp P Q a w :=
  wp_region_any hm (wpAny_of_L _ _ _ _ (h hS))
end
/-- append as an operation that comes up -/
theorem wp_append {P : Program} {o : Oper} {a : Act} {K : Act → World → Prop} {Q : Exit → Act → World → Prop} {W0 w : World} {H : Hp} {F : List Hp}
    (sx xx : Operand) (t u e : TypeId) (hop : o.op = .call { callee := .builtin .append, args := #[sx, xx], argTypes := #[t, u] })
    (i : TypeInfo) (z : Value) (size bytes : Nat) (ht : P.underlying t = some (.slice e)) (hu : P.underlying u = some (.slice e)) (hi : P.info? e = some i) (hz : i.zero = some z)
    (hsize : i.size = size) (hby : i.bytes = bytes) (hzs : z.cells.size = size) (hsz : 0 < size)
    {v : Value} {n : Nat} {vs : List Value} {h : Hp} (own : OwnS size v n vs h) (s : Sat W0 w H (h :: F)) (hv : a.eval sx = v) {X : Option Addr} {m c : Nat} {us : List Value} (hx : a.eval xx = .slice X m c) (hl : us.length = m * size) (hus : RowR w X us)
    (h1 : ∀ x ∈ us, x.oneCell' = true) (h63 : n + m ≤ 9223372036854775807) (hb : (n + m) * bytes ≤ 140737488355328)
    (k : ∀ A' cap' w' h', OwnS size (.slice A' (n + m) cap') (n + m) (vs ++ us) h' → Sat W0 w' H (h' :: F) → K (a.put o.dst (.slice A' (n + m) cap')) w') : Oper.wp P o a w K Q := by
  obtain ⟨v', w', h', hr, ho, hs⟩ := run_append_sat (P := P) t u o.type e i z size bytes ht hu hi hz hsize hby hzs hsz own s X m c us hl hus h1 h63 hb
  obtain ⟨A', cap', sp', rfl, ho'⟩ := id ho
  have he : (execOp a.eval o).run P w = .ok (.value (.slice A' (n + m) cap')) w' := by
    unfold execOp
    rw [hop]
    simp only [resolve, invoke]
    simp [builtin, hv, hx, hr]
  unfold Oper.wp
  rw [he]
  exact k A' cap' w' h' ho hs
end Go.Proofs.Ytiibiamobkhlbaa
