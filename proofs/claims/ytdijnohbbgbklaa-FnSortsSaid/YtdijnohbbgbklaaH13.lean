/- Regions that draw their order: all orders. -/
import Derived.Test.YtdijnohbbgbklaaH12
namespace Go.Proofs.Ytdijnohbbgbklaa.AM
open Go
set_option linter.unusedVariables false
set_option linter.unusedSimpArgs false

section
variable {P : Program} {A H : List Tmp} {G : Nat → Option Tmp}

theorem WOps_tail {ox : Oper × Bool} {R R' : List (Oper × Bool)} {K : Fr → St → Prop} (hR : ∀ fr st, WOps P A H G R K fr st → WOps P A H G R' K fr st) {fr : Fr} {st : St} (h : WOps P A H G (ox :: R) K fr st) : WOps P A H G (ox :: R') K fr st := by
  obtain ⟨o, x⟩ := ox
  unfold WOps at h ⊢
  split at h
  · exact h.elim
  · exact hR _ _ h
  · split at h
    · obtain ⟨g, h1, h2, h3⟩ := h
      exact ⟨g, h1, h2, h3.mono fun r st' ⟨q1, q2⟩ => ⟨q1, hR _ _ q2⟩⟩
    · split at h
      · exact hR _ _ h
      · exact h.elim

def Sw (A H : List Tmp) (ops : Array Oper) (a x : Oper × Bool) : Prop :=
  a.1.apart ops x.1 = true ∧ (isPure a.1.op = true
      ∨ isRd a.1.op = true ∧ (isPure x.1.op = true ∨ isRd x.1.op = true ∨ isAllocL A H x.1 = true ∨ isMake x.1.op = true ∨ (callOf x.1.op).isSome = true ∧ x.2 = true)
      ∨ isAllocL A H a.1 = true ∧ (isPure x.1.op = true ∨ isRd x.1.op = true ∨ isAllocL A H x.1 = true ∨ (callOf x.1.op).isSome = true))

theorem hop {ops : Array Oper} (hG : ∀ j, G j = (ops[j]?).bind (·.dst)) {x : Oper × Bool} {rest : List (Oper × Bool)} {K : Fr → St → Prop} : ∀ (As : List (Oper × Bool)), (∀ a ∈ As, Sw A H ops a x) → ∀ fr st, WOps P A H G (As ++ x :: rest) K fr st → WOps P A H G (x :: (As ++ rest)) K fr st := by
  intro As
  induction As with
  | nil => intro _ fr st h; exact h
  | cons a As ih =>
    intro hs fr st h
    have h1 : WOps P A H G (a :: x :: (As ++ rest)) K fr st := WOps_tail (ih fun b hb => hs b (by simp [hb])) h
    obtain ⟨s1, s4⟩ := hs a (by simp)
    exact WOps_swapG hG s1 s4 h1

theorem swapOk_spec {l : List Oper} {p q : Nat × Bool} {a x : Oper} (ha : l[p.1]? = some a) (hx : l[q.1]? = some x) (h : swapOk A H l p q = true) : Sw A H l.toArray (a, p.2) (x, q.2) := by
  unfold swapOk at h
  rw [ha, hx] at h
  simp only [Bool.and_eq_true, Bool.or_eq_true] at h
  obtain ⟨h1, h4⟩ := h
  refine ⟨h1, ?_⟩
  rcases h4 with (h | h) | h
  · exact .inl h
  · exact .inr (.inl ⟨h.1, by rcases h.2 with (((h | h) | h) | h) | h <;> simp [h]⟩)
  · exact .inr (.inr ⟨h.1, by rcases h.2 with ((h | h) | h) | h <;> simp [h]⟩)

theorem pairsOk_spec {l : List Oper} {T : List (List Nat)} : ∀ {π : List (Nat × Bool)}, pairsOk A H l T π = true → ∀ (X : List (Nat × Bool)) (q : Nat × Bool) (Y : List (Nat × Bool)), π = X ++ q :: Y → ∀ p ∈ X, p.1 ∈ T.getD q.1 [] ∨ swapOk A H l p q = true := by
  intro π
  induction π with
  | nil => intro _ X q Y e; cases X <;> cases e
  | cons r π ih =>
    intro h X q Y e p hp
    simp only [pairsOk, Bool.and_eq_true] at h
    cases X with
    | nil => cases hp
    | cons r' X =>
      injection e with e1 e2
      subst e1
      cases hp with
      | head =>
        have := List.all_eq_true.1 h.1 q (by rw [e2]; simp)
        simpa [Bool.or_eq_true] using this
      | tail _ hp => exact ih h.2 X q Y e2 p hp

theorem topoOk_spec {l : List Oper} : ∀ {π : List (Nat × Bool)} {seen : List Nat}, topoOk l seen π = true → ∀ (X : List (Nat × Bool)) (q : Nat × Bool) (Y : List (Nat × Bool)), π = X ++ q :: Y → ∀ d ∈ deps l q.1, d ∈ seen ∨ ∃ p ∈ X, p.1 = d := by
  intro π
  induction π with
  | nil => intro seen _ X q Y e; cases X <;> cases e
  | cons r π ih =>
    intro seen h X q Y e d hd
    simp only [topoOk, Bool.and_eq_true] at h
    cases X with
    | nil =>
      injection e with e1 e2
      subst e1
      have := List.all_eq_true.1 h.1 d hd
      exact .inl (by simpa using this)
    | cons r' X =>
      injection e with e1 e2
      subst e1
      rcases ih h.2 X q Y e2 d hd with h1 | ⟨p, hp, rfl⟩
      · cases h1 with
        | head => exact .inr ⟨r, by simp, rfl⟩
        | tail _ h1 => exact .inl h1
      · exact .inr ⟨p, by simp [hp], rfl⟩

theorem tab_closed {l : List Oper} {T : List (List Nat)} (h : tabOk l T = true) (S : Nat → Prop) (hS : ∀ i, i < l.length → S i → ∀ d ∈ deps l i, S d) : ∀ i, i < l.length → (∀ d ∈ deps l i, S d) → ∀ a ∈ T.getD i [], S a := by
  intro i
  induction i using Nat.strongRecOn with
  | _ i ih =>
    intro hi hd a ha
    unfold tabOk at h
    have h1 := List.all_eq_true.1 h i (by simpa using hi)
    have h2 := List.all_eq_true.1 h1 a ha
    simp only [Bool.or_eq_true, List.any_eq_true, Bool.and_eq_true, decide_eq_true_eq] at h2
    rcases h2 with h2 | ⟨d, hdm, hlt, hta⟩
    · exact hd a (by simpa using h2)
    · have hlt' : d < l.length := by omega
      exact ih d hlt hlt' (hS d hlt' (hd d hdm)) a (by simpa using hta)

def rem (π : List (Nat × Bool)) (listed : Array Bool) : List (Nat × Bool) := π.filter fun p => !listed.getD p.1 true

theorem pickOps_app {l : List Oper} {X Y : List (Nat × Bool)} : pickOps l (X ++ Y) = pickOps l X ++ pickOps l Y := by simp [pickOps]
theorem pickOps_cons {l : List Oper} {p : Nat × Bool} {Y : List (Nat × Bool)} {o : Oper} (h : l[p.1]? = some o) : pickOps l (p :: Y) = (o, p.2) :: pickOps l Y := by simp [pickOps, h]
theorem mem_pickOps {l : List Oper} {X : List (Nat × Bool)} {ox : Oper × Bool} (h : ox ∈ pickOps l X) : ∃ p ∈ X, l[p.1]? = some ox.1 ∧ p.2 = ox.2 := by
  simp only [pickOps, List.mem_filterMap, Option.map_eq_some_iff] at h
  obtain ⟨p, hp, o, ho, rfl⟩ := h
  exact ⟨p, hp, ho, rfl⟩

theorem mem_ready {l : List Oper} {listed : Array Bool} {i : Nat} : i ∈ Region.ready .any l.toArray listed ↔ i < l.length ∧ listed.getD i true = false ∧ ∀ d ∈ deps l i, listed.getD d false = true := by
  unfold Region.ready deps
  simp only [List.mem_filter, List.mem_range, List.size_toArray, Bool.and_eq_true, Bool.not_eq_true']
  constructor
  · rintro ⟨h1, h2, h3⟩
    refine ⟨h1, h2, ?_⟩
    simp only [List.getElem?_toArray, List.getElem?_eq_getElem h1, Option.map_some, Option.getD_some] at h3 ⊢
    intro d hd
    simp only [List.mem_map, List.mem_filter] at hd
    obtain ⟨e, ⟨he, hb⟩, rfl⟩ := hd
    have := (Array.all_eq_true'.1 h3) e (by simpa using he)
    simpa [hb] using this
  · rintro ⟨h1, h2, h3⟩
    refine ⟨h1, h2, ?_⟩
    simp only [List.getElem?_toArray, List.getElem?_eq_getElem h1, Option.map_some, Option.getD_some] at h3 ⊢
    rw [Array.all_eq_true']
    intro e he
    cases hb : Region.binds .any e with
    | false => simp
    | true =>
      have := h3 e.on (by simp only [List.mem_map, List.mem_filter]; exact ⟨e, ⟨by simpa using he, hb⟩, rfl⟩)
      simp [this]

theorem nodupB_spec : ∀ {l : List Nat}, nodupB l = true → l.Nodup := by
  intro l
  induction l with
  | nil => intro _; exact List.nodup_nil
  | cons x xs ih =>
    intro h
    simp only [nodupB, Bool.and_eq_true, Bool.not_eq_true'] at h
    exact List.nodup_cons.2 ⟨fun hm => by have := h.1; simp [hm] at this, ih h.2⟩

theorem mem_rem {π : List (Nat × Bool)} {listed : Array Bool} {p : Nat × Bool} : p ∈ rem π listed ↔ p ∈ π ∧ listed.getD p.1 true = false := by
  unfold rem
  rw [List.mem_filter]
  simp only [Bool.not_eq_true']
theorem rem_split {listed : Array Bool} : ∀ {π : List (Nat × Bool)}, rem π listed ≠ [] → ∃ X q Y, π = X ++ q :: Y ∧ (∀ p ∈ X, listed.getD p.1 true = true) ∧ listed.getD q.1 true = false := by
  intro π
  induction π with
  | nil => intro h; exact absurd rfl h
  | cons p π ih =>
    intro h
    cases hp : listed.getD p.1 true with
    | false => exact ⟨[], p, π, rfl, (fun _ h => nomatch h), hp⟩
    | true =>
      have : rem π listed ≠ [] := by
        have e : rem (p :: π) listed = rem π listed := by unfold rem; rw [List.filter_cons, hp]; rfl
        rwa [e] at h
      obtain ⟨X, q, Y, e, h1, h2⟩ := ih this
      refine ⟨p :: X, q, Y, by rw [e]; rfl, fun r hr => ?_, h2⟩
      cases hr with
      | head => exact hp
      | tail _ hr => exact h1 r hr
theorem getD_lt {listed : Array Bool} {i : Nat} (h : i < listed.size) (b c : Bool) : listed.getD i b = listed.getD i c := by simp [Array.getD, h]

theorem wpAny_sound' {n : Nat} {B : Base} {l : List Oper} {π : List (Nat × Bool)} (hc : chkD A H l π = true) (hd : ∀ o ∈ l, ∀ t, o.dst = some t → t < n)
    (hG : ∀ j, G j = (l.toArray[j]?).bind (·.dst)) {K : Fr → St → Prop} {Q : Exit → Act → World → Prop}
    (hQ : ∀ fr' st' M' L' a' w', K fr' st' → Rel P B M' L' n fr' st' a' w' → Q .normal a' w') :
    ∀ (fuel : Nat) (listed : Array Bool) (fr : Fr) (st : St) (M : List ME) (L : Nat → Nat) (a : Act) (w : World), listed.size = l.length → (rem π listed).length = fuel → (∀ i, i < l.length → listed.getD i false = true → ∀ d ∈ deps l i, listed.getD d false = true) →
      Rel P B M L n fr st a w → WOps P A H G (pickOps l (rem π listed)) K fr st → wpAny P .any l.toArray Q fuel listed a w := by
  unfold chkD at hc
  simp only [Bool.and_eq_true] at hc
  obtain ⟨⟨⟨⟨⟨c1, c2⟩, c3⟩, c4⟩, c5⟩, c6⟩ := hc
  have cover : ∀ i, i < l.length → ∃ p ∈ π, p.1 = i := by
    intro i hi
    have := List.all_eq_true.1 c2 i (by simpa using hi)
    simpa using this
  have inl : ∀ p ∈ π, p.1 < l.length := fun p hp => by have := List.all_eq_true.1 c3 p hp; simpa using this
  intro fuel
  induction fuel with
  | zero =>
    intro listed fr st M L a w hsz hlen hcl R h
    have hrem : rem π listed = [] := List.eq_nil_of_length_eq_zero hlen
    refine ⟨?_, ?_⟩
    · apply List.eq_nil_iff_forall_not_mem.2
      intro i hi
      obtain ⟨h1, h2, h3⟩ := mem_ready.1 hi
      obtain ⟨p, hp, rfl⟩ := cover i h1
      have : p ∈ rem π listed := mem_rem.2 ⟨hp, h2⟩
      rw [hrem] at this
      cases this
    · rw [hrem] at h
      exact hQ _ _ _ _ _ _ h R
  | succ fuel ih =>
    intro listed fr st M L a w hsz hlen hcl R h
    refine ⟨fun hr => ?_, fun i hi => ?_⟩
    · -- something is ready
      exfalso
      have hex := rem_split (π := π) (listed := listed) (by intro e; rw [e] at hlen; cases hlen)
      obtain ⟨X, q, Y, e, h1, h2⟩ := hex
      have hq : q.1 < l.length := inl q (by rw [e]; simp)
      have : q.1 ∈ Region.ready .any l.toArray listed := by
        refine mem_ready.2 ⟨hq, h2, fun d hd => ?_⟩
        rcases topoOk_spec c5 X q Y e d hd with hd | ⟨p, hp, rfl⟩
        · cases hd
        · have h3 := h1 p hp
          have hp' : p.1 < listed.size := by rw [hsz]; exact inl p (by rw [e]; simp [hp])
          rw [getD_lt hp' false true]; exact h3
      rw [hr] at this
      cases this
    · obtain ⟨h1, h2, h3⟩ := mem_ready.1 hi
      have hex : ∃ X q Y, rem π listed = X ++ q :: Y ∧ q.1 = i ∧ ∃ X' Y', π = X' ++ q :: Y' ∧ (∀ p ∈ X, p ∈ X') := by
        obtain ⟨q, hq, rfl⟩ := cover i h1
        obtain ⟨X', Y', e⟩ := List.append_of_mem hq
        refine ⟨rem X' listed, q, rem Y' listed, ?_, rfl, X', Y', e, fun p hp => (List.mem_filter.1 hp).1⟩
        rw [e]
        unfold rem
        rw [List.filter_append, List.filter_cons, h2]
        rfl
      obtain ⟨X, q, Y, e, rfl, X', Y', e', hX⟩ := hex
      obtain ⟨o, ho⟩ : ∃ o, l[q.1]? = some o := ⟨_, List.getElem?_eq_getElem h1⟩
      have hop' := hop (P := P) (G := G) (K := K) (ops := l.toArray) (x := (o, q.2)) (rest := pickOps l Y) hG (pickOps l X) (fun ax hax => by
        obtain ⟨p, hp, hpo, hpx⟩ := mem_pickOps hax
        have hsw : swapOk A H l p q = true := by
          rcases pairsOk_spec c6 X' q Y' e' p (hX p hp) with ht | hs
          · exfalso
            have hlisted := tab_closed c4 (fun i => listed.getD i false = true) hcl q.1 h1 h3 p.1 ht
            have hmem : p ∈ rem π listed := by rw [e]; simp [hp]
            have := (mem_rem.1 hmem).2
            have hp' : p.1 < listed.size := by rw [hsz]; exact (List.getElem?_eq_some_iff.1 hpo).1
            rw [getD_lt hp' true false] at this
            exact absurd (hlisted.symm.trans this) (by simp)
          · exact hs
        have := swapOk_spec hpo ho hsw
        obtain ⟨a1, a2⟩ := ax
        simp only at hpx
        rw [hpx] at this
        exact this) fr st (by rw [e, pickOps_app, pickOps_cons ho] at h; exact h)
      have hstep := step_sound (Q := Q) R hG (hd o (List.mem_of_getElem? ho)) hop' (K' := wpAny P .any l.toArray Q fuel (listed.setIfInBounds q.1 true)) fun fr' st' M' L' a' w' h' R' => by
        have hq' : q.1 < listed.size := by rw [hsz]; exact h1
        have hgetD : ∀ (j : Nat) (b : Bool), j < listed.size → (listed.setIfInBounds q.1 true).getD j b = if j = q.1 then true else listed.getD j b := by
          intro j b hj
          simp only [Array.getD_eq_getD_getElem?, Array.getElem?_setIfInBounds]
          by_cases e : j = q.1
          · subst e; simp [hj]
          · simp [e, Ne.symm e]
        have hrem' : ∀ Z : List (Nat × Bool), (∀ p ∈ Z, p.1 < l.length) → rem Z (listed.setIfInBounds q.1 true) = (rem Z listed).filter fun p => p.1 != q.1 := by
          intro Z hZ
          unfold rem
          rw [List.filter_filter]
          apply List.filter_congr
          intro p hp
          rw [hgetD p.1 true (by rw [hsz]; exact hZ p hp)]
          by_cases e : p.1 = q.1
          · simp [e]
          · simp [e]
        -- the places in π are apart
        have hnd : (π.map (·.1)).Nodup := nodupB_spec c1.2
        have hXY : rem π (listed.setIfInBounds q.1 true) = X ++ Y := by
          rw [hrem' π inl, e]
          have hnd2 : ((X ++ q :: Y).map (·.1)).Nodup := by
            rw [← e]
            exact hnd.sublist (List.Sublist.map _ List.filter_sublist)
          rw [List.map_append, List.map_cons] at hnd2
          have hni := List.nodup_append.1 hnd2
          rw [List.filter_append, List.filter_cons]
          simp only [bne_self_eq_false, Bool.false_eq_true, if_false]
          congr 1
          · apply List.filter_eq_self.2
            intro p hp
            have : p.1 ≠ q.1 := fun e => hni.2.2 p.1 (List.mem_map.2 ⟨p, hp, rfl⟩) q.1 (by simp) e
            simpa using this
          · apply List.filter_eq_self.2
            intro p hp
            have : p.1 ≠ q.1 := fun e => (List.nodup_cons.1 hni.2.1).1 (e ▸ List.mem_map.2 ⟨p, hp, rfl⟩)
            simpa using this
        refine ih (listed.setIfInBounds q.1 true) fr' st' M' L' a' w' (by simpa using hsz) ?_ ?_ R' ?_
        · rw [hXY]
          rw [e] at hlen
          simp only [List.length_append, List.length_cons] at hlen ⊢
          omega
        · intro j hj hjl d hdj
          have hdl : d < listed.size ∨ listed.size ≤ d := by omega
          have base : listed.getD d false = true := by
            rw [hgetD j false (by rw [hsz]; exact hj)] at hjl
            split at hjl
            · rename_i ej; subst ej; exact h3 d hdj
            · exact hcl j hj hjl d hdj
          rcases hdl with hdl | hdl
          · rw [hgetD d false hdl]
            by_cases ed : d = q.1
            · rw [if_pos ed]
            · rw [if_neg ed]; exact base
          · simp [Array.getD, Nat.not_lt.2 hdl] at base
        · rw [hXY, pickOps_app]; exact h'
      unfold wpOp
      have ho' : l.toArray[q.1]? = some o := by simpa using ho
      rw [ho']
      simp only
      split at hstep
      · rename_i hw; rw [if_pos hw]; exact .inl hstep
      · rename_i hw; rw [if_neg hw]; exact hstep

/-- A region that draws its order, walked in one order. -/
theorem W_regionD {n id : Nat} {Q : Ex → Fr → St → Prop} {fr : Fr} {st : St} (hm : P.follows .mixedOrders = true) {l : List Oper} (A : List Tmp) (π : List (Nat × Bool)) (hd : dstsLt n l = true) (hc : chkD A H l π = true)
    (h : ∀ G : Nat → Option Tmp, (∀ j, G j = (l[j]?).bind (·.dst)) → WOps P A H G (pickOps l π) (Q .normal) fr st) : W P H n (.region id l.toArray true) Q fr st := by
  intro B M L a w R
  refine wp_region_any hm ?_
  have hrem : rem π (Array.replicate l.length false) = π := by
    apply List.filter_eq_self.2
    intro p hp
    have hp' : p.1 < l.length := by
      unfold chkD at hc
      simp only [Bool.and_eq_true] at hc
      have := List.all_eq_true.1 hc.1.1.1.2 p hp
      simpa using this
    simp [Array.getD, hp']
  have hlen : π.length = l.length := by
    unfold chkD at hc
    simp only [Bool.and_eq_true] at hc
    simpa using hc.1.1.1.1.1.1
  refine wpAny_sound' (G := fun j => (l[j]?).bind (·.dst)) hc (dstsLt_of hd) (fun j => by simp) (Q := fun e a' w' => ∃ x fr' st' M' L', e = Ex.to x ∧ Q x fr' st' ∧ Rel P B M' L' n fr' st' a' w')
    (fun fr' st' M' L' a' w' hK R' => ⟨.normal, fr', st', M', L', rfl, hK, R'⟩) l.toArray.size (Array.replicate l.toArray.size false) fr st M L a _ (by simp) (by simp only [List.size_toArray]; rw [hrem, hlen]) ?_ R.drewAt ?_
  · intro i hi hli
    simp [Array.getD, hi] at hli
  · simp only [List.size_toArray]; rw [hrem]; exact h _ fun _ => rfl

end
end Go.Proofs.Ytdijnohbbgbklaa.AM
