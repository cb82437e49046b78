/- My texts for the law, laid together (part 2): A19 C3 C4 C1 PL3 Q5 D8 A21 O14 D9. -/
import Derived.Test.YtdijnohbbgbklaaG1
import Derived.Test.YtdijnohbbgbklaaH18
/- Regions that draw their order, walked in several orders; some pairs change places by what is known where they stand. -/
namespace Go.Proofs.Ytdijnohbbgbklaa.AM
open Go
set_option linter.unusedVariables false
set_option linter.unusedSimpArgs false

/-- What is known goes on over an operation. -/
def Keeps (P : Program) (A H : List Tmp) (G : Nat → Option Tmp) (I : Fr → St → Prop) (a : Oper × Bool) : Prop := ∀ (R : List (Oper × Bool)) (K : Fr → St → Prop) (fr : Fr) (st : St), I fr st → WOps P A H G (a :: R) K fr st → WOps P A H G [a] (fun fr st => I fr st ∧ WOps P A H G R K fr st) fr st
/-- Two operations change places, by what is known. -/
def SwI (P : Program) (A H : List Tmp) (G : Nat → Option Tmp) (I : Fr → St → Prop) (a x : Oper × Bool) : Prop := ∀ (R : List (Oper × Bool)) (K : Fr → St → Prop) (fr : Fr) (st : St), I fr st → WOps P A H G (a :: x :: R) K fr st → WOps P A H G (x :: a :: R) K fr st
theorem WOps_unhead {P : Program} {A H : List Tmp} {G : Nat → Option Tmp} {ox : Oper × Bool} {R : List (Oper × Bool)} {K : Fr → St → Prop} {fr : Fr} {st : St} (h : WOps P A H G [ox] (fun fr st => WOps P A H G R K fr st) fr st) : WOps P A H G (ox :: R) K fr st := by
 obtain ⟨o, x⟩ := ox
 unfold WOps at h ⊢
 exact h
theorem hopI {P : Program} {A H : List Tmp} {G : Nat → Option Tmp} {I : Fr → St → Prop} {x : Oper × Bool} {rest : List (Oper × Bool)} {K : Fr → St → Prop} : ∀ (As : List (Oper × Bool)), (∀ a ∈ As, SwI P A H G I a x ∧ Keeps P A H G I a) → ∀ fr st, I fr st → WOps P A H G (As ++ x :: rest) K fr st → WOps P A H G (x :: (As ++ rest)) K fr st := by
 intro As
 induction As with
 | nil => intro _ fr st _ h; exact h
 | cons a As ih =>
  intro hs fr st hI h
  refine (hs a (by simp)).1 _ _ _ _ hI (WOps_unhead ?_)
  exact ((hs a (by simp)).2 _ _ _ _ hI h).mono fun fr st ⟨h1, h2⟩ => ih (fun b hb => hs b (by simp [hb])) fr st h1 h2
def swapOkL (SP : List (Nat × Nat)) (A H : List Tmp) (l : List Oper) (p q : Nat × Bool) : Bool := swapOk A H l p q || SP.contains (p.1, q.1)
/-- Pairs of operations whose order counts. -/
def exmL (SP : List (Nat × Nat)) (A H : List Tmp) (l : List Oper) (T : List (List Nat)) : List (Nat × Bool) → List (Nat × Nat)
 | [] => []
 | p :: rest => ((rest.filter fun q => !((T.getD q.1 []).contains p.1 || swapOkL SP A H l p q)).map fun q => (p.1, q.1)) ++ exmL SP A H l T rest
def keepOL (SP : List (Nat × Nat)) (A H : List Tmp) (l : List Oper) (done : List Nat) (x : Nat) (π : List (Nat × Bool)) : Bool := (exmL SP A H l (ancT l) π).all fun pq => pq.2 != x || done.contains pq.1
/-- Whatever is drawn, one of the orders goes with it. -/
def gameL (SP : List (Nat × Nat)) (A H : List Tmp) (l : List Oper) (E : List Nat) : Nat → List (List (Nat × Bool)) → List Nat → Bool
 | 0, act, done => !act.isEmpty && E.all fun e => done.contains e
 | k + 1, act, done => !act.isEmpty && E.all fun e => done.contains e || !(((ancT l).getD e []).filter E.contains).all (done.contains ·) || gameL SP A H l E k (goOn l e (act.filter (keepOL SP A H l done e))) (e :: done)
def inEL (SP : List (Nat × Nat)) (A H : List Tmp) (l : List Oper) (E : List Nat) (π : List (Nat × Bool)) : Bool := (exmL SP A H l (ancT l) π).all fun pq => E.contains pq.1 && E.contains pq.2
def chkML (SP : List (Nat × Nat)) (A H : List Tmp) (l : List Oper) (E : List Nat) (PS : List (List (Nat × Bool))) : Bool :=
 tabOk l (ancT l) && (List.range l.length).all (fun i => E.contains i || !((l[i]?).bind fun o => callOf o.op).isSome) && PS.all (fun π => chk1 l π && inEL SP A H l E π) && gameL SP A H l E E.length PS []

theorem exm_specL {SP : List (Nat × Nat)} {A H : List Tmp} {l : List Oper} {T : List (List Nat)} : ∀ {π : List (Nat × Bool)} (X : List (Nat × Bool)) (q : Nat × Bool) (Y : List (Nat × Bool)), π = X ++ q :: Y → ∀ p ∈ X, p.1 ∈ T.getD q.1 [] ∨ swapOkL SP A H l p q = true ∨ (p.1, q.1) ∈ exmL SP A H l T π := by
 intro π
 induction π with
 | nil => intro X q Y e; cases X <;> cases e
 | cons r π ih =>
  intro X q Y e p hp
  cases X with
  | nil => cases hp
  | cons r' X =>
   injection e with e1 e2
   subst e1
   cases hp with
   | head =>
    cases hb : ((T.getD q.1 []).contains r.1 || swapOkL SP A H l r q) with
    | true =>
     rcases Bool.or_eq_true_iff.1 hb with h | h
     ·exact .inl (by simpa using h)
     ·exact .inr (.inl h)
    | false =>
     refine .inr (.inr ?_)
     simp only [exmL]
     refine List.mem_append_left _ (List.mem_map.2 ⟨q, List.mem_filter.2 ⟨by rw [e2]; simp, by rw [hb]; rfl⟩, rfl⟩)
   | tail _ hp =>
    rcases ih X q Y e2 p hp with h | h | h
    ·exact .inl h
    ·exact .inr (.inl h)
    ·exact .inr (.inr (by simp only [exmL]; exact List.mem_append_right _ h))

section
variable {P : Program} {A H : List Tmp} {G : Nat → Option Tmp}
theorem wpAny_soundML {I : Fr → St → Prop} {SP : List (Nat × Nat)} {n : Nat} {B : Base} {l : List Oper} {E : List Nat} (hKeep : ∀ o ∈ l, ∀ x, Keeps P A H G I (o, x)) (hSP : ∀ p q a x, (p, q) ∈ SP → l[p]? = some a → l[q]? = some x → ∀ fp fq, SwI P A H G I (a, fp) (x, fq)) (ctab : tabOk l (ancT l) = true) (ccall : ∀ i o, l[i]? = some o → i ∉ E → callOf o.op = none) (hd : ∀ o ∈ l, ∀ t, o.dst = some t → t < n)
  (hG : ∀ j, G j = (l.toArray[j]?).bind (·.dst)) {K : Fr → St → Prop} {Q : Exit → Act → World → Prop}
  (hQ : ∀ fr' st' M' L' a' w', K fr' st' → Rel P B M' L' n fr' st' a' w' → Q .normal a' w') :
  ∀ (fuel k : Nat) (act : List (List (Nat × Bool))) (done : List Nat) (listed : Array Bool) (fr : Fr) (st : St) (M : List ME) (L : Nat → Nat) (a : Act) (w : World), (∀ π ∈ act, chk1 l π = true ∧ inEL SP A H l E π = true) → gameL SP A H l E k act done = true → (∀ e ∈ E, e ∈ done ↔ listed.getD e false = true) →
   listed.size = l.length → (∀ π ∈ act, (rem π listed).length = fuel) → (∀ i, i < l.length → listed.getD i false = true → ∀ d ∈ deps l i, listed.getD d false = true) →
   Rel P B M L n fr st a w → I fr st → (∀ π ∈ act, WOps P A H G (pickOps l (rem π listed)) K fr st) → wpAny P .any l.toArray Q fuel listed a w := by
 intro fuel
 induction fuel with
 | zero =>
  intro k act done listed fr st M L a w hchk hgame hdone hsz hlen hcl R hI h
  obtain ⟨π, hπ⟩ : ∃ π, π ∈ act := by
   cases act with
   | nil => cases k <;> simp [gameL] at hgame
   | cons π _ => exact ⟨π, by simp⟩
  have hc := (hchk π hπ).1
  unfold chk1 at hc
  simp only [Bool.and_eq_true] at hc
  obtain ⟨⟨⟨c1, c2⟩, c3⟩, c5⟩ := hc
  have cover : ∀ i, i < l.length → ∃ p ∈ π, p.1 = i := by
   intro i hi
   have := List.all_eq_true.1 c2 i (by simpa using hi)
   simpa using this
  have hrem : rem π listed = [] := List.eq_nil_of_length_eq_zero (hlen π hπ)
  refine ⟨?_, ?_⟩
  ·apply List.eq_nil_iff_forall_not_mem.2
   intro i hi
   obtain ⟨h1, h2, h3⟩ := mem_ready.1 hi
   obtain ⟨p, hp, rfl⟩ := cover i h1
   have : p ∈ rem π listed := mem_rem.2 ⟨hp, h2⟩
   rw [hrem] at this
   cases this
  ·have := h π hπ
   rw [hrem] at this
   exact hQ _ _ _ _ _ _ this R
 | succ fuel ih =>
  intro k act done listed fr st M L a w hchk hgame hdone hsz hlen hcl R hI h
  refine ⟨fun hr => ?_, fun i hi => ?_⟩
  ·-- something is ready
   exfalso
   obtain ⟨π, hπ⟩ : ∃ π, π ∈ act := by
    cases act with
    | nil => cases k <;> simp [gameL] at hgame
    | cons π _ => exact ⟨π, by simp⟩
   have hc := (hchk π hπ).1
   unfold chk1 at hc
   simp only [Bool.and_eq_true] at hc
   obtain ⟨⟨⟨c1, c2⟩, c3⟩, c5⟩ := hc
   have inl : ∀ p ∈ π, p.1 < l.length := fun p hp => by have := List.all_eq_true.1 c3 p hp; simpa using this
   have hlen := hlen π hπ
   have hex := rem_split (π := π) (listed := listed) (by intro e; rw [e] at hlen; cases hlen)
   obtain ⟨X, q, Y, e, h1, h2⟩ := hex
   have hq : q.1 < l.length := inl q (by rw [e]; simp)
   have : q.1 ∈ Region.ready .any l.toArray listed := by
    refine mem_ready.2 ⟨hq, h2, fun d hd => ?_⟩
    rcases topoOk_spec c5 X q Y e d hd with hd | ⟨p, hp, rfl⟩
    ·cases hd
    ·have h3 := h1 p hp
     have hp' : p.1 < listed.size := by rw [hsz]; exact inl p (by rw [e]; simp [hp])
     rw [getD_lt hp' false true]; exact h3
   rw [hr] at this
   cases this
  ·obtain ⟨h1, h2, h3⟩ := mem_ready.1 hi
   obtain ⟨o, ho⟩ : ∃ o, l[i]? = some o := ⟨_, List.getElem?_eq_getElem h1⟩
   have hq' : i < listed.size := by rw [hsz]; exact h1
   -- the orders that go on, and the gameL that goes on
   obtain ⟨k', act', done', hact, hgame', hone, hdone', hkeep⟩ : ∃ k' act' done', (∀ π ∈ act', π ∈ act) ∧ gameL SP A H l E k' act' done' = true ∧ (callOf o.op = none ∨ ∃ π, act' = [π]) ∧ (∀ e ∈ E, e ∈ done' ↔ (e = i ∨ listed.getD e false = true)) ∧ ∀ π ∈ act', ∀ p, (p, i) ∈ exmL SP A H l (ancT l) π → listed.getD p false = true := by
    by_cases hE : i ∈ E
    ·have hnd : i ∉ done := fun hh => by
      have := (hdone i hE).1 hh
      rw [getD_lt hq' false true] at this
      rw [h2] at this; cases this
     cases k with
     | zero =>
      exfalso
      simp only [gameL, Bool.and_eq_true] at hgame
      have := List.all_eq_true.1 hgame.2 i hE
      exact hnd (by simpa using this)
     | succ k =>
      simp only [gameL, Bool.and_eq_true] at hgame
      have h4 := List.all_eq_true.1 hgame.2 i hE
      simp only [Bool.or_eq_true, Bool.not_eq_true'] at h4
      have h5 : gameL SP A H l E k (goOn l i (act.filter (keepOL SP A H l done i))) (i :: done) = true := by
       rcases h4 with (h4 | h4) | h4
       ·exact absurd (by simpa using h4) hnd
       ·exfalso
        have h6 : (((ancT l).getD i []).filter E.contains).all (done.contains ·) = true := by
         refine List.all_eq_true.2 fun d hdm => ?_
         obtain ⟨hd1, hd2⟩ := List.mem_filter.1 hdm
         have hl2 := tab_closed ctab (fun j => listed.getD j false = true) hcl i h1 h3 d hd1
         have := (hdone d (by simpa using hd2)).2 hl2
         simpa using this
        rw [h6] at h4
        cases h4
       ·exact h4
      refine ⟨k, _, _, fun π hπ => (List.mem_filter.1 (goOn_sub π hπ)).1, h5, ?_, fun e he => ?_, fun π hπ p hp => ?_⟩
      ·cases hcl2 : callOf o.op with
       | none => exact .inl rfl
       | some c =>
        refine .inr ?_
        have hgo : goOn l i (act.filter (keepOL SP A H l done i)) = (act.filter (keepOL SP A H l done i)).take 1 := by unfold goOn; rw [ho]; simp [hcl2]
        rw [hgo]
        rw [hgo] at h5
        cases hf : act.filter (keepOL SP A H l done i) with
        | nil => rw [hf] at h5; cases k <;> simp [gameL] at h5
        | cons π _ => exact ⟨π, rfl⟩
      ·rw [List.mem_cons, hdone e he]
      ·have hπ := goOn_sub π hπ
       have h6 := (List.mem_filter.1 hπ).2
       unfold keepOL at h6
       have h7 := List.all_eq_true.1 h6 _ hp
       simp only [bne_self_eq_false, Bool.false_or] at h7
       have hpE : p ∈ E := by
        have := (hchk π (List.mem_filter.1 hπ).1).2
        unfold inEL at this
        have := List.all_eq_true.1 this _ hp
        simp only [Bool.and_eq_true] at this
        simpa using this.1
       exact (hdone p hpE).1 (by simpa using h7)
    ·refine ⟨k, act, done, fun _ h => h, hgame, .inl (ccall i o ho hE), fun e he => ⟨fun hh => .inr ((hdone e he).1 hh), fun hh => ?_⟩, fun π hπ p hp => ?_⟩
     ·rcases hh with rfl | hh
      ·exact absurd he hE
      ·exact (hdone e he).2 hh
     ·exfalso
      have := (hchk π hπ).2
      unfold inEL at this
      have := List.all_eq_true.1 this _ hp
      simp only [Bool.and_eq_true] at this
      exact hE (by simpa using this.2)
   have hgetD : ∀ (j : Nat) (b : Bool), j < listed.size → (listed.setIfInBounds i true).getD j b = if j = i then true else listed.getD j b := by
    intro j b hj
    simp only [Array.getD_eq_getD_getElem?, Array.getElem?_setIfInBounds]
    by_cases e : j = i
    ·subst e; simp [hj]
    ·simp [e, Ne.symm e]
   -- one step, for each order
   have hall : ∀ π ∈ act', ∃ x R', rem π (listed.setIfInBounds i true) = R' ∧ R'.length = fuel ∧ WOps P A H G ((o, x) :: pickOps l R') K fr st := by
    intro π hπ'
    have hπ := hact π hπ'
    have hc := (hchk π hπ).1
    unfold chk1 at hc
    simp only [Bool.and_eq_true] at hc
    obtain ⟨⟨⟨c1, c2⟩, c3⟩, c5⟩ := hc
    have cover : ∀ i, i < l.length → ∃ p ∈ π, p.1 = i := by
     intro i hi
     have := List.all_eq_true.1 c2 i (by simpa using hi)
     simpa using this
    have inl : ∀ p ∈ π, p.1 < l.length := fun p hp => by have := List.all_eq_true.1 c3 p hp; simpa using this
    have hlen := hlen π hπ
    have h := h π hπ
    have hex : ∃ X q Y, rem π listed = X ++ q :: Y ∧ q.1 = i ∧ ∃ X' Y', π = X' ++ q :: Y' ∧ (∀ p ∈ X, p ∈ X') := by
     obtain ⟨q, hq, rfl⟩ := cover i h1
     obtain ⟨X', Y', e⟩ := List.append_of_mem hq
     refine ⟨rem X' listed, q, rem Y' listed, ?_, rfl, X', Y', e, fun p hp => (List.mem_filter.1 hp).1⟩
     rw [e]
     unfold rem
     rw [List.filter_append, List.filter_cons, h2]
     rfl
    obtain ⟨X, q, Y, e, rfl, X', Y', e', hX⟩ := hex
    have hop' := hopI (P := P) (A := A) (H := H) (G := G) (I := I) (K := K) (x := (o, q.2)) (rest := pickOps l Y) (pickOps l X) (fun ax hax => by
     obtain ⟨p, hp, hpo, hpx⟩ := mem_pickOps hax
     have hno : listed.getD p.1 false ≠ true := fun hl2 => by
      have hmem : p ∈ rem π listed := by rw [e]; simp [hp]
      have := (mem_rem.1 hmem).2
      have hp' : p.1 < listed.size := by rw [hsz]; exact (List.getElem?_eq_some_iff.1 hpo).1
      rw [getD_lt hp' true false] at this
      exact absurd (hl2.symm.trans this) (by simp)
     have hsw : swapOkL SP A H l p q = true := by
      rcases exm_specL (SP := SP) (A := A) (H := H) (l := l) (T := ancT l) X' q Y' e' p (hX p hp) with ht | hs | hx
      ·exact absurd (tab_closed ctab (fun i => listed.getD i false = true) hcl q.1 h1 h3 p.1 ht) hno
      ·exact hs
      ·exact absurd (hkeep π hπ' p.1 hx) hno
     obtain ⟨a1, a2⟩ := ax
     simp only at hpx hpo
     refine ⟨?_, hKeep a1 (List.mem_of_getElem? hpo) a2⟩
     unfold swapOkL at hsw
     rcases Bool.or_eq_true_iff.1 hsw with hs | hs
     ·have := swapOk_spec hpo ho hs
      rw [hpx] at this
      exact fun R K fr st _ h => hop (ops := l.toArray) (x := (o, q.2)) (rest := R) hG [(a1, a2)] (fun c hc => by rw [List.mem_singleton.1 hc]; exact this) fr st h
     ·exact hSP p.1 q.1 a1 o (by simpa using hs) hpo ho a2 q.2) fr st hI (by rw [e, pickOps_app, pickOps_cons ho] at h; exact h)
    have hrem' : ∀ Z : List (Nat × Bool), (∀ p ∈ Z, p.1 < l.length) → rem Z (listed.setIfInBounds q.1 true) = (rem Z listed).filter fun p => p.1 != q.1 := by
     intro Z hZ
     unfold rem
     rw [List.filter_filter]
     apply List.filter_congr
     intro p hp
     rw [hgetD p.1 true (by rw [hsz]; exact hZ p hp)]
     by_cases e : p.1 = q.1
     ·simp [e]
     ·simp [e]
    have hnd : (π.map (·.1)).Nodup := nodupB_spec c1.2
    have hXY : rem π (listed.setIfInBounds q.1 true) = X ++ Y := by
     rw [hrem' π inl, e]
     have hnd2 : ((X ++ q :: Y).map (·.1)).Nodup := by
      rw [← e]
      exact hnd.sublist (List.Sublist.map _ List.filter_sublist)
     rw [List.map_append, List.map_cons] at hnd2
     have hni := List.nodup_append.1 hnd2
     rw [List.filter_append, List.filter_cons]
     simp only [bne_self_eq_false, Bool.false_eq_true, if_false]
     congr 1
     ·apply List.filter_eq_self.2
      intro p hp
      have : p.1 ≠ q.1 := fun e => hni.2.2 p.1 (List.mem_map.2 ⟨p, hp, rfl⟩) q.1 (by simp) e
      simpa using this
     ·apply List.filter_eq_self.2
      intro p hp
      have : p.1 ≠ q.1 := fun e => (List.nodup_cons.1 hni.2.1).1 (e ▸ List.mem_map.2 ⟨p, hp, rfl⟩)
      simpa using this
    refine ⟨q.2, X ++ Y, hXY, ?_, by rw [pickOps_app]; exact hop'⟩
    rw [e] at hlen
    simp only [List.length_append, List.length_cons] at hlen ⊢
    omega
   obtain ⟨π0, hπ0⟩ : ∃ π, π ∈ act' := by
    cases act' with
    | nil => cases k' <;> simp [gameL] at hgame'
    | cons π _ => exact ⟨π, by simp⟩
   have hone2 : ∃ x, WOps P A H G [(o, x)] (fun fr st => ∀ π ∈ act', WOps P A H G (pickOps l (rem π (listed.setIfInBounds i true))) K fr st) fr st := by
    rcases hone with hn | ⟨π, rfl⟩
    ·refine ⟨false, WOps_conj hn ⟨π0, hπ0⟩ fun π hπ => ?_⟩
     obtain ⟨x, R', h4, _, h5⟩ := hall π hπ
     exact ⟨x, by rw [h4]; exact WOps_head h5⟩
    ·obtain ⟨x, R', h4, _, h5⟩ := hall π (by simp)
     refine ⟨x, (WOps_head h5).mono fun fr st hq π' hπ' => ?_⟩
     obtain rfl := List.mem_singleton.1 hπ'
     rw [h4]; exact hq
   obtain ⟨x, hw1⟩ := hone2
   have hw2 := hKeep o (List.mem_of_getElem? ho) x [] _ fr st hI hw1
   have hstep := step_sound (Q := Q) R hG (hd o (List.mem_of_getElem? ho)) hw2 (K' := wpAny P .any l.toArray Q fuel (listed.setIfInBounds i true)) fun fr' st' M' L' a' w' h' R' => by
    obtain ⟨hI', h'⟩ := h'
    rw [w_nil] at h'
    refine ih k' act' done' (listed.setIfInBounds i true) fr' st' M' L' a' w' (fun π hπ => hchk π (hact π hπ)) hgame' (fun e he => ?_) (by simpa using hsz) (fun π hπ => ?_) ?_ R' hI' h'
    ·rw [hdone' e he]
     by_cases hel : e < listed.size
     ·rw [hgetD e false hel]
      by_cases ee : e = i
      ·simp [ee]
      ·simp [ee]
     ·have h6 : e ≠ i := by omega
      simp [h6, Array.getD, hel]
    ·obtain ⟨x, R', h4, h5, _⟩ := hall π hπ
     rw [h4]; exact h5
    ·intro j hj hjl d hdj
     have hdl : d < listed.size ∨ listed.size ≤ d := by omega
     have base : listed.getD d false = true := by
      rw [hgetD j false (by rw [hsz]; exact hj)] at hjl
      split at hjl
      ·rename_i ej; subst ej; exact h3 d hdj
      ·exact hcl j hj hjl d hdj
     rcases hdl with hdl | hdl
     ·rw [hgetD d false hdl]
      by_cases ed : d = i
      ·rw [if_pos ed]
      ·rw [if_neg ed]; exact base
     ·simp [Array.getD, Nat.not_lt.2 hdl] at base
   unfold wpOp
   have ho' : l.toArray[i]? = some o := by simpa using ho
   rw [ho']
   simp only
   split at hstep
   ·rename_i hw; rw [if_pos hw]; exact .inl hstep
   ·rename_i hw; rw [if_neg hw]; exact hstep

/-- A region that draws its order, walked in several orders. -/
theorem W_regionML {I : Fr → St → Prop} {n id : Nat} {Q : Ex → Fr → St → Prop} {fr : Fr} {st : St} (hm : P.follows .mixedOrders = true) {l : List Oper} (SP : List (Nat × Nat)) (A : List Tmp) (E : List Nat) (PS : List (List (Nat × Bool))) (hd : dstsLt n l = true) (hc : chkML SP A H l E PS = true) (hI : I fr st)
  (hKeep : ∀ G, (∀ j, G j = (l[j]?).bind (·.dst)) → ∀ o ∈ l, ∀ x, Keeps P A H G I (o, x)) (hSP : ∀ G, (∀ j, G j = (l[j]?).bind (·.dst)) → ∀ p q a x, (p, q) ∈ SP → l[p]? = some a → l[q]? = some x → ∀ fp fq, SwI P A H G I (a, fp) (x, fq))
  (h : ∀ G : Nat → Option Tmp, (∀ j, G j = (l[j]?).bind (·.dst)) → ∀ π ∈ PS, WOps P A H G (pickOps l π) (Q .normal) fr st) : W P H n (.region id l.toArray true) Q fr st := by
 intro B M L a w R
 refine wp_region_any hm ?_
 unfold chkML at hc
 simp only [Bool.and_eq_true] at hc
 obtain ⟨⟨⟨h1, h2⟩, h3⟩, h4⟩ := hc
 have hchk : ∀ π ∈ PS, chk1 l π = true ∧ inEL SP A H l E π = true := fun π hπ => by have := List.all_eq_true.1 h3 π hπ; simpa using this
 have hrem : ∀ π ∈ PS, rem π (Array.replicate l.length false) = π ∧ π.length = l.length := by
  intro π hπ
  have hc1 := (hchk π hπ).1
  unfold chk1 at hc1
  simp only [Bool.and_eq_true] at hc1
  refine ⟨List.filter_eq_self.2 fun p hp => ?_, by simpa using hc1.1.1.1.1⟩
  have := List.all_eq_true.1 hc1.1.2 p hp
  have hp' : p.1 < l.length := by simpa using this
  simp [Array.getD, hp']
 refine wpAny_soundML (I := I) (SP := SP) (G := fun j => (l[j]?).bind (·.dst)) (E := E) (hKeep _ fun _ => rfl) (hSP _ fun _ => rfl) h1 (fun i o ho hE => ?_) (dstsLt_of hd) (fun j => by simp) (Q := fun e a' w' => ∃ x fr' st' M' L', e = Ex.to x ∧ Q x fr' st' ∧ Rel P B M' L' n fr' st' a' w')
  (fun fr' st' M' L' a' w' hK R' => ⟨.normal, fr', st', M', L', rfl, hK, R'⟩) l.toArray.size E.length PS [] (Array.replicate l.toArray.size false) fr st M L a _ hchk h4 (fun e he => ?_) (by simp) (fun π hπ => ?_) ?_ R.drewAt hI (fun π hπ => ?_)
 ·have := List.all_eq_true.1 h2 i (by simpa using (List.getElem?_eq_some_iff.1 ho).1)
  simp only [ho, Option.bind_some, Bool.or_eq_true, Bool.not_eq_true'] at this
  rcases this with h | h
  ·exact absurd (by simpa using h) hE
  ·simpa using h
 ·constructor
  ·intro hh; cases hh
  ·intro hh
   have : (Array.replicate l.toArray.size false).getD e false = false := by
    simp only [Array.getD_eq_getD_getElem?, Array.getElem?_replicate]
    split <;> rfl
   rw [this] at hh; cases hh
 ·simp only [List.size_toArray]; rw [(hrem π hπ).1, (hrem π hπ).2]
 ·intro i hi hli
  simp [Array.getD, hi] at hli
 ·simp only [List.size_toArray]; rw [(hrem π hπ).1]; exact h _ (fun _ => rfl) π hπ

end

section
variable {P : Program} {A H : List Tmp} {G : Nat → Option Tmp}
/-! Loads of local boxes. -/
/-- No pointer into the store. -/
def nonH : Value → Bool
 | .pointer (some ⟨_, _, none⟩) => false
 | _ => true
def ldL (Ls : List Tmp) : Op → Bool
 | .load _ (.tmp t) => Ls.contains t
 | .fieldAddr _ (.tmp t) _ => Ls.contains t
 | _ => false
def faL (Ls : List Tmp) : Op → Bool
 | .fieldAddr _ (.tmp t) _ => Ls.contains t
 | _ => false
def isApp : Op → Bool
 | .call { callee := .builtin .append, .. } => true
 | _ => false
/-- These slots point to local boxes. -/
def InvL (Ls : List Tmp) (fr : Fr) (_ : St) : Prop := ∀ t ∈ Ls, nonH (fr.env t) = true
def okL (Ls : List Tmp) (l : List Oper) (p q : Nat) : Bool := match l[p]?, l[q]? with
 | some a, some x => (ldL Ls a.op && (a.guard.isNone && x.guard.isNone)) && ((((callOf x.op).isSome || isApp x.op)) && a.apart l.toArray x)
 | _, _ => false
def spL (Ls : List Tmp) (l : List Oper) : List (Nat × Nat) := (List.range l.length).flatMap fun p => ((List.range l.length).filter fun q => okL Ls l p q).map fun q => (p, q)
def dstL (Ls : List Tmp) (o : Oper) : Bool := match o.dst with
 | some d => !Ls.contains d || (faL Ls o.op && o.guard.isNone)
 | none => true
def chkLL (Ls A H : List Tmp) (l : List Oper) (E : List Nat) (PS : List (List (Nat × Bool))) : Bool :=
 l.all (dstL Ls) && chkML (spL Ls l) A H l E PS
theorem spL_mem {Ls : List Tmp} {l : List Oper} {p q : Nat} (h : (p, q) ∈ spL Ls l) : okL Ls l p q = true := by
 unfold spL at h
 obtain ⟨p', _, h2⟩ := List.mem_flatMap.1 h
 obtain ⟨q', h3, h4⟩ := List.mem_map.1 h2
 cases h4
 exact (List.mem_filter.1 h3).2
theorem InvL.put {Ls : List Tmp} {fr : Fr} {st st' : St} (h : InvL Ls fr st) {d : Option Tmp} {v : Value} (hd : ∀ t, d = some t → t ∉ Ls ∨ nonH v = true) (l : Nat → Nat × List Value) : InvL Ls ⟨AM.put fr.env d v, l⟩ st' := fun t ht => by
 cases d with
 | none => exact h t ht
 | some d =>
  show nonH (upd fr.env d v t) = true
  by_cases e : t = d
  ·subst e
   rw [upd_same]
   exact (hd _ rfl).resolve_left fun h => h ht
  ·rw [upd_ne _ _ _ _ e]
   exact h t ht
theorem keepsL {Ls : List Tmp} {o : Oper} (hd : dstL Ls o = true) (x : Bool) : Keeps P A H G (InvL Ls) (o, x) := by
 intro R K fr st hI h
 by_cases hn : ∀ t, o.dst = some t → t ∉ Ls
 ·have hput : ∀ v (l : Nat → Nat × List Value) s, InvL Ls ⟨AM.put fr.env o.dst v, l⟩ s := fun v l s => hI.put (fun t ht => .inl (hn t ht)) l
  unfold WOps at h ⊢
  split at h
  ·exact h.elim
  ·exact ⟨hput _ _ _, h⟩
  ·split at h
   ·obtain ⟨g, h1, h2, h3⟩ := h
    exact ⟨g, h1, h2, h3.mono fun r st' ⟨q1, q2⟩ => ⟨q1, hput _ _ _, q2⟩⟩
   ·split at h
    ·exact ⟨hput _ _ _, h⟩
    ·exact h.elim
 ·have hex : ∃ d, o.dst = some d ∧ d ∈ Ls := Classical.byContradiction fun h2 => hn fun t ht hL => h2 ⟨t, ht, hL⟩
  obtain ⟨d, hdd, hdL⟩ := hex
  unfold dstL at hd
  rw [hdd] at hd
  simp only [Bool.or_eq_true, Bool.and_eq_true, Bool.not_eq_true'] at hd
  have hfa : faL Ls o.op = true ∧ o.guard.isNone = true := by
   rcases hd with hd | hd
   ·have : Ls.contains d = true := by simpa using hdL
    rw [this] at hd; cases hd
   ·exact hd
  obtain ⟨hf, hg⟩ := hfa
  unfold faL at hf
  split at hf
  ·rename_i ty t f hop
   have htL : t ∈ Ls := by simpa using hf
   have hcn : callOf o.op = none := by rw [hop]; rfl
   have ht := hI t htL
   rw [WOps_cons hg, hcn] at h ⊢
   simp only at h ⊢
   split at h
   ·rename_i v l s hs
    obtain ⟨q1, q2, q3⟩ := stepVal_pure (.inr (by rw [hop]; rfl)) hs
    replace q2 := q2.symm; replace q3 := q3.symm
    subst q2; subst q3
    refine ⟨hI.put (fun t' _ => .inr ?_) _, h⟩
    rw [hop] at q1
    have q1' : (match fr.env t with
     | .pointer (some ⟨b, o, sp⟩) => (match offA P ty f with
      | some d => if okPtr A fr.loc b sp then some (Value.pointer (some ⟨b, o + d, sp⟩)) else none
      | none => none)
     | _ => none) = some v := q1
    split at q1'
    ·rename_i b o' sp he
     rw [he] at ht
     split at q1'
     ·split at q1'
      ·cases q1'
       cases sp with
       | none => cases ht
       | some _ => rfl
      ·cases q1'
     ·cases q1'
    ·cases q1'
   ·exact h.elim
  ·cases hf
theorem loadA_loc {t : TypeId} {p : Value} (h : nonH p = true) (loc : Nat → Nat × List Value) (st st' : St) : loadA P A t p loc st' = loadA P A t p loc st := by
 cases p with
 | pointer a =>
  cases a with
  | none => rfl
  | some ad =>
   obtain ⟨b, o, w⟩ := ad
   cases w with
   | none => cases h
   | some w => rw [loadA_p, loadA_p]; rfl
 | _ => rfl
theorem app_loc {o : Oper} (h : isApp o.op = true) {fr : Fr} {st : St} {v : Value} {l : Nat → Nat × List Value} {s : St} (hs : stepVal P A H o fr st = some (v, l, s)) : l = fr.loc := by
 unfold isApp at h
 split at h
 ·rename_i c1 c2 hop
  unfold stepVal at hs
  rw [hop] at hs
  have e : ∀ ρ loc st, evalVal P A (.call { callee := .builtin .append, args := c1, argTypes := c2 }) ρ loc st = none := fun _ _ _ => rfl
  rw [e] at hs
  simp only at hs
  unfold evalEff at hs
  rw [hop] at hs
  simp only at hs
  split at hs
  ·simp only [Option.map_eq_some_iff] at hs
   obtain ⟨r, _, hr⟩ := hs
   cases hr; rfl
  ·cases hs
 ·cases h
theorem swL {ops : Array Oper} {Ls : List Tmp} {a x : Oper} (hld : ldL Ls a.op = true) (hga : a.guard.isNone = true) (hgx : x.guard.isNone = true) (hx : (callOf x.op).isSome = true ∨ isApp x.op = true) (hap : a.apart ops x = true) (fa fx : Bool) : SwI P A H G (InvL Ls) (a, fa) (x, fx) := by
 intro R K fr st hI h
 obtain ⟨env, loc⟩ := fr
 have sp := Oper.apart_spec hap
 have hrd : isPure a.op = true ∨ isRd a.op = true := .inr (by
  unfold ldL at hld
  split at hld
  ·rename_i e; rw [e]; rfl
  ·rename_i e; rw [e]; rfl
  ·cases hld)
 have hcn : callOf a.op = none := by
  unfold ldL at hld
  split at hld
  ·rename_i e; rw [e]; rfl
  ·rename_i e; rw [e]; rfl
  ·cases hld
 have hev : ∀ (l : Nat → Nat × List Value) (s s' : St), evalVal P A a.op (Fr.ev ⟨env, loc⟩) l s' = evalVal P A a.op (Fr.ev ⟨env, loc⟩) l s := by
  intro l s s'
  unfold ldL at hld
  split at hld
  ·rename_i ty t e
   rw [e]
   exact loadA_loc (hI t (by simpa using hld)) l s s'
  ·rename_i e; rw [e]; rfl
  ·cases hld
 have hxa : ∀ (v : Value) (l l' : Nat → Nat × List Value) (y : Operand), y ∈ x.op.operands → Fr.ev ⟨put env a.dst v, l⟩ y = Fr.ev ⟨env, l'⟩ y := fun v l l' y hy => ev_put fun d hd e => by
  subst e; exact sp.1 d hd (mem_looks hy)
 rw [WOps_cons hga, hcn] at h
 simp only at h
 split at h
 rotate_left
 ·exact h.elim
 rename_i va l s hs
 obtain ⟨q1, q2, q3⟩ := stepVal_pure hrd hs
 replace q2 := q2.symm; replace q3 := q3.symm
 subst q2; subst q3
 simp only at h q1
 have back : ∀ (v : Value) (s' : St), WOps P A H G R K ⟨put (put env a.dst va) x.dst v, loc⟩ s' → WOps P A H G ((a, fa) :: R) K ⟨put env x.dst v, loc⟩ s' := by
  intro v s' hh
  rw [WOps_cons hga, hcn]
  simp only
  have e : evalVal P A a.op (Fr.ev ⟨put env x.dst v, loc⟩) loc s' = some va := by
   rw [evalVal_apart hap]
   exact (hev loc _ _).trans q1
  rw [stepVal_of e]
  rw [put_comm _ _ _ sp.2.1] at hh
  exact hh
 rw [WOps_cons hgx] at h ⊢
 cases hc : callOf x.op with
 | some fa' =>
  obtain ⟨f, args⟩ := fa'
  rw [hc] at h
  simp only at h ⊢
  obtain ⟨o1, o2⟩ := callOf_operands hc
  obtain ⟨g, h1, h2, h3⟩ := h
  refine ⟨g, ?_, ?_, ?_⟩
  ·rw [← hxa va loc loc f o2]; exact h1
  ·rw [← Array.all_toList] at h2 ⊢
   rw [List.all_eq_true] at h2 ⊢
   intro y hy
   have := h2 y hy
   rw [hxa va loc loc y (o1 y (by simpa using hy))] at this
   exact this
  ·have e3 : args.toList.map (Fr.ev ⟨put env a.dst va, loc⟩) = args.toList.map (Fr.ev ⟨env, loc⟩) := List.map_congr_left fun y hy => hxa va loc loc y (o1 y (by simpa using hy))
   rw [e3] at h3
   exact h3.mono fun r st' ⟨p1, p2⟩ => ⟨p1, back r st' p2⟩
 | none =>
  rw [hc] at h
  simp only at h ⊢
  have hxapp : isApp x.op = true := by
   rcases hx with hx | hx
   ·rw [hc] at hx; cases hx
   ·exact hx
  split at h
  ·rename_i v l s' hs'
   have e := stepVal_congr (P := P) (A := A) (H := H) (o := x) (fr := ⟨put env a.dst va, loc⟩) (fr' := ⟨env, loc⟩) (st := st) rfl fun y hy => (hxa va _ _ y hy).symm
   rw [e, hs']
   have := app_loc hxapp hs'
   simp only at this
   subst this
   exact back v s' h
  ·exact h.elim
end
/-- A region that draws its order, walked in several orders; loads of the local boxes Ls may change places with calls and appends. -/
theorem W_regL {P : Program} {H : List Tmp} {n : Nat} {Q : Ex → Fr → St → Prop} {fr : Fr} {st : St} {id : Nat} {l : List Oper} {rest : Code} (hm : P.follows .mixedOrders = true) (Ls A : List Tmp) (E : List Nat) (PS : List (List (Nat × Bool))) (hd : dstsLt n l = true) (hc : chkLL Ls A H l E PS = true) (hI : ∀ t ∈ Ls, nonH (fr.env t) = true)
  (h : ∀ (G : Nat → Option Tmp) (K : Fr → St → Prop), (∀ j, G j = (l[j]?).bind (·.dst)) → (∀ fr st, W P H n rest Q fr st → K fr st) → ∀ π ∈ PS, WOps P A H G (pickOps l π) K fr st) : W P H n (.seq (.region id l.toArray true) rest) Q fr st := by
 unfold chkLL at hc
 obtain ⟨h1, h2⟩ := Bool.and_eq_true_iff.1 hc
 refine W_seq (W_regionML (I := InvL Ls) hm _ A E PS hd h2 hI (fun G hG o ho x => keepsL (List.all_eq_true.1 h1 o ho) x) (fun G hG p q a x hpq ha hx fp fq => ?_) fun G hG => h G _ hG fun _ _ h => h)
 have := spL_mem hpq
 unfold okL at this
 rw [ha, hx] at this
 simp only [Bool.and_eq_true, Bool.or_eq_true] at this
 obtain ⟨⟨g1, g2, g3⟩, g4, g5⟩ := this
 exact swL g1 g2 g3 g4 g5 fp fq
theorem W_endL {P : Program} {H : List Tmp} {n : Nat} {Q : Ex → Fr → St → Prop} {fr : Fr} {st : St} {id : Nat} {l : List Oper} (hm : P.follows .mixedOrders = true) (Ls A : List Tmp) (E : List Nat) (PS : List (List (Nat × Bool))) (hd : dstsLt n l = true) (hc : chkLL Ls A H l E PS = true) (hI : ∀ t ∈ Ls, nonH (fr.env t) = true)
  (h : ∀ (G : Nat → Option Tmp) (K : Fr → St → Prop), (∀ j, G j = (l[j]?).bind (·.dst)) → (∀ fr st, Q .normal fr st → K fr st) → ∀ π ∈ PS, WOps P A H G (pickOps l π) K fr st) : W P H n (.region id l.toArray true) Q fr st := by
 unfold chkLL at hc
 obtain ⟨h1, h2⟩ := Bool.and_eq_true_iff.1 hc
 refine W_regionML (I := InvL Ls) hm _ A E PS hd h2 hI (fun G hG o ho x => keepsL (List.all_eq_true.1 h1 o ho) x) (fun G hG p q a x hpq ha hx fp fq => ?_) fun G hG => h G _ hG fun _ _ h => h
 have := spL_mem hpq
 unfold okL at this
 rw [ha, hx] at this
 simp only [Bool.and_eq_true, Bool.or_eq_true] at this
 obtain ⟨⟨g1, g2, g3⟩, g4, g5⟩ := this
 exact swL g1 g2 g3 g4 g5 fp fq
theorem fm_nil {α : Type} {P : α → Prop} : ∀ x ∈ ([] : List α), P x := fun x hx => by cases hx
theorem fm_cons {α : Type} {P : α → Prop} {a : α} {l : List α} (h1 : P a) (h2 : ∀ x ∈ l, P x) : ∀ x ∈ a :: l, P x := fun x hx => by
 rcases List.mem_cons.1 hx with rfl | hx
 ·exact h1
 ·exact h2 x hx
end Go.Proofs.Ytdijnohbbgbklaa.AM


namespace Go.Proofs.Ytdijnohbbgbklaa.AM
open Go
attribute [local go_sem] List.map_cons List.map_nil List.all_cons List.all_nil Bool.and_self Option.map_some List.getElem?_toArray Option.bind_some gye_b gye_t gsk_b gsk_t gb1 gb2 gb3 gb4 bne_self_eq_false beq_self_eq_true w_guard w_nil stepV_some step_some step_some' w_move w_assign w_pick w_binOp w_unOp w_load w_fieldAddr w_indexAddr w_len w_max w_index ev_max max_int ev_index w_box w_alloc w_store w_field w_extract w_nilCheck w_convert w_buildSlice w_build ev_buildL fillL_nil fillL_cons bs0 bs1 ev_conv ev_bin ev_un ev_pick ev_load ev_fieldAddr ev_indexAddr ev_len ev_field ev_extract ev_nilCheck fr_tmp fr_int fr_bool fr_str fr_nil fr_func put_some put_none bin_lss bin_leq bin_gtr bin_geq bin_eql bin_neq bin_add bin_sub bin_mul bin_seql bin_sneq un_not pick_ ext_ loadA_p cellAt_l cellAt_h okPtr_l okPtr_h fadA_p allocA_l storeA_l cells_agg cells_int cells_str cells_sl cells_bool flat_i flat_s flat_b flat_sl flat_nil loc_agg loc_int loc_str loc_sl loc_bool loc_fn loc_ptr okv_agg okv_int okv_str okv_sl okv_bool cellsFrom splice upd_eval argEnv_zero argEnv_succ ne_eq Nat.add_one_ne_zero not_false_eq_true List.not_mem_nil and_self decide_true List.getElem?_cons_zero List.getElem?_cons_succ List.size_toArray List.length_cons List.length_nil List.take_succ_cons List.take_zero List.drop_succ_cons List.drop_zero List.cons_append List.nil_append List.drop_nil Bool.not_true Bool.not_false Bool.false_eq_true Nat.zero_add Nat.add_zero wrap_in List.toList_toArray List.mem_cons or_self or_false false_or
attribute [local go_sem] ag103 ag22 ag24 ag25 ag27 ag28 ag3 ag30 ag37 ag5 ag54 ag9 bu27 bu30 bu37 bu54 bu67 by30 by37 by54 by9 el22 el24 el25 el28 el33 el52 of27_0 of27_1 of30_0 of30_1 of30_2 of30_3 of37_0 of37_1 of54_0 of54_1 of54_2 of67_0 of67_1 of67_2 ro3_3 ro3_4 ro30_0 ro30_1 ro30_2 ro37_0 ro37_1 ro37_4 ro54_1 ro54_7 ro9_0 ro9_1 ro9_2 ro9_3 ro9_4 ro9_5 sz103 sz22 sz24 sz25 sz27 sz28 sz3 sz30 sz37 sz5 sz54 sz9 ze103 ze27 ze3 ze30 ze37 ze54 ze9
section
/- Words: spec.l1In, the built-in operators, the tests for words, their operations. -/
open Go Go.Proofs
set_option linter.unusedVariables false
set_option linter.unusedSimpArgs false
set_option maxRecDepth 100000

theorem l1In_ok (a b c : Int) (st : St) : CallS Try.prog 65 [.int .i64 a, .int .i64 b, .int .i64 c] st fun r st' => r = .bool (decide (a ≥ b) && decide (a ≤ c)) ∧ st' = st := by
 refine CallS_of_W [] 15 Try.func65 rfl rfl rfl rfl (by simp) ?_
 by_cases h : a ≥ b
 ·have c1 : decide (a ≥ b) = true := by simpa using h
  repeat (first | with_reducible (first | refine thenI ?_ | refine thenE ?_ | refine thenR ?_ | refine inBI ?_ | refine inBR ?_ | refine inBS ?_ | refine inBN (by decide) ?_) | refine W_seqS ?_ | refine W_seqC ?_ | refine W_seqB ?_ | refine W_block ?_ | refine W_skip ?_ | (apply W_condB; (case hc => (simp (disch := omega) only [go_sem, ↓reduceIte, Nat.reduceEqDiff, c1]); rfl); first | refine qzT ?_ | refine qzF ?_) | ((first | refine W_reg rfl fun G K hG hK => ?_ | refine W_end rfl fun G K hG hK => ?_); simp (disch := omega) only [go_sem, ↓reduceIte, Nat.reduceEqDiff, hG, c1]; refine hK _ _ ?_; clear hK K hG G))
  refine W_ret ?_; try (repeat (with_reducible first | refine thenI ?_ | refine thenE ?_ | refine thenR ?_ | refine inBI ?_ | refine inBR ?_ | refine inBS ?_ | refine inBN (by decide) ?_))
  refine fin1 (.inl rfl) (by (simp (disch := omega) only [go_sem, ↓reduceIte, Nat.reduceEqDiff]); try rfl) rfl ⟨by rw [c1, Bool.true_and], rfl⟩
 ·have c1 : decide (a ≥ b) = false := by simpa using h
  repeat (first | with_reducible (first | refine thenI ?_ | refine thenE ?_ | refine thenR ?_ | refine inBI ?_ | refine inBR ?_ | refine inBS ?_ | refine inBN (by decide) ?_) | refine W_seqS ?_ | refine W_seqC ?_ | refine W_seqB ?_ | refine W_block ?_ | refine W_skip ?_ | (apply W_condB; (case hc => (simp (disch := omega) only [go_sem, ↓reduceIte, Nat.reduceEqDiff, c1]); rfl); first | refine qzT ?_ | refine qzF ?_) | ((first | refine W_reg rfl fun G K hG hK => ?_ | refine W_end rfl fun G K hG hK => ?_); simp (disch := omega) only [go_sem, ↓reduceIte, Nat.reduceEqDiff, hG, c1]; refine hK _ _ ?_; clear hK K hG G))
  refine W_ret ?_; try (repeat (with_reducible first | refine thenI ?_ | refine thenE ?_ | refine thenR ?_ | refine inBI ?_ | refine inBR ?_ | refine inBS ?_ | refine inBN (by decide) ?_))
  refine fin1 (.inl rfl) (by (simp (disch := omega) only [go_sem, ↓reduceIte, Nat.reduceEqDiff]); try rfl) rfl ⟨by rw [c1, Bool.false_and], rfl⟩

def plusB : ByteArray := ⟨#[112, 108, 117, 115]⟩
def minusB : ByteArray := ⟨#[109, 105, 110, 117, 115]⟩
def timesB : ByteArray := ⟨#[116, 105, 109, 101, 115]⟩
def isB (s : ByteArray) : Bool := s.toList == plusB.toList || (s.toList == minusB.toList || s.toList == timesB.toList)
theorem specIsB_ok (s : ByteArray) (st : St) : CallS Try.prog 45 [.string s] st fun r st' => r = .bool (isB s) ∧ st' = st := by
 refine CallS_of_W [] 13 Try.func45 rfl rfl rfl rfl (by simp) ?_
 unfold isB plusB minusB timesB
 cases h1 : (s.toList == (⟨#[112, 108, 117, 115]⟩ : ByteArray).toList) with
 | true =>
  repeat (first | with_reducible (first | refine thenI ?_ | refine thenE ?_ | refine thenR ?_ | refine inBI ?_ | refine inBR ?_ | refine inBS ?_ | refine inBN (by decide) ?_) | refine W_seqS ?_ | refine W_seqC ?_ | refine W_seqB ?_ | refine W_block ?_ | refine W_skip ?_ | (apply W_condB; (case hc => (simp (disch := omega) only [go_sem, ↓reduceIte, Nat.reduceEqDiff, h1]); rfl); first | refine qzT ?_ | refine qzF ?_) | ((first | refine W_reg rfl fun G K hG hK => ?_ | refine W_end rfl fun G K hG hK => ?_); simp (disch := omega) only [go_sem, ↓reduceIte, Nat.reduceEqDiff, hG, h1]; refine hK _ _ ?_; clear hK K hG G))
  refine W_ret ?_; try (repeat (with_reducible first | refine thenI ?_ | refine thenE ?_ | refine thenR ?_ | refine inBI ?_ | refine inBR ?_ | refine inBS ?_ | refine inBN (by decide) ?_))
  refine fin1 (.inl rfl) (by (simp (disch := omega) only [go_sem, ↓reduceIte, Nat.reduceEqDiff]); try rfl) rfl ⟨rfl, rfl⟩
 | false =>
  cases h2 : (s.toList == (⟨#[109, 105, 110, 117, 115]⟩ : ByteArray).toList) with
  | true =>
   repeat (first | with_reducible (first | refine thenI ?_ | refine thenE ?_ | refine thenR ?_ | refine inBI ?_ | refine inBR ?_ | refine inBS ?_ | refine inBN (by decide) ?_) | refine W_seqS ?_ | refine W_seqC ?_ | refine W_seqB ?_ | refine W_block ?_ | refine W_skip ?_ | (apply W_condB; (case hc => (simp (disch := omega) only [go_sem, ↓reduceIte, Nat.reduceEqDiff, h1, h2]); rfl); first | refine qzT ?_ | refine qzF ?_) | ((first | refine W_reg rfl fun G K hG hK => ?_ | refine W_end rfl fun G K hG hK => ?_); simp (disch := omega) only [go_sem, ↓reduceIte, Nat.reduceEqDiff, hG, h1, h2]; refine hK _ _ ?_; clear hK K hG G))
   refine W_ret ?_; try (repeat (with_reducible first | refine thenI ?_ | refine thenE ?_ | refine thenR ?_ | refine inBI ?_ | refine inBR ?_ | refine inBS ?_ | refine inBN (by decide) ?_))
   refine fin1 (.inl rfl) (by (simp (disch := omega) only [go_sem, ↓reduceIte, Nat.reduceEqDiff]); try rfl) rfl ⟨rfl, rfl⟩
  | false =>
   repeat (first | with_reducible (first | refine thenI ?_ | refine thenE ?_ | refine thenR ?_ | refine inBI ?_ | refine inBR ?_ | refine inBS ?_ | refine inBN (by decide) ?_) | refine W_seqS ?_ | refine W_seqC ?_ | refine W_seqB ?_ | refine W_block ?_ | refine W_skip ?_ | (apply W_condB; (case hc => (simp (disch := omega) only [go_sem, ↓reduceIte, Nat.reduceEqDiff, h1, h2]); rfl); first | refine qzT ?_ | refine qzF ?_) | ((first | refine W_reg rfl fun G K hG hK => ?_ | refine W_end rfl fun G K hG hK => ?_); simp (disch := omega) only [go_sem, ↓reduceIte, Nat.reduceEqDiff, hG, h1, h2]; refine hK _ _ ?_; clear hK K hG G))
   refine W_ret ?_; try (repeat (with_reducible first | refine thenI ?_ | refine thenE ?_ | refine thenR ?_ | refine inBI ?_ | refine inBR ?_ | refine inBS ?_ | refine inBN (by decide) ?_))
   refine fin1 (.inl rfl) (by (simp (disch := omega) only [go_sem, ↓reduceIte, Nat.reduceEqDiff]); try rfl) rfl ⟨rfl, rfl⟩
theorem implIsB_ok (s : ByteArray) (st : St) : CallS Try.prog 28 [.string s] st fun r st' => r = .bool (isB s) ∧ st' = st := by
 refine CallS_of_W [] 13 Try.func28 rfl rfl rfl rfl (by simp) ?_
 unfold isB plusB minusB timesB
 cases h1 : (s.toList == (⟨#[112, 108, 117, 115]⟩ : ByteArray).toList) with
 | true =>
  repeat (first | with_reducible (first | refine thenI ?_ | refine thenE ?_ | refine thenR ?_ | refine inBI ?_ | refine inBR ?_ | refine inBS ?_ | refine inBN (by decide) ?_) | refine W_seqS ?_ | refine W_seqC ?_ | refine W_seqB ?_ | refine W_block ?_ | refine W_skip ?_ | (apply W_condB; (case hc => (simp (disch := omega) only [go_sem, ↓reduceIte, Nat.reduceEqDiff, h1]); rfl); first | refine qzT ?_ | refine qzF ?_) | ((first | refine W_reg rfl fun G K hG hK => ?_ | refine W_end rfl fun G K hG hK => ?_); simp (disch := omega) only [go_sem, ↓reduceIte, Nat.reduceEqDiff, hG, h1]; refine hK _ _ ?_; clear hK K hG G))
  refine W_ret ?_; try (repeat (with_reducible first | refine thenI ?_ | refine thenE ?_ | refine thenR ?_ | refine inBI ?_ | refine inBR ?_ | refine inBS ?_ | refine inBN (by decide) ?_))
  refine fin1 (.inl rfl) (by (simp (disch := omega) only [go_sem, ↓reduceIte, Nat.reduceEqDiff]); try rfl) rfl ⟨rfl, rfl⟩
 | false =>
  cases h2 : (s.toList == (⟨#[109, 105, 110, 117, 115]⟩ : ByteArray).toList) with
  | true =>
   repeat (first | with_reducible (first | refine thenI ?_ | refine thenE ?_ | refine thenR ?_ | refine inBI ?_ | refine inBR ?_ | refine inBS ?_ | refine inBN (by decide) ?_) | refine W_seqS ?_ | refine W_seqC ?_ | refine W_seqB ?_ | refine W_block ?_ | refine W_skip ?_ | (apply W_condB; (case hc => (simp (disch := omega) only [go_sem, ↓reduceIte, Nat.reduceEqDiff, h1, h2]); rfl); first | refine qzT ?_ | refine qzF ?_) | ((first | refine W_reg rfl fun G K hG hK => ?_ | refine W_end rfl fun G K hG hK => ?_); simp (disch := omega) only [go_sem, ↓reduceIte, Nat.reduceEqDiff, hG, h1, h2]; refine hK _ _ ?_; clear hK K hG G))
   refine W_ret ?_; try (repeat (with_reducible first | refine thenI ?_ | refine thenE ?_ | refine thenR ?_ | refine inBI ?_ | refine inBR ?_ | refine inBS ?_ | refine inBN (by decide) ?_))
   refine fin1 (.inl rfl) (by (simp (disch := omega) only [go_sem, ↓reduceIte, Nat.reduceEqDiff]); try rfl) rfl ⟨rfl, rfl⟩
  | false =>
   repeat (first | with_reducible (first | refine thenI ?_ | refine thenE ?_ | refine thenR ?_ | refine inBI ?_ | refine inBR ?_ | refine inBS ?_ | refine inBN (by decide) ?_) | refine W_seqS ?_ | refine W_seqC ?_ | refine W_seqB ?_ | refine W_block ?_ | refine W_skip ?_ | (apply W_condB; (case hc => (simp (disch := omega) only [go_sem, ↓reduceIte, Nat.reduceEqDiff, h1, h2]); rfl); first | refine qzT ?_ | refine qzF ?_) | ((first | refine W_reg rfl fun G K hG hK => ?_ | refine W_end rfl fun G K hG hK => ?_); simp (disch := omega) only [go_sem, ↓reduceIte, Nat.reduceEqDiff, hG, h1, h2]; refine hK _ _ ?_; clear hK K hG G))
   refine W_ret ?_; try (repeat (with_reducible first | refine thenI ?_ | refine thenE ?_ | refine thenR ?_ | refine inBI ?_ | refine inBR ?_ | refine inBS ?_ | refine inBN (by decide) ?_))
   refine fin1 (.inl rfl) (by (simp (disch := omega) only [go_sem, ↓reduceIte, Nat.reduceEqDiff]); try rfl) rfl ⟨rfl, rfl⟩


end

section
/- ReduceWords. -/
open Go Go.Proofs
set_option linter.unusedVariables false
set_option linter.unusedSimpArgs false
set_option maxRecDepth 100000

theorem l3Word_ok (v : Int) (st : St) : CallS Try.prog 57 [.int .i64 v] st fun r st' => r = .agg #[.int .i64 3, .int .i64 v, .string ⟨#[]⟩, .slice none 0 0] ∧ st' = st := by
 refine CallS_of_W [] 5 Try.func57 rfl rfl rfl rfl (by simp) ?_
 repeat (first | with_reducible (first | refine thenI ?_ | refine thenE ?_ | refine thenR ?_ | refine inBI ?_ | refine inBR ?_ | refine inBS ?_ | refine inBN (by decide) ?_) | refine W_seqS ?_ | refine W_seqC ?_ | refine W_seqB ?_ | refine W_block ?_ | refine W_skip ?_ | (apply W_condB; (case hc => (simp (disch := omega) only [go_sem, ↓reduceIte, Nat.reduceEqDiff]); rfl); first | refine qzT ?_ | refine qzF ?_) | ((first | refine W_reg rfl fun G K hG hK => ?_ | refine W_end rfl fun G K hG hK => ?_); simp (disch := omega) only [go_sem, ↓reduceIte, Nat.reduceEqDiff, hG]; refine hK _ _ ?_; clear hK K hG G))
 refine W_ret ?_; try (repeat (with_reducible first | refine thenI ?_ | refine thenE ?_ | refine thenR ?_ | refine inBI ?_ | refine inBR ?_ | refine inBS ?_ | refine inBN (by decide) ?_))
 refine finC (.inl rfl) (by (simp (disch := omega) only [go_sem, ↓reduceIte, Nat.reduceEqDiff]); try rfl) ⟨rfl, rfl⟩


end

section
/- Builders: spec.RenameVars, impl.RenameVars. -/
open Go Go.Proofs
set_option linter.unusedVariables false
set_option linter.unusedSimpArgs false
set_option maxRecDepth 100000


end

end Go.Proofs.Ytdijnohbbgbklaa.AM
/- A renamed term is a variant, where variables have no arguments. -/
namespace Go.Proofs.Ytdijnohbbgbklaa.AM
open Go Go.Proofs
set_option linter.unusedVariables false
set_option linter.unusedSimpArgs false

/-- Variables are plain, but perhaps at the root. -/
inductive Plain : T → Prop
 | mk (k n : Int) (nm : ByteArray) (args : List T) (hv : k = 1 → n = 0 ∧ args = []) (h : ∀ a ∈ args, Plain a) : Plain (.mk k n nm args)
def PlainB : T → Prop
 | .mk k n nm args => k = 1 ∨ ∀ a ∈ args, Plain a
theorem Plain.b {t : T} (h : Plain t) : PlainB t := by
 cases h with
 | mk k n nm args hv h => exact .inr h
mutual
/-- The nodes of a term. -/
def T.count : T → Nat
 | .mk _ _ _ args => 1 + T.countL args
def T.countL : List T → Nat
 | [] => 0
 | x :: xs => x.count + T.countL xs
end
end Go.Proofs.Ytdijnohbbgbklaa.AM


namespace Go.Proofs.Ytdijnohbbgbklaa.AM
open Go
attribute [local go_sem] List.map_cons List.map_nil List.all_cons List.all_nil Bool.and_self Option.map_some List.getElem?_toArray Option.bind_some gye_b gye_t gsk_b gsk_t gb1 gb2 gb3 gb4 bne_self_eq_false beq_self_eq_true w_guard w_nil stepV_some step_some step_some' w_move w_assign w_pick w_binOp w_unOp w_load w_fieldAddr w_indexAddr w_len w_max w_index ev_max max_int ev_index w_box w_alloc w_store w_field w_extract w_nilCheck w_convert w_buildSlice w_build ev_buildL fillL_nil fillL_cons bs0 bs1 ev_conv ev_bin ev_un ev_pick ev_load ev_fieldAddr ev_indexAddr ev_len ev_field ev_extract ev_nilCheck fr_tmp fr_int fr_bool fr_str fr_nil fr_func put_some put_none bin_lss bin_leq bin_gtr bin_geq bin_eql bin_neq bin_add bin_sub bin_mul bin_seql bin_sneq un_not pick_ ext_ loadA_p cellAt_l cellAt_h okPtr_l okPtr_h fadA_p allocA_l storeA_l cells_agg cells_int cells_str cells_sl cells_bool flat_i flat_s flat_b flat_sl flat_nil loc_agg loc_int loc_str loc_sl loc_bool loc_fn loc_ptr okv_agg okv_int okv_str okv_sl okv_bool cellsFrom splice upd_eval argEnv_zero argEnv_succ ne_eq Nat.add_one_ne_zero not_false_eq_true List.not_mem_nil and_self decide_true List.getElem?_cons_zero List.getElem?_cons_succ List.size_toArray List.length_cons List.length_nil List.take_succ_cons List.take_zero List.drop_succ_cons List.drop_zero List.cons_append List.nil_append List.drop_nil Bool.not_true Bool.not_false Bool.false_eq_true Nat.zero_add Nat.add_zero wrap_in List.toList_toArray List.mem_cons or_self or_false false_or
attribute [local go_sem] ag103 ag22 ag24 ag25 ag27 ag28 ag3 ag30 ag37 ag5 ag54 ag9 bu27 bu30 bu37 bu54 bu67 by30 by37 by54 by9 el22 el24 el25 el28 el33 el52 of27_0 of27_1 of30_0 of30_1 of30_2 of30_3 of37_0 of37_1 of54_0 of54_1 of54_2 of67_0 of67_1 of67_2 ro3_3 ro3_4 ro30_0 ro30_1 ro30_2 ro37_0 ro37_1 ro37_4 ro54_1 ro54_7 ro9_0 ro9_1 ro9_2 ro9_3 ro9_4 ro9_5 sz103 sz22 sz24 sz25 sz27 sz28 sz3 sz30 sz37 sz5 sz54 sz9 ze103 ze27 ze3 ze30 ze37 ze54 ze9
section
/- Terms drawn: spec.l3Draw. -/
open Go Go.Proofs
set_option linter.unusedVariables false
set_option linter.unusedSimpArgs false
set_option maxRecDepth 100000
-- AUTO

/-- A term drawn: the cursor turned, the term's memory new. -/
def DrawT (q : Nat) (xs : List Byt) (st : St) (R : T → Prop) (r : Value) (st2 : St) : Prop := Drawn q xs st st2 ∧ ∃ t ds L, r = .agg ds.toArray ∧ OwnT st2 t ds L ∧ Fresh st.length L ∧ R t
theorem Drawn.own {q : Nat} {bs : List Byt} {n0 : Nat} {a b : St} {t : T} {cs : List Value} {L : List Nat} (h : Drawn q bs a b) (ho : OwnT a t cs L) (hf : Fresh n0 L) (hq : q < n0) : OwnT b t cs L :=
 Own.frame _ _ _ (fun i hi => h.away.2 i (Own.lt _ _ _ ho i hi) fun e => by
  have := hf.2 i hi
  cases e; omega) ho
theorem Drawn.enc {q : Nat} {bs : List Byt} {n0 : Nat} {a b : St} {t : T} {cs : List Value} {L : List Nat} (h : Drawn q bs a b) (ho : OwnT a t cs L) (hf : Fresh n0 L) (hq : q < n0) : Enc b t cs := Own.enc _ _ _ (h.own ho hf hq)
theorem Drawn.ext2 {q : Nat} {xs : List Byt} {a b c : St} (h : Drawn q xs a b) (hx : Ext b c) : Drawn q xs a c := ⟨h.cur.ext hx, h.away.same (Away.of_ext hx)⟩
theorem Cur.lt {st : St} {q : Nat} {xs : List Byt} (h : Cur st q xs) : q < st.length := by obtain ⟨_, _, _, h, _⟩ := h; exact (List.getElem?_eq_some_iff.1 h).1
theorem Fresh.one {n k : Nat} (h : n ≤ k) : Fresh n [k] := ⟨by simp, fun i hi => by cases List.mem_singleton.1 hi; exact h⟩
theorem Fresh.cons {n k : Nat} {L : List Nat} (h : Fresh n L) (hlt : ∀ i ∈ L, i < k) (hk : n ≤ k) : Fresh n (k :: L) := ⟨List.nodup_cons.2 ⟨fun hm => by have := hlt k hm; omega, h.1⟩, fun i hi => by
 rcases List.mem_cons.1 hi with rfl | hi
 ·exact hk
 ·exact h.2 i hi⟩
theorem Fresh.app {n m : Nat} {L K : List Nat} (h : Fresh n L) (g : Fresh m K) (hlt : ∀ i ∈ L, i < m) (hn : n ≤ m) : Fresh n (L ++ K) := ⟨List.nodup_append.2 ⟨h.1, g.1, fun a ha b hb e => by
 subst e
 have h1 := hlt a ha
 have h2 := g.2 a hb
 omega⟩, fun i hi => by
 rcases List.mem_append.1 hi with hi | hi
 ·exact h.2 i hi
 ·have := g.2 i hi; omega⟩
theorem plain_var (nm : ByteArray) : Plain (.mk 1 0 nm []) := .mk _ _ _ _ (fun _ => ⟨rfl, rfl⟩) (fun a ha => by cases ha)
theorem plain_word (n : Int) (nm : ByteArray) : Plain (.mk 3 n nm []) := .mk _ _ _ _ (fun h => by cases h) (fun a ha => by cases ha)
theorem plain_app (n : Int) (nm : ByteArray) (args : List T) (h : ∀ a ∈ args, Plain a) : Plain (.mk 2 n nm args) := .mk _ _ _ _ (fun h => by cases h) h

def DrawP (d : Nat) (t : T) : Prop := Plain t ∧ t.wt + 3 ≤ 4 * 2 ^ d
theorem leaf_ok {d : Nat} {k n : Int} {nm : ByteArray} (hn : nm.size ≤ 1) (h : Plain (.mk k n nm [])) : DrawP d (.mk k n nm []) := ⟨h, by
 have : 1 ≤ 2 ^ d := Nat.one_le_two_pow
 simp only [T.wt, T.wtL, List.length_nil]; omega⟩
theorem size_of_mem {w : ByteArray} {cs : List Value} (h : Value.string w ∈ cs) (hs : cs.all (fun v => match v with | .string s => decide (s.size ≤ 1) | _ => false) = true) : w.size ≤ 1 := by
 have := List.all_eq_true.1 hs _ h
 simpa using this

theorem l3Draw_of (q : Nat) (xs : List Byt) (g : Bool) (d : Nat) (hd10 : d ≤ 10) (st : St) (hq : Cur st q xs)
  (ih : ∀ e, d = e + 1 → ∀ st, Cur st q xs → CallS Try.prog 56 [.pointer (some ⟨q, 0, none⟩), .int .i64 (e : Nat), .bool g] st (DrawT q xs st (DrawP e))) :
  CallS Try.prog 56 [.pointer (some ⟨q, 0, none⟩), .int .i64 (d : Nat), .bool g] st (DrawT q xs st (DrawP d)) := by
 refine CallS_of_W [] 57 Try.func56 rfl rfl rfl rfl (by simp) ?_
 repeat (first | with_reducible (first | refine thenI ?_ | refine thenE ?_ | refine thenR ?_ | refine inBI ?_ | refine inBR ?_ | refine inBS ?_ | refine inBN (by decide) ?_) | refine W_seqS ?_ | refine W_seqC ?_ | refine W_seqB ?_ | refine W_block ?_ | refine W_skip ?_ | (apply W_condB; (case hc => (simp (disch := omega) only [go_sem, ↓reduceIte, Nat.reduceEqDiff]); rfl); first | refine qzT ?_ | refine qzF ?_) | ((first | refine W_reg rfl fun G K hG hK => ?_ | refine W_end rfl fun G K hG hK => ?_); simp (disch := omega) only [go_sem, ↓reduceIte, Nat.reduceEqDiff, hG]; refine hK _ _ ?_; clear hK K hG G))
 refine W_seq ?_
 refine W_to (fun fr st' => ∃ (b : Bool), (Drawn q xs st st') ∧ (b = false → 2 ≤ d) ∧ (fr.env 0 = .pointer (some ⟨q, 0, none⟩)) ∧ (fr.env 1 = .int .i64 (d : Nat)) ∧ (fr.env 2 = .bool g) ∧ (fr.env 6 = .pointer (some ⟨6, 0, some 1⟩)) ∧ (fr.env 13 = .bool b) ∧ ((fr.loc 6).1 = 1 ∧ (fr.loc 6).2.length = 4) ∧ ((fr.loc 7).1 = 0)) ?_ ?_
 ·by_cases h2 : d < 2
  ·have c1 : decide ((d : Int) < 2) = true := by simp; omega
   repeat (first | with_reducible (first | refine thenI ?_ | refine thenE ?_ | refine thenR ?_ | refine inBI ?_ | refine inBR ?_ | refine inBS ?_ | refine inBN (by decide) ?_) | refine W_seqS ?_ | refine W_seqC ?_ | refine W_seqB ?_ | refine W_block ?_ | refine W_skip ?_ | (apply W_condB; (case hc => (simp (disch := omega) only [go_sem, ↓reduceIte, Nat.reduceEqDiff, c1]); rfl); first | refine qzT ?_ | refine qzF ?_) | ((first | refine W_reg rfl fun G K hG hK => ?_ | refine W_end rfl fun G K hG hK => ?_); simp (disch := omega) only [go_sem, ↓reduceIte, Nat.reduceEqDiff, hG, c1]; refine hK _ _ ?_; clear hK K hG G))
   exact ⟨true, .refl hq, fun h => (by cases h), (by refine ⟨?_, ?_, ?_, ?_, ?_, ⟨?_, ?_⟩, ?_⟩ <;> ((simp (disch := omega) only [go_sem, ↓reduceIte, Nat.reduceEqDiff]); try rfl))⟩
  ·have c1 : decide ((d : Int) < 2) = false := by simp; omega
   refine W_end rfl fun G K hG hK => ?_; simp (disch := omega) only [go_sem, ↓reduceIte, Nat.reduceEqDiff, hG, c1]
   refine w_call (l1Once_ok q xs st 4 (by omega) (by omega) hq) (by simp (disch := omega) only [go_sem, ↓reduceIte, Nat.reduceEqDiff]) ?hl ?_
   case hl => first | rfl | (simp only [go_sem, List.all_cons, List.all_nil, Bool.not_false, Bool.and_self]; done)
   rintro r_ sa ⟨⟨b, rfl⟩, hd, hl⟩; refine ⟨fun e => (by cases e), ?_⟩
   simp (disch := omega) only [go_sem, ↓reduceIte, Nat.reduceEqDiff, hG]; refine hK _ _ ?_; clear hK K hG G; repeat (with_reducible first | refine thenI ?_ | refine thenE ?_ | refine thenR ?_ | refine inBI ?_ | refine inBR ?_ | refine inBS ?_ | refine inBN (by decide) ?_)
   exact ⟨b, hd, fun _ => (by omega), (by refine ⟨?_, ?_, ?_, ?_, ?_, ⟨?_, ?_⟩, ?_⟩ <;> ((simp (disch := omega) only [go_sem, ↓reduceIte, Nat.reduceEqDiff]); try rfl))⟩
 rintro ⟨env, loc⟩ st' ⟨b, hdr, hb, e0, e1, e2, e6, e13, ⟨l6, l6'⟩, l7⟩
 simp only at e0 e1 e2 e6 e13 l6 l6' l7
 cases b with
 | true =>
  repeat (first | with_reducible (first | refine thenI ?_ | refine thenE ?_ | refine thenR ?_ | refine inBI ?_ | refine inBR ?_ | refine inBS ?_ | refine inBN (by decide) ?_) | refine W_seqS ?_ | refine W_seqC ?_ | refine W_seqB ?_ | refine W_block ?_ | refine W_skip ?_ | (apply W_condB; (case hc => (simp (disch := omega) only [go_sem, ↓reduceIte, Nat.reduceEqDiff, e0, e1, e2, e6, e13, l6, l6', l7]); rfl); first | refine qzT ?_ | refine qzF ?_) | ((first | refine W_reg rfl fun G K hG hK => ?_ | refine W_end rfl fun G K hG hK => ?_); simp (disch := omega) only [go_sem, ↓reduceIte, Nat.reduceEqDiff, hG, e0, e1, e2, e6, e13, l6, l6', l7]; refine hK _ _ ?_; clear hK K hG G))
  refine W_seq ?_
  refine W_to (fun fr st' => ∃ (b : Bool), (Drawn q xs st st') ∧ (fr.env 0 = .pointer (some ⟨q, 0, none⟩)) ∧ (fr.env 6 = .pointer (some ⟨6, 0, some 1⟩)) ∧ (fr.env 19 = .bool b) ∧ ((fr.loc 6).1 = 1 ∧ (fr.loc 6).2.length = 4)) ?_ ?_
  ·cases g with
   | true =>
    repeat (first | with_reducible (first | refine thenI ?_ | refine thenE ?_ | refine thenR ?_ | refine inBI ?_ | refine inBR ?_ | refine inBS ?_ | refine inBN (by decide) ?_) | refine W_seqS ?_ | refine W_seqC ?_ | refine W_seqB ?_ | refine W_block ?_ | refine W_skip ?_ | (apply W_condB; (case hc => (simp (disch := omega) only [go_sem, ↓reduceIte, Nat.reduceEqDiff, e0, e1, e2, e6, e13, l6, l6', l7]); rfl); first | refine qzT ?_ | refine qzF ?_) | ((first | refine W_reg rfl fun G K hG hK => ?_ | refine W_end rfl fun G K hG hK => ?_); simp (disch := omega) only [go_sem, ↓reduceIte, Nat.reduceEqDiff, hG, e0, e1, e2, e6, e13, l6, l6', l7]; refine hK _ _ ?_; clear hK K hG G))
    exact ⟨false, hdr, (by refine ⟨?_, ?_, ?_, ⟨?_, ?_⟩⟩ <;> ((simp (disch := omega) only [go_sem, ↓reduceIte, Nat.reduceEqDiff, e0, e1, e2, e6, e13, l6, l6', l7]); try rfl))⟩
   | false =>
    refine W_end rfl fun G K hG hK => ?_; simp (disch := omega) only [go_sem, ↓reduceIte, Nat.reduceEqDiff, hG, e0, e1, e2, e6, e13, l6, l6', l7]
    refine w_call (l1Once_ok q xs _ 2 (by omega) (by omega) hdr.cur) (by simp (disch := omega) only [go_sem, ↓reduceIte, Nat.reduceEqDiff, e0, e1, e2, e6, e13, l6, l6', l7]) ?hl ?_
    case hl => first | rfl | (simp only [go_sem, List.all_cons, List.all_nil, Bool.not_false, Bool.and_self, e0, e1, e2, e6, e13, l6, l6', l7]; done)
    rintro r_ sa ⟨⟨b, rfl⟩, hd, hl⟩; refine ⟨fun e => (by cases e), ?_⟩
    simp (disch := omega) only [go_sem, ↓reduceIte, Nat.reduceEqDiff, hG, e0, e1, e2, e6, e13, l6, l6', l7]; refine hK _ _ ?_; clear hK K hG G; repeat (with_reducible first | refine thenI ?_ | refine thenE ?_ | refine thenR ?_ | refine inBI ?_ | refine inBR ?_ | refine inBS ?_ | refine inBN (by decide) ?_)
    exact ⟨b, hdr.trans hd, (by refine ⟨?_, ?_, ?_, ⟨?_, ?_⟩⟩ <;> ((simp (disch := omega) only [go_sem, ↓reduceIte, Nat.reduceEqDiff, e0, e1, e2, e6, e13, l6, l6', l7]); try rfl))⟩
  clear e0 e1 e2 e6 e13 l6 l6' l7
  rintro ⟨env, loc⟩ st' ⟨b, hdr2, e0, e6, e19, ⟨l6, l6'⟩⟩
  simp only at e0 e6 e19 l6 l6'
  cases b with
  | true =>
   repeat (first | with_reducible (first | refine thenI ?_ | refine thenE ?_ | refine thenR ?_ | refine inBI ?_ | refine inBR ?_ | refine inBS ?_ | refine inBN (by decide) ?_) | refine W_seqS ?_ | refine W_seqC ?_ | refine W_seqB ?_ | refine W_block ?_ | refine W_skip ?_ | (apply W_condB; (case hc => (simp (disch := omega) only [go_sem, ↓reduceIte, Nat.reduceEqDiff, e0, e6, e19, l6, l6']); rfl); first | refine qzT ?_ | refine qzF ?_) | ((first | refine W_reg rfl fun G K hG hK => ?_ | refine W_end rfl fun G K hG hK => ?_); simp (disch := omega) only [go_sem, ↓reduceIte, Nat.reduceEqDiff, hG, e0, e6, e19, l6, l6']; refine hK _ _ ?_; clear hK K hG G))
   (repeat (first | refine W_seqS ?_ | refine W_seqC ?_ | refine W_seqB ?_ | refine W_block ?_)); refine W_reg rfl fun G K hG hK => ?_; simp (disch := omega) only [go_sem, ↓reduceIte, Nat.reduceEqDiff, Nat.reduceAdd, Nat.reduceLeDiff, hG, e0, e6, e19, l6, l6', bsL, fillK_cons, fillK_nil, Nat.reduceMul]
   refine w_call (l1Pick_lit q xs st' _ _ 3 hdr2.cur rfl (by simp) (by simp)) (by simp (disch := omega) only [go_sem, ↓reduceIte, Nat.reduceEqDiff, e0, e6, e19, l6, l6']) ?hl ?_
   case hl => first | rfl | (simp only [go_sem, List.all_cons, List.all_nil, Bool.not_false, Bool.and_self, e0, e6, e19, l6, l6']; done)
   rintro r_ sa ⟨⟨w, rfl, hw⟩, hd, hl⟩; refine ⟨fun e => (by cases e), ?_⟩
   simp (disch := omega) only [go_sem, ↓reduceIte, Nat.reduceEqDiff, e0, e6, e19, l6, l6']
   refine w_call (l3Var_ok w sa) (by simp (disch := omega) only [go_sem, ↓reduceIte, Nat.reduceEqDiff, e0, e6, e19, l6, l6']) ?hl ?_
   case hl => first | rfl | (simp only [go_sem, List.all_cons, List.all_nil, Bool.not_false, Bool.and_self, e0, e6, e19, l6, l6']; done)
   rintro r_ sb ⟨rfl, rfl⟩; refine ⟨fun e => (by cases e), ?_⟩
   simp (disch := omega) only [go_sem, ↓reduceIte, Nat.reduceEqDiff, hG, e0, e6, e19, l6, l6']; refine hK _ _ ?_; clear hK K hG G; repeat (with_reducible first | refine thenI ?_ | refine thenE ?_ | refine thenR ?_ | refine inBI ?_ | refine inBR ?_ | refine inBS ?_ | refine inBN (by decide) ?_)
   refine W_ret ?_; try (repeat (with_reducible first | refine thenI ?_ | refine thenE ?_ | refine thenR ?_ | refine inBI ?_ | refine inBR ?_ | refine inBS ?_ | refine inBN (by decide) ?_))
   refine finC (.inl rfl) (by (simp (disch := omega) only [go_sem, ↓reduceIte, Nat.reduceEqDiff, e0, e6, e19, l6, l6']); try rfl) ⟨hdr2.trans (.pre (Ext.app _ _) hd), .mk 1 0 w [], [_, _, _, _], [], rfl, .nil _ _ _, .nil _, leaf_ok (size_of_mem hw rfl) (plain_var w)⟩
  | false =>
   repeat (first | with_reducible (first | refine thenI ?_ | refine thenE ?_ | refine thenR ?_ | refine inBI ?_ | refine inBR ?_ | refine inBS ?_ | refine inBN (by decide) ?_) | refine W_seqS ?_ | refine W_seqC ?_ | refine W_seqB ?_ | refine W_block ?_ | refine W_skip ?_ | (apply W_condB; (case hc => (simp (disch := omega) only [go_sem, ↓reduceIte, Nat.reduceEqDiff, e0, e6, e19, l6, l6']); rfl); first | refine qzT ?_ | refine qzF ?_) | ((first | refine W_reg rfl fun G K hG hK => ?_ | refine W_end rfl fun G K hG hK => ?_); simp (disch := omega) only [go_sem, ↓reduceIte, Nat.reduceEqDiff, hG, e0, e6, e19, l6, l6']; refine hK _ _ ?_; clear hK K hG G))
   (repeat (first | refine W_seqS ?_ | refine W_seqC ?_ | refine W_seqB ?_ | refine W_block ?_)); refine W_reg rfl fun G K hG hK => ?_; simp (disch := omega) only [go_sem, ↓reduceIte, Nat.reduceEqDiff, hG, e0, e6, e19, l6, l6']
   refine w_call (l1Once_ok q xs _ 2 (by omega) (by omega) hdr2.cur) (by simp (disch := omega) only [go_sem, ↓reduceIte, Nat.reduceEqDiff, e0, e6, e19, l6, l6']) ?hl ?_
   case hl => first | rfl | (simp only [go_sem, List.all_cons, List.all_nil, Bool.not_false, Bool.and_self, e0, e6, e19, l6, l6']; done)
   rintro r_ sa ⟨⟨b, rfl⟩, hd, hl⟩; refine ⟨fun e => (by cases e), ?_⟩
   simp (disch := omega) only [go_sem, ↓reduceIte, Nat.reduceEqDiff, hG, e0, e6, e19, l6, l6']; refine hK _ _ ?_; clear hK K hG G; repeat (with_reducible first | refine thenI ?_ | refine thenE ?_ | refine thenR ?_ | refine inBI ?_ | refine inBR ?_ | refine inBS ?_ | refine inBN (by decide) ?_)
   have hdr3 := hdr2.trans hd
   cases b with
   | true =>
    repeat (first | with_reducible (first | refine thenI ?_ | refine thenE ?_ | refine thenR ?_ | refine inBI ?_ | refine inBR ?_ | refine inBS ?_ | refine inBN (by decide) ?_) | refine W_seqS ?_ | refine W_seqC ?_ | refine W_seqB ?_ | refine W_block ?_ | refine W_skip ?_ | (apply W_condB; (case hc => (simp (disch := omega) only [go_sem, ↓reduceIte, Nat.reduceEqDiff, e0, e6, e19, l6, l6']); rfl); first | refine qzT ?_ | refine qzF ?_) | ((first | refine W_reg rfl fun G K hG hK => ?_ | refine W_end rfl fun G K hG hK => ?_); simp (disch := omega) only [go_sem, ↓reduceIte, Nat.reduceEqDiff, hG, e0, e6, e19, l6, l6']; refine hK _ _ ?_; clear hK K hG G))
    (repeat (first | refine W_seqS ?_ | refine W_seqC ?_ | refine W_seqB ?_ | refine W_block ?_)); refine W_reg rfl fun G K hG hK => ?_; simp (disch := omega) only [go_sem, ↓reduceIte, Nat.reduceEqDiff, hG, e0, e6, e19, l6, l6']
    refine w_call (l1Below_ok q xs _ 4 (by omega) (by omega) hdr3.cur) (by simp (disch := omega) only [go_sem, ↓reduceIte, Nat.reduceEqDiff, e0, e6, e19, l6, l6']) ?hl ?_
    case hl => first | rfl | (simp only [go_sem, List.all_cons, List.all_nil, Bool.not_false, Bool.and_self, e0, e6, e19, l6, l6']; done)
    rintro r_ sb ⟨⟨x, rfl, hx0, hx1⟩, hd2, hl⟩; refine ⟨fun e => (by cases e), ?_⟩
    simp (disch := omega) only [go_sem, ↓reduceIte, Nat.reduceEqDiff, e0, e6, e19, l6, l6']
    refine w_call (l3Word_ok x sb) (by simp (disch := omega) only [go_sem, ↓reduceIte, Nat.reduceEqDiff, e0, e6, e19, l6, l6']) ?hl ?_
    case hl => first | rfl | (simp only [go_sem, List.all_cons, List.all_nil, Bool.not_false, Bool.and_self, e0, e6, e19, l6, l6']; done)
    rintro r_ sc ⟨rfl, rfl⟩; refine ⟨fun e => (by cases e), ?_⟩
    simp (disch := omega) only [go_sem, ↓reduceIte, Nat.reduceEqDiff, hG, e0, e6, e19, l6, l6']; refine hK _ _ ?_; clear hK K hG G; repeat (with_reducible first | refine thenI ?_ | refine thenE ?_ | refine thenR ?_ | refine inBI ?_ | refine inBR ?_ | refine inBS ?_ | refine inBN (by decide) ?_)
    refine W_ret ?_; try (repeat (with_reducible first | refine thenI ?_ | refine thenE ?_ | refine thenR ?_ | refine inBI ?_ | refine inBR ?_ | refine inBS ?_ | refine inBN (by decide) ?_))
    refine finC (.inl rfl) (by (simp (disch := omega) only [go_sem, ↓reduceIte, Nat.reduceEqDiff, e0, e6, e19, l6, l6']); try rfl) ⟨hdr3.trans hd2, .mk 3 x ⟨#[]⟩ [], [_, _, _, _], [], rfl, .nil _ _ _, .nil _, leaf_ok (by decide) (plain_word x _)⟩
   | false =>
    repeat (first | with_reducible (first | refine thenI ?_ | refine thenE ?_ | refine thenR ?_ | refine inBI ?_ | refine inBR ?_ | refine inBS ?_ | refine inBN (by decide) ?_) | refine W_seqS ?_ | refine W_seqC ?_ | refine W_seqB ?_ | refine W_block ?_ | refine W_skip ?_ | (apply W_condB; (case hc => (simp (disch := omega) only [go_sem, ↓reduceIte, Nat.reduceEqDiff, e0, e6, e19, l6, l6']); rfl); first | refine qzT ?_ | refine qzF ?_) | ((first | refine W_reg rfl fun G K hG hK => ?_ | refine W_end rfl fun G K hG hK => ?_); simp (disch := omega) only [go_sem, ↓reduceIte, Nat.reduceEqDiff, hG, e0, e6, e19, l6, l6']; refine hK _ _ ?_; clear hK K hG G))
    (repeat (first | refine W_seqS ?_ | refine W_seqC ?_ | refine W_seqB ?_ | refine W_block ?_)); refine W_reg rfl fun G K hG hK => ?_; simp (disch := omega) only [go_sem, ↓reduceIte, Nat.reduceEqDiff, Nat.reduceAdd, Nat.reduceLeDiff, hG, e0, e6, e19, l6, l6', bsL, fillK_cons, fillK_nil, Nat.reduceMul]
    refine w_call (l1Pick_lit q xs sa _ _ 2 hdr3.cur rfl (by simp) (by simp)) (by simp (disch := omega) only [go_sem, ↓reduceIte, Nat.reduceEqDiff, e0, e6, e19, l6, l6']) ?hl ?_
    case hl => first | rfl | (simp only [go_sem, List.all_cons, List.all_nil, Bool.not_false, Bool.and_self, e0, e6, e19, l6, l6']; done)
    rintro r_ sb ⟨⟨w, rfl, hw⟩, hd2, hl2⟩; refine ⟨fun e => (by cases e), ?_⟩
    simp (disch := omega) only [go_sem, ↓reduceIte, Nat.reduceEqDiff, e0, e6, e19, l6, l6']
    refine w_call (l3App_ok w (.slice (some ⟨sb.length, 0, none⟩) 0 0) (sb ++ [⟨[], 30, 0⟩]) rfl rfl rfl) (by simp (disch := omega) only [go_sem, ↓reduceIte, Nat.reduceEqDiff, e0, e6, e19, l6, l6']) ?hl ?_
    case hl => first | rfl | (simp only [go_sem, List.all_cons, List.all_nil, Bool.not_false, Bool.and_self, e0, e6, e19, l6, l6']; done)
    rintro r_ sc ⟨rfl, rfl⟩; refine ⟨fun e => (by cases e), ?_⟩
    simp (disch := omega) only [go_sem, ↓reduceIte, Nat.reduceEqDiff, hG, e0, e6, e19, l6, l6']; refine hK _ _ ?_; clear hK K hG G; repeat (with_reducible first | refine thenI ?_ | refine thenE ?_ | refine thenR ?_ | refine inBI ?_ | refine inBR ?_ | refine inBS ?_ | refine inBN (by decide) ?_)
    refine W_ret ?_; try (repeat (with_reducible first | refine thenI ?_ | refine thenE ?_ | refine thenR ?_ | refine inBI ?_ | refine inBR ?_ | refine inBS ?_ | refine inBN (by decide) ?_))
    refine finC (.inl rfl) (by (simp (disch := omega) only [go_sem, ↓reduceIte, Nat.reduceEqDiff, e0, e6, e19, l6, l6']); try rfl) ⟨(hdr3.trans (.pre (Ext.app _ _) hd2)).ext2 (Ext.app _ _), .mk 2 0 w [], [_, _, _, _], [sb.length], rfl, Own.close _ _ _ (.inr ⟨sb.length, 0, [], [], rfl, by simp, .nil, rfl⟩), .one (Nat.le_trans hdr3.away.1 (by rw [hl2]; omega)), leaf_ok (size_of_mem hw rfl) (plain_app 0 w [] (fun a ha => by cases ha))⟩
 | false =>
  obtain ⟨e, rfl⟩ : ∃ e, d = e + 1 := ⟨d - 1, by have := hb rfl; omega⟩
  have hsub : ((e + 1 : Nat) : Int) - 1 = (e : Nat) := by omega
  repeat (first | with_reducible (first | refine thenI ?_ | refine thenE ?_ | refine thenR ?_ | refine inBI ?_ | refine inBR ?_ | refine inBS ?_ | refine inBN (by decide) ?_) | refine W_seqS ?_ | refine W_seqC ?_ | refine W_seqB ?_ | refine W_block ?_ | refine W_skip ?_ | (apply W_condB; (case hc => (simp (disch := omega) only [go_sem, ↓reduceIte, Nat.reduceEqDiff, e0, e6, l6, l6', e1, e2, e13, l7]); rfl); first | refine qzT ?_ | refine qzF ?_) | ((first | refine W_reg rfl fun G K hG hK => ?_ | refine W_end rfl fun G K hG hK => ?_); simp (disch := omega) only [go_sem, ↓reduceIte, Nat.reduceEqDiff, hG, e0, e6, l6, l6', e1, e2, e13, l7]; refine hK _ _ ?_; clear hK K hG G))
  (repeat (first | refine W_seqS ?_ | refine W_seqC ?_ | refine W_seqB ?_ | refine W_block ?_)); refine W_reg rfl fun G K hG hK => ?_; simp (disch := omega) only [go_sem, ↓reduceIte, Nat.reduceEqDiff, hG, e0, e6, l6, l6', e1, e2, e13, l7]
  refine w_call (l1Once_ok q xs _ 3 (by omega) (by omega) hdr.cur) (by simp (disch := omega) only [go_sem, ↓reduceIte, Nat.reduceEqDiff, e0, e6, l6, l6', e1, e2, e13, l7]) ?hl ?_
  case hl => first | rfl | (simp only [go_sem, List.all_cons, List.all_nil, Bool.not_false, Bool.and_self, e0, e6, l6, l6', e1, e2, e13, l7]; done)
  rintro r_ sa ⟨⟨b, rfl⟩, hd, hl⟩; refine ⟨fun e => (by cases e), ?_⟩
  simp (disch := omega) only [go_sem, ↓reduceIte, Nat.reduceEqDiff, hG, e0, e6, l6, l6', e1, e2, e13, l7]; refine hK _ _ ?_; clear hK K hG G; repeat (with_reducible first | refine thenI ?_ | refine thenE ?_ | refine thenR ?_ | refine inBI ?_ | refine inBR ?_ | refine inBS ?_ | refine inBN (by decide) ?_)
  have hdr1 := hdr.trans hd
  cases b with
  | true =>
   repeat (first | with_reducible (first | refine thenI ?_ | refine thenE ?_ | refine thenR ?_ | refine inBI ?_ | refine inBR ?_ | refine inBS ?_ | refine inBN (by decide) ?_) | refine W_seqS ?_ | refine W_seqC ?_ | refine W_seqB ?_ | refine W_block ?_ | refine W_skip ?_ | (apply W_condB; (case hc => (simp (disch := omega) only [go_sem, ↓reduceIte, Nat.reduceEqDiff, e0, e6, l6, l6', e1, e2, e13, l7]); rfl); first | refine qzT ?_ | refine qzF ?_) | ((first | refine W_reg rfl fun G K hG hK => ?_ | refine W_end rfl fun G K hG hK => ?_); simp (disch := omega) only [go_sem, ↓reduceIte, Nat.reduceEqDiff, hG, e0, e6, l6, l6', e1, e2, e13, l7]; refine hK _ _ ?_; clear hK K hG G))
   (repeat (first | refine W_seqS ?_ | refine W_seqC ?_ | refine W_seqB ?_ | refine W_block ?_)); refine W_reg rfl fun G K hG hK => ?_; simp (disch := omega) only [go_sem, ↓reduceIte, Nat.reduceEqDiff, hG, e0, e6, l6, l6', e1, e2, e13, l7, hsub]
   refine w_call (ih e rfl sa hdr1.cur) (by simp (disch := omega) only [go_sem, ↓reduceIte, Nat.reduceEqDiff, e0, e6, l6, l6', e1, e2, e13, l7]) ?hl ?_
   case hl => first | rfl | (simp only [go_sem, List.all_cons, List.all_nil, Bool.not_false, Bool.and_self, e0, e6, l6, l6', e1, e2, e13, l7]; done)
   rintro r_ sb ⟨hd2, t, ds, L, rfl, ho, hf, hp⟩; refine ⟨fun e => (by cases e), ?_⟩
   simp (disch := omega) only [go_sem, ↓reduceIte, Nat.reduceEqDiff, e0, e6, l6, l6', e1, e2, e13, l7]
   refine w_call (l3One_ok ⟨#[103]⟩ t sb ds L ho) (by simp (disch := omega) only [go_sem, ↓reduceIte, Nat.reduceEqDiff, e0, e6, l6, l6', e1, e2, e13, l7]) ?hl ?_
   case hl => first | rfl | (simp only [go_sem, List.all_cons, List.all_nil, Bool.not_false, Bool.and_self, e0, e6, l6, l6', e1, e2, e13, l7]; done)
   rintro r_ sc ⟨x1, es, rfl, ho2⟩; refine ⟨fun e => (by cases e), ?_⟩
   obtain ⟨k1, n1, m1, s1, rfl, a1, a2, a3⟩ := ho2.args_cells
   simp (disch := omega) only [go_sem, ↓reduceIte, Nat.reduceEqDiff, hG, e0, e6, l6, l6', e1, e2, e13, l7, a1, a2, a3]; refine hK _ _ ?_; clear hK K hG G; repeat (with_reducible first | refine thenI ?_ | refine thenE ?_ | refine thenR ?_ | refine inBI ?_ | refine inBR ?_ | refine inBS ?_ | refine inBN (by decide) ?_)
   refine W_ret ?_; try (repeat (with_reducible first | refine thenI ?_ | refine thenE ?_ | refine thenR ?_ | refine inBI ?_ | refine inBR ?_ | refine inBS ?_ | refine inBN (by decide) ?_))
   refine finC (.inl rfl) (by (simp (disch := omega) only [go_sem, ↓reduceIte, Nat.reduceEqDiff, e0, e6, l6, l6', e1, e2, e13, l7, a1, a2, a3]); try rfl) ⟨(hdr1.trans hd2).ext2 x1, _, [_, _, _, _], _, rfl, ho2, (hf.mono hdr1.away.1).cons (Own.lt _ _ _ ho) (hdr1.trans hd2).away.1, plain_app 0 _ _ (fun a ha => by cases List.mem_singleton.1 ha; exact hp.1), ?_⟩
   have := hp.2
   have h1 : 1 ≤ 2 ^ e := Nat.one_le_two_pow
   simp only [T.wt, T.wtL, List.length_cons, List.length_nil, Nat.pow_succ]
   have h2 : (⟨#[103]⟩ : ByteArray).size = 1 := rfl
   omega
  | false =>
   repeat (first | with_reducible (first | refine thenI ?_ | refine thenE ?_ | refine thenR ?_ | refine inBI ?_ | refine inBR ?_ | refine inBS ?_ | refine inBN (by decide) ?_) | refine W_seqS ?_ | refine W_seqC ?_ | refine W_seqB ?_ | refine W_block ?_ | refine W_skip ?_ | (apply W_condB; (case hc => (simp (disch := omega) only [go_sem, ↓reduceIte, Nat.reduceEqDiff, e0, e6, l6, l6', e1, e2, e13, l7]); rfl); first | refine qzT ?_ | refine qzF ?_) | ((first | refine W_reg rfl fun G K hG hK => ?_ | refine W_end rfl fun G K hG hK => ?_); simp (disch := omega) only [go_sem, ↓reduceIte, Nat.reduceEqDiff, hG, e0, e6, l6, l6', e1, e2, e13, l7]; refine hK _ _ ?_; clear hK K hG G))
   (repeat (first | refine W_seqS ?_ | refine W_seqC ?_ | refine W_seqB ?_ | refine W_block ?_)); refine W_reg rfl fun G K hG hK => ?_; simp (disch := omega) only [go_sem, ↓reduceIte, Nat.reduceEqDiff, hG, e0, e6, l6, l6', e1, e2, e13, l7, hsub]
   refine w_call (ih e rfl sa hdr1.cur) (by simp (disch := omega) only [go_sem, ↓reduceIte, Nat.reduceEqDiff, e0, e6, l6, l6', e1, e2, e13, l7]) ?hl ?_
   case hl => first | rfl | (simp only [go_sem, List.all_cons, List.all_nil, Bool.not_false, Bool.and_self, e0, e6, l6, l6', e1, e2, e13, l7]; done)
   rintro r_ sb ⟨hd2, t, ds, L, rfl, ho, hf, hp⟩; refine ⟨fun e => (by cases e), ?_⟩
   obtain ⟨k1, n1, m1, s1, rfl, a1, a2, a3⟩ := ho.args_cells
   simp (disch := omega) only [go_sem, ↓reduceIte, Nat.reduceEqDiff, hG, e0, e6, l6, l6', e1, e2, e13, l7, a1, a2, a3]; refine hK _ _ ?_; clear hK K hG G; repeat (with_reducible first | refine thenI ?_ | refine thenE ?_ | refine thenR ?_ | refine inBI ?_ | refine inBR ?_ | refine inBS ?_ | refine inBN (by decide) ?_)
   have hdr2 := hdr1.trans hd2
   (repeat (first | refine W_seqS ?_ | refine W_seqC ?_ | refine W_seqB ?_ | refine W_block ?_)); refine W_regL mixed [7] [] [2, 8, 9] [[(3, false), (0, false), (4, false), (5, false), (6, false), (7, false), (1, false), (2, false), (8, false), (9, false), (10, false)]] rfl (by decide +kernel) (by intro t ht; simp only [List.mem_cons, List.not_mem_nil, or_false] at ht; (rcases ht with rfl) <;> (first | rfl | (simp only [e0, e6, l6, l6', e1, e2, e13, l7]; done) | (simp only [e0, e6, l6, l6', e1, e2, e13, l7]; rfl))) fun G K hG hK => (fm_cons ?_ fm_nil)
   simp only [pickOps, List.filterMap_cons, List.filterMap_nil, List.getElem?_cons_zero, List.getElem?_cons_succ, Option.map_some]; simp (disch := omega) only [go_sem, ↓reduceIte, Nat.reduceEqDiff, Nat.reduceAdd, Nat.reduceLeDiff, hG, e0, e6, l6, l6', e1, e2, e13, l7, bsL, fillK_cons, fillK_nil, Nat.reduceMul, hsub, a1, a2, a3]
   refine w_call (l1Pick_lit q xs sb _ _ 3 hdr2.cur rfl (by simp) (by simp)) (by simp (disch := omega) only [go_sem, ↓reduceIte, Nat.reduceEqDiff, e0, e6, l6, l6', e1, e2, e13, l7]) ?hl ?_
   case hl => first | rfl | (simp only [go_sem, List.all_cons, List.all_nil, Bool.not_false, Bool.and_self, e0, e6, l6, l6', e1, e2, e13, l7]; done)
   rintro r_ sc ⟨⟨w, rfl, hw⟩, hd3, hl3⟩; refine ⟨fun e => (by cases e), ?_⟩
   simp (disch := omega) only [go_sem, ↓reduceIte, Nat.reduceEqDiff, e0, e6, l6, l6', e1, e2, e13, l7, a1, a2, a3]
   refine w_call (ih e rfl sc hd3.cur) (by simp (disch := omega) only [go_sem, ↓reduceIte, Nat.reduceEqDiff, e0, e6, l6, l6', e1, e2, e13, l7, hsub]) ?hl ?_
   case hl => first | rfl | (simp only [go_sem, List.all_cons, List.all_nil, Bool.not_false, Bool.and_self, e0, e6, l6, l6', e1, e2, e13, l7, hsub]; done)
   rintro r_ sd ⟨hd4, t2, ds2, L2, rfl, ho2, hf2, hp2⟩; refine ⟨fun e => (by cases e), ?_⟩
   have hdr4 := Drawn.pre (Ext.app _ _) (hd3.trans hd4)
   have hl0 := Nat.le_trans hdr1.away.1 hd2.away.1
   have hoA := hdr4.own ho hf (Nat.lt_of_lt_of_le hq.lt hdr1.away.1)
   refine w_call (l3Pair_ok w t t2 sd [.int .i64 k1, .int .i64 n1, .string m1, s1] ds2 L L2 hoA ho2) (by simp (disch := omega) only [go_sem, ↓reduceIte, Nat.reduceEqDiff, e0, e6, l6, l6', e1, e2, e13, l7, a1, a2, a3]) ?hl ?_
   case hl => first | rfl | (simp only [go_sem, List.all_cons, List.all_nil, Bool.not_false, Bool.and_self, e0, e6, l6, l6', e1, e2, e13, l7, a1, a2, a3]; done)
   rintro r_ se ⟨x1, es, rfl, ho3⟩; refine ⟨fun e => (by cases e), ?_⟩
   obtain ⟨k3, n3, m3, s3, rfl, b1, b2, b3⟩ := ho3.args_cells
   simp (disch := omega) only [go_sem, ↓reduceIte, Nat.reduceEqDiff, hG, e0, e6, l6, l6', e1, e2, e13, l7, b1, b2, b3]; refine hK _ _ ?_; clear hK K hG G; repeat (with_reducible first | refine thenI ?_ | refine thenE ?_ | refine thenR ?_ | refine inBI ?_ | refine inBR ?_ | refine inBS ?_ | refine inBN (by decide) ?_)
   have hlt := Own.lt _ _ _ ho
   have hll := hdr4.away.1
   have hl5 := hd4.away.1
   refine W_ret ?_; try (repeat (with_reducible first | refine thenI ?_ | refine thenE ?_ | refine thenR ?_ | refine inBI ?_ | refine inBR ?_ | refine inBS ?_ | refine inBN (by decide) ?_))
   refine finC (.inl rfl) (by (simp (disch := omega) only [go_sem, ↓reduceIte, Nat.reduceEqDiff, e0, e6, l6, l6', e1, e2, e13, l7, b1, b2, b3]); try rfl) ⟨((hdr2.trans hdr4).ext2 x1), _, [_, _, _, _], _, rfl, ho3, ((hf.mono hdr1.away.1).app hf2 (fun i hi => by have := hlt i hi; omega) (by omega)).cons (fun i hi => ?_) (by omega), plain_app 0 _ _ (fun a ha => ?_), ?_⟩
   ·rcases List.mem_append.1 hi with hi | hi
    ·have := hlt i hi; omega
    ·exact Own.lt _ _ _ ho2 i hi
   ·rcases List.mem_cons.1 ha with rfl | ha
    ·exact hp.1
    ·cases List.mem_singleton.1 ha; exact hp2.1
   ·have h1 := hp.2
    have h2 := hp2.2
    have h3 := size_of_mem hw rfl
    simp only [T.wt, T.wtL, List.length_cons, List.length_nil, Nat.pow_succ]
    omega
theorem l3Draw_ok (q : Nat) (xs : List Byt) (g : Bool) : ∀ (d : Nat), d ≤ 10 → ∀ (st : St), Cur st q xs → CallS Try.prog 56 [.pointer (some ⟨q, 0, none⟩), .int .i64 (d : Nat), .bool g] st (DrawT q xs st (DrawP d)) := by
 intro d
 induction d with
 | zero => intro h st hq; exact l3Draw_of q xs g 0 h st hq fun e he => by omega
 | succ d ih => intro h st hq; exact l3Draw_of q xs g (d + 1) h st hq fun e he st hq => (by
  obtain rfl : d = e := by omega
  exact ih (by omega) st hq)

end

end Go.Proofs.Ytdijnohbbgbklaa.AM
/- Kinds: operations, signatures. -/
namespace Go.Proofs.Ytdijnohbbgbklaa.AM
open Go
set_option linter.unusedVariables false
set_option linter.unusedSimpArgs false

/-- An operation of a signature. -/
structure Opr where
 nm : ByteArray
 args : List ByteArray
 res : ByteArray
def EncO (st : St) (o : Opr) (cs : List Value) : Prop := ∃ s, cs = [.string o.nm, s, .string o.res] ∧ Rw st o.args s
def OwnO (st : St) (o : Opr) (cs : List Value) (L : List Nat) : Prop := ∃ s, cs = [.string o.nm, s, .string o.res] ∧ Sl st o.args s L
instance : Kind Opr where
 sz := 3
 e := 54
 enc := EncO
 own := OwnO
 enc_len := fun _ _ _ h => by obtain ⟨s, rfl, _⟩ := h; rfl
 enc_ext := fun _ _ _ _ hx h => by obtain ⟨s, rfl, h⟩ := h; exact ⟨s, rfl, h.ext hx⟩
 own_len := fun _ _ _ _ h => by obtain ⟨s, rfl, _⟩ := h; rfl
 own_lt := fun _ _ _ _ h => by obtain ⟨s, rfl, h⟩ := h; exact h.lt
 own_frame := fun _ _ _ _ _ hs h => by obtain ⟨s, rfl, h⟩ := h; exact ⟨s, rfl, h.frame hs⟩
 own_enc := fun _ _ _ _ h => by obtain ⟨s, rfl, h⟩ := h; exact ⟨s, rfl, h.row⟩
instance : Marks Opr where
 mk1 := fun o k => (⟨mtext k, (mkL o.args (k + 1)).1, mtext (mkL o.args (k + 1)).2⟩, (mkL o.args (k + 1)).2 + 1)
 mk1_ge := fun o k => by have := mkL_ge o.args (k + 1); simp only; omega
instance : Wt Opr := ⟨fun o => o.nm.size + (o.args.length + wtL o.args) + o.res.size⟩
theorem row_atO {st : St} {xs : List Opr} {s : Value} (h : Rw st xs s) {j : Nat} {x : Opr} (hx : xs[j]? = some x) {n : Nat} (hn : xs.length = n := by rfl) : ∃ i o c sx, s = .slice (some ⟨i, o, none⟩) n c ∧ Rw st x.args sx ∧ CellsAt st i (o + j * 3) [.string x.nm, sx, .string x.res] := by
 subst hn
 obtain ⟨i, o, c, cs, rfl, _, ⟨sx, rfl, hE⟩, hc⟩ := row_at h hx
 exact ⟨i, o, c, sx, rfl, hE, hc⟩
/-- A signature. -/
structure Sgn where
 sorts : List ByteArray
 ops : List Opr
def EncS (st : St) (g : Sgn) (cs : List Value) : Prop := ∃ s u, cs = [s, u] ∧ Rw st g.sorts s ∧ Rw st g.ops u
def OwnS (st : St) (g : Sgn) (cs : List Value) (L : List Nat) : Prop := ∃ s u L1 L2, cs = [s, u] ∧ Sl st g.sorts s L1 ∧ Sl st g.ops u L2 ∧ L = L1 ++ L2
def LimS (B : Nat) (g : Sgn) : Prop := g.sorts.length ≤ B ∧ g.ops.length ≤ B ∧ ∀ o ∈ g.ops, o.args.length ≤ B
instance : Wt Sgn := ⟨fun g => (g.sorts.length + wtL g.sorts) + (g.ops.length + wtL g.ops)⟩
theorem EncO.ext {st st' : St} {g : Opr} {cs : List Value} (h : EncO st g cs) (hx : Ext st st') : EncO st' g cs := by
 obtain ⟨s, rfl, h⟩ := h; exact ⟨s, rfl, h.ext hx⟩
theorem OwnO.enc {st : St} {g : Opr} {cs : List Value} {L : List Nat} (h : OwnO st g cs L) : EncO st g cs := by
 obtain ⟨s, rfl, h⟩ := h; exact ⟨s, rfl, h.row⟩
theorem OwnO.ext {st st' : St} {g : Opr} {cs : List Value} {L : List Nat} (h : OwnO st g cs L) (hx : Ext st st') : OwnO st' g cs L := by
 obtain ⟨s, rfl, h⟩ := h; exact ⟨s, rfl, h.ext hx⟩
theorem OwnO.lt {st : St} {g : Opr} {cs : List Value} {L : List Nat} (h : OwnO st g cs L) : ∀ i ∈ L, i < st.length := by
 obtain ⟨s, rfl, h⟩ := h; exact h.lt
theorem OwnO.args_cells {st : St} {g : Opr} {cs : List Value} {L : List Nat} (h : OwnO st g cs L) : ∃ n s m, cs = [.string n, s, .string m] ∧ okv s = true ∧ isLoc s = false ∧ vc s = #[s] := by
 obtain ⟨s, rfl, h⟩ := h; exact ⟨_, s, _, rfl, h.okv, h.loc, h.cells⟩
theorem EncS.ext {st st' : St} {g : Sgn} {cs : List Value} (h : EncS st g cs) (hx : Ext st st') : EncS st' g cs := by
 obtain ⟨s, u, rfl, h1, h2⟩ := h; exact ⟨s, u, rfl, h1.ext hx, h2.ext hx⟩
theorem OwnS.enc {st : St} {g : Sgn} {cs : List Value} {L : List Nat} (h : OwnS st g cs L) : EncS st g cs := by
 obtain ⟨s, u, L1, L2, rfl, h1, h2, rfl⟩ := h; exact ⟨s, u, rfl, h1.row, h2.row⟩
theorem OwnS.ext {st st' : St} {g : Sgn} {cs : List Value} {L : List Nat} (h : OwnS st g cs L) (hx : Ext st st') : OwnS st' g cs L := by
 obtain ⟨s, u, L1, L2, rfl, h1, h2, rfl⟩ := h; exact ⟨s, u, L1, L2, rfl, h1.ext hx, h2.ext hx, rfl⟩
theorem OwnS.lt {st : St} {g : Sgn} {cs : List Value} {L : List Nat} (h : OwnS st g cs L) : ∀ i ∈ L, i < st.length := by
 obtain ⟨s, u, L1, L2, rfl, h1, h2, rfl⟩ := h
 intro i hi
 rcases List.mem_append.1 hi with hi | hi
 ·exact h1.lt i hi
 ·exact h2.lt i hi
theorem EncS.arg_cells {st : St} {g : Sgn} {cs : List Value} (h : EncS st g cs) : ∃ s u, cs = [s, u] ∧ isLoc s = false ∧ okv s = true ∧ isLoc u = false ∧ okv u = true := by
 obtain ⟨s, u, rfl, h1, h2⟩ := h; exact ⟨s, u, rfl, h1.notLoc.1, h1.notLoc.2, h2.notLoc.1, h2.notLoc.2⟩
theorem OwnS.args_cells {st : St} {g : Sgn} {cs : List Value} {L : List Nat} (h : OwnS st g cs L) : ∃ s u, cs = [s, u] ∧ okv s = true ∧ isLoc s = false ∧ vc s = #[s] ∧ okv u = true ∧ isLoc u = false ∧ vc u = #[u] := by
 obtain ⟨s, u, L1, L2, rfl, h1, h2, rfl⟩ := h; exact ⟨s, u, rfl, h1.okv, h1.loc, h1.cells, h2.okv, h2.loc, h2.cells⟩
end Go.Proofs.Ytdijnohbbgbklaa.AM


/- Regions that draw their order, walked as a tree: what commutes goes first, the rest is tried in each order. -/
namespace Go.Proofs.Ytdijnohbbgbklaa.AM
open Go
set_option linter.unusedVariables false
set_option linter.unusedSimpArgs false

/-- What may come next. -/
def Rdy (l : List Oper) (D : Nat → Bool) (i : Nat) : Prop := i < l.length ∧ D i = false ∧ ∀ d ∈ deps l i, D d = true
/-- Whatever is drawn next, and so on. -/
def WAny (P : Program) (A H : List Tmp) (G : Nat → Option Tmp) (l : List Oper) (K : Fr → St → Prop) : Nat → (Nat → Bool) → Fr → St → Prop
 | 0, D, fr, st => (∀ i, ¬ Rdy l D i) ∧ K fr st
 | n + 1, D, fr, st => (∃ i, Rdy l D i) ∧ ∀ i o, Rdy l D i → l[i]? = some o → WOps P A H G [(o, false)] (fun fr st => WAny P A H G l K n (fun j => j == i || D j) fr st) fr st
section
variable {P : Program} {A H : List Tmp} {G : Nat → Option Tmp}
theorem wpAny_of {n : Nat} {B : Base} {l : List Oper} (hd : ∀ o ∈ l, ∀ t, o.dst = some t → t < n)
  (hG : ∀ j, G j = (l.toArray[j]?).bind (·.dst)) {K : Fr → St → Prop} {Q : Exit → Act → World → Prop}
  (hQ : ∀ fr' st' M' L' a' w', K fr' st' → Rel P B M' L' n fr' st' a' w' → Q .normal a' w') :
  ∀ (fuel : Nat) (D : Nat → Bool) (listed : Array Bool) (fr : Fr) (st : St) (M : List ME) (L : Nat → Nat) (a : Act) (w : World), listed.size = l.length → (∀ j, listed.getD j false = D j) →
   Rel P B M L n fr st a w → WAny P A H G l K fuel D fr st → wpAny P .any l.toArray Q fuel listed a w := by
 intro fuel
 induction fuel with
 | zero =>
  intro D listed fr st M L a w hsz hD R h
  refine ⟨?_, hQ _ _ _ _ _ _ h.2 R⟩
  apply List.eq_nil_iff_forall_not_mem.2
  intro i hi
  obtain ⟨h1, h2, h3⟩ := mem_ready.1 hi
  have hl : i < listed.size := by rw [hsz]; exact h1
  refine h.1 i ⟨h1, ?_, fun d hdd => ?_⟩
  ·rw [← hD i, getD_lt hl false true]; exact h2
  ·rw [← hD d]; exact h3 d hdd
 | succ fuel ih =>
  intro D listed fr st M L a w hsz hD R h
  obtain ⟨⟨i0, r1, r2, r3⟩, h⟩ := h
  refine ⟨fun hr => ?_, fun i hi => ?_⟩
  ·exfalso
   have hl : i0 < listed.size := by rw [hsz]; exact r1
   have : i0 ∈ Region.ready .any l.toArray listed := mem_ready.2 ⟨r1, by rw [getD_lt hl true false, hD]; exact r2, fun d hdd => by rw [hD]; exact r3 d hdd⟩
   rw [hr] at this
   cases this
  ·obtain ⟨h1, h2, h3⟩ := mem_ready.1 hi
   have hl : i < listed.size := by rw [hsz]; exact h1
   obtain ⟨o, ho⟩ : ∃ o, l[i]? = some o := ⟨_, List.getElem?_eq_getElem h1⟩
   have hw := h i o ⟨h1, by rw [← hD i, getD_lt hl false true]; exact h2, fun d hdd => by rw [← hD d]; exact h3 d hdd⟩ ho
   have hstep := step_sound (Q := Q) R hG (hd o (List.mem_of_getElem? ho)) hw (K' := wpAny P .any l.toArray Q fuel (listed.setIfInBounds i true)) fun fr' st' M' L' a' w' h' R' => by
    rw [w_nil] at h'
    refine ih (fun j => j == i || D j) (listed.setIfInBounds i true) fr' st' M' L' a' w' (by simpa using hsz) (fun j => ?_) R' h'
    rw [← hD j]
    simp only [Array.getD_eq_getD_getElem?, Array.getElem?_setIfInBounds]
    by_cases e : j = i
    ·subst e; simp [hl]
    ·simp [e, Ne.symm e]
   unfold wpOp
   have ho' : l.toArray[i]? = some o := by simpa using ho
   rw [ho']
   simp only
   split at hstep
   ·rename_i hw; rw [if_pos hw]; exact .inl hstep
   ·rename_i hw; rw [if_neg hw]; exact hstep
theorem WOps_no {o : Oper} (hc : callOf o.op = none) {x : Bool} {fr : Fr} {st : St} {K : Fr → St → Prop} (hK : ∀ fr st, ¬ K fr st) (h : WOps P A H G [(o, x)] K fr st) : False := by
 unfold WOps at h
 rw [hc] at h
 split at h
 ·exact h
 ·exact hK _ _ h
 ·simp only at h
  split at h
  ·exact hK _ _ h
  ·exact h
/-- What commutes with all that may come before it can go first. -/
theorem any_first {I : Fr → St → Prop} {l : List Oper} {K : Fr → St → Prop} {p : Nat} {a : Oper} (ha : l[p]? = some a) (hca : callOf a.op = none) (ctab : tabOk l (ancT l) = true)
  (hsw : ∀ i o, l[i]? = some o → i ≠ p → p ∈ (ancT l).getD i [] ∨ i ∈ (ancT l).getD p [] ∨ SwI P A H G I (a, false) (o, false)) (hk : ∀ o ∈ l, Keeps P A H G I (o, false)) :
  ∀ (n : Nat) (D : Nat → Bool) (fr : Fr) (st : St), (∀ i, i < l.length → D i = true → ∀ d ∈ deps l i, D d = true) → Rdy l D p → I fr st → WOps P A H G [(a, false)] (fun fr st => WAny P A H G l K n (fun j => j == p || D j) fr st) fr st → WAny P A H G l K (n + 1) D fr st := by
 intro n
 induction n with
 | zero =>
  intro D fr st hcl hr hI h
  refine ⟨⟨p, hr⟩, fun i o hi ho => ?_⟩
  by_cases e : i = p
  ·subst e
   rw [ha] at ho; cases ho
   exact h
  ·refine (WOps_no hca (fun fr st hh => hh.1 i ⟨hi.1, ?_, fun d hd => ?_⟩) h).elim
   ·simp only [Bool.or_eq_false_iff, beq_eq_false_iff_ne]; exact ⟨e, hi.2.1⟩
   ·simp only [hi.2.2 d hd, Bool.or_true]
 | succ n ih =>
  intro D fr st hcl hr hI h
  refine ⟨⟨p, hr⟩, fun i o hi ho => ?_⟩
  by_cases e : i = p
  ·subst e
   rw [ha] at ho; cases ho
   exact h
  ·have hsw' : SwI P A H G I (a, false) (o, false) := by
    rcases hsw i o ho e with h1 | h1 | h1
    ·have := tab_closed ctab (fun j => D j = true) hcl i hi.1 hi.2.2 p h1
     rw [hr.2.1] at this; cases this
    ·have := tab_closed ctab (fun j => D j = true) hcl p hr.1 hr.2.2 i h1
     rw [hi.2.1] at this; cases this
    ·exact h1
   have h1 : WOps P A H G [(a, false), (o, false)] (fun fr st => WAny P A H G l K n (fun j => j == i || (j == p || D j)) fr st) fr st := by
    refine WOps_unhead (h.mono fun fr st hh => ?_)
    refine hh.2 i o ⟨hi.1, ?_, fun d hd => ?_⟩ ho
    ·simp only [Bool.or_eq_false_iff, beq_eq_false_iff_ne]; exact ⟨e, hi.2.1⟩
    ·simp only [hi.2.2 d hd, Bool.or_true]
   have h2 := hsw' _ _ _ _ hI h1
   have h3 := hk o (List.mem_of_getElem? ho) _ _ _ _ hI h2
   refine h3.mono fun fr st ⟨hI2, h4⟩ => ?_
   refine ih (fun j => j == i || D j) fr st (fun x hx hxd d hd => ?_) ⟨hr.1, ?_, fun d hd => ?_⟩ hI2 ?_
   ·by_cases ex : x = i
    ·subst ex; simp only [hi.2.2 d hd, Bool.or_true]
    ·have : D x = true := by simpa [ex] using hxd
     simp only [hcl x hx this d hd, Bool.or_true]
   ·simp only [Bool.or_eq_false_iff, beq_eq_false_iff_ne]; exact ⟨fun h => e h.symm, hr.2.1⟩
   ·simp only [hr.2.2 d hd, Bool.or_true]
   ·have hf : (fun j => j == p || (j == i || D j)) = (fun j => j == i || (j == p || D j)) := funext fun j => by rw [Bool.or_left_comm]
    simp only [hf]
    exact h4
end
def rdyB (l : List Oper) (done : List Nat) (i : Nat) : Bool := !done.contains i && (deps l i).all done.contains
def movB (Ls A H : List Tmp) (l : List Oper) (p : Nat) : Bool := (match l[p]? with | some o => (callOf o.op).isNone | none => false) && (List.range l.length).all fun i => i == p || ((ancT l).getD i []).contains p || ((ancT l).getD p []).contains i || swapOkL (spL Ls l) A H l (p, false) (i, false)
def stB (l : List Oper) (done : List Nat) : Bool := nodupB done && done.all (fun i => decide (i < l.length) && (deps l i).all done.contains)
def nextB (Ls A H : List Tmp) (l : List Oper) (done is : List Nat) : Bool := (stB l done && decide (done.length < l.length)) && ((!is.isEmpty && is == (List.range l.length).filter (rdyB l done)) || (match is with | [p] => decide (p < l.length) && (rdyB l done p && movB Ls A H l p) | _ => false))
def endB (l : List Oper) (done : List Nat) : Bool := (List.range l.length).all (fun i => done.contains i) && done.length == l.length
theorem W_endT {P : Program} {H : List Tmp} {n : Nat} {Q : Ex → Fr → St → Prop} {fr : Fr} {st : St} {id : Nat} {l : List Oper} (hm : P.follows .mixedOrders = true) (Ls A : List Tmp) (hd : dstsLt n l = true) (hc : (l.all (dstL Ls) && tabOk l (ancT l)) = true) (hI : ∀ t ∈ Ls, nonH (fr.env t) = true)
  (h : ∀ (G : Nat → Option Tmp) (K : Fr → St → Prop) (F : List Nat → Fr → St → Prop), (∀ j, G j = (l[j]?).bind (·.dst)) → (∀ fr st, Q .normal fr st → K fr st) →
   (∀ done is fr st, nextB Ls A H l done is = true → (∀ i ∈ is, WOps P A H G (pickOps l [(i, false)]) (fun fr st => F (i :: done) fr st) fr st) → F done fr st) →
   (∀ done fr st, endB l done = true → K fr st → F done fr st) → F [] fr st) : W P H n (.region id l.toArray true) Q fr st := by
 obtain ⟨hc1, hc2⟩ := Bool.and_eq_true_iff.1 hc
 intro B M L a w R
 refine wp_region_any hm ?_
 let G : Nat → Option Tmp := fun j => (l[j]?).bind (·.dst)
 have hG : ∀ j, G j = (l[j]?).bind (·.dst) := fun _ => rfl
 have hkeep : ∀ o ∈ l, Keeps P A H G (InvL Ls) (o, false) := fun o ho => keepsL (List.all_eq_true.1 hc1 o ho) false
 have key := h G (Q .normal) (fun done fr st => InvL Ls fr st → WAny P A H G l (Q .normal) (l.length - done.length) (fun j => done.contains j) fr st) hG (fun _ _ h => h)
  (fun done is fr st hn hs hI => ?_) (fun done fr st he hK hI => ?_) hI
 ·refine wpAny_of (G := G) (A := A) (H := H) (dstsLt_of hd) (fun j => by simp [G]) (Q := fun e a' w' => ∃ x fr' st' M' L', e = Ex.to x ∧ Q x fr' st' ∧ Rel P B M' L' n fr' st' a' w')
   (fun fr' st' M' L' a' w' hK R' => ⟨.normal, fr', st', M', L', rfl, hK, R'⟩) l.toArray.size (fun _ => false) (Array.replicate l.toArray.size false) fr st M L a _ (by simp) (fun j => ?_) R.drewAt ?_
  ·simp only [Array.getD_eq_getD_getElem?, Array.getElem?_replicate]
   split <;> rfl
  ·have : l.toArray.size = l.length - ([] : List Nat).length := by simp
   rw [this]
   exact key
 ·unfold nextB at hn
  simp only [Bool.and_eq_true, decide_eq_true_eq] at hn
  obtain ⟨⟨hst, hlen⟩, hn⟩ := hn
  obtain ⟨m, hm2⟩ : ∃ m, l.length - done.length = m + 1 := ⟨l.length - done.length - 1, by omega⟩
  have hm3 : ∀ i : Nat, l.length - (i :: done).length = m := fun i => by rw [List.length_cons]; omega
  have hcon : ∀ i : Nat, (fun j => (i :: done).contains j) = (fun j => j == i || done.contains j) := fun i => funext fun j => by rw [List.contains_cons]
  rw [hm2]
  have hcl : ∀ i, i < l.length → done.contains i = true → ∀ d ∈ deps l i, done.contains d = true := fun i hi hdi d hdd => by
   unfold stB at hst
   have := List.all_eq_true.1 (Bool.and_eq_true_iff.1 hst).2 i (by simpa using hdi)
   simp only [Bool.and_eq_true] at this
   exact List.all_eq_true.1 this.2 d hdd
  have hrd : ∀ i, i < l.length → (rdyB l done i = true ↔ Rdy l (fun j => done.contains j) i) := fun i hi => by
   unfold rdyB Rdy
   simp only [Bool.and_eq_true, Bool.not_eq_true', List.all_eq_true]
   exact ⟨fun ⟨h1, h2⟩ => ⟨hi, h1, h2⟩, fun ⟨_, h1, h2⟩ => ⟨h1, h2⟩⟩
  have hone : ∀ i o, i ∈ is → l[i]? = some o → WOps P A H G [(o, false)] (fun fr st => WAny P A H G l (Q .normal) m (fun j => j == i || done.contains j) fr st) fr st := fun i o hi ho => by
   have h1 := hs i hi
   have hp : pickOps l [(i, false)] = [(o, false)] := by simp [pickOps, ho]
   rw [hp] at h1
   have h2 := hkeep o (List.mem_of_getElem? ho) [] _ _ _ hI h1
   refine h2.mono fun fr st ⟨hI2, h3⟩ => ?_
   have h4 := h3 hI2
   rw [hm3 i, hcon i] at h4
   exact h4
  rcases Bool.or_eq_true_iff.1 hn with hn | hn
  ·obtain ⟨hn1, hn2⟩ := Bool.and_eq_true_iff.1 hn
   have hn2 : is = (List.range l.length).filter (rdyB l done) := by simpa using hn2
   refine ⟨?_, fun i o hi ho => hone i o (by rw [hn2]; exact List.mem_filter.2 ⟨List.mem_range.2 hi.1, (hrd i hi.1).2 hi⟩) ho⟩
   cases is with
   | nil => simp at hn1
   | cons i is =>
    have := List.mem_filter.1 (hn2 ▸ (List.mem_cons_self : i ∈ i :: is))
    exact ⟨i, (hrd i (List.mem_range.1 this.1)).1 this.2⟩
  ·obtain ⟨p, rfl⟩ : ∃ p, is = [p] := by
    split at hn
    ·exact ⟨_, rfl⟩
    ·cases hn
   simp only [Bool.and_eq_true, decide_eq_true_eq] at hn
   obtain ⟨hpl, hpr, hpm⟩ := hn
   unfold movB at hpm
   obtain ⟨ho, hmv⟩ := Bool.and_eq_true_iff.1 hpm
   obtain ⟨a, hlp⟩ : ∃ a, l[p]? = some a := ⟨_, List.getElem?_eq_getElem hpl⟩
   rw [hlp] at ho
   refine any_first (I := InvL Ls) hlp (by simpa using ho) hc2 (fun i o hio hip => ?_) hkeep m (fun j => done.contains j) fr st hcl ((hrd p hpl).1 hpr) hI (hone p a (by simp) hlp)
   have := List.all_eq_true.1 hmv i (List.mem_range.2 (List.getElem?_eq_some_iff.1 hio).1)
   simp only [Bool.or_eq_true] at this
   rcases this with ((h1 | h1) | h1) | h1
   ·exact absurd (by simpa using h1) hip
   ·exact .inl (by simpa using h1)
   ·exact .inr (.inl (by simpa using h1))
   ·refine .inr (.inr ?_)
    unfold swapOkL at h1
    rcases Bool.or_eq_true_iff.1 h1 with hs2 | hs2
    ·have hsp := swapOk_spec hlp hio hs2
     exact fun R K fr st _ h => hop (ops := l.toArray) (x := (o, false)) (rest := R) (fun j => by simp [G]) [(a, false)] (fun c hc => by rw [List.mem_singleton.1 hc]; exact hsp) fr st h
    ·have := spL_mem (by simpa using hs2 : (p, i) ∈ spL Ls l)
     unfold okL at this
     rw [hlp, hio] at this
     simp only [Bool.and_eq_true, Bool.or_eq_true] at this
     obtain ⟨⟨g1, g2, g3⟩, g4, g5⟩ := this
     exact swL g1 g2 g3 g4 g5 false false
 ·unfold endB at he
  obtain ⟨h1, h2⟩ := Bool.and_eq_true_iff.1 he
  have h2 : done.length = l.length := by simpa using h2
  have hall : ∀ i, i < l.length → done.contains i = true := fun i hi => List.all_eq_true.1 h1 i (List.mem_range.2 hi)
  have h0 : l.length - done.length = 0 := by omega
  rw [h0]
  refine ⟨fun i hi => ?_, hK⟩
  have h4 : done.contains i = false := hi.2.1
  rw [hall i hi.1] at h4
  cases h4
end Go.Proofs.Ytdijnohbbgbklaa.AM


namespace Go.Proofs.Ytdijnohbbgbklaa.AM
open Go
attribute [local go_sem] List.map_cons List.map_nil List.all_cons List.all_nil Bool.and_self Option.map_some List.getElem?_toArray Option.bind_some gye_b gye_t gsk_b gsk_t gb1 gb2 gb3 gb4 bne_self_eq_false beq_self_eq_true w_guard w_nil stepV_some step_some step_some' w_move w_assign w_pick w_binOp w_unOp w_load w_fieldAddr w_indexAddr w_len w_max w_index ev_max max_int ev_index w_box w_alloc w_store w_field w_extract w_nilCheck w_convert w_buildSlice w_build ev_buildL fillL_nil fillL_cons bs0 bs1 ev_conv ev_bin ev_un ev_pick ev_load ev_fieldAddr ev_indexAddr ev_len ev_field ev_extract ev_nilCheck fr_tmp fr_int fr_bool fr_str fr_nil fr_func put_some put_none bin_lss bin_leq bin_gtr bin_geq bin_eql bin_neq bin_add bin_sub bin_mul bin_seql bin_sneq un_not pick_ ext_ loadA_p cellAt_l cellAt_h okPtr_l okPtr_h fadA_p allocA_l storeA_l cells_agg cells_int cells_str cells_sl cells_bool flat_i flat_s flat_b flat_sl flat_nil loc_agg loc_int loc_str loc_sl loc_bool loc_fn loc_ptr okv_agg okv_int okv_str okv_sl okv_bool cellsFrom splice upd_eval argEnv_zero argEnv_succ ne_eq Nat.add_one_ne_zero not_false_eq_true List.not_mem_nil and_self decide_true List.getElem?_cons_zero List.getElem?_cons_succ List.size_toArray List.length_cons List.length_nil List.take_succ_cons List.take_zero List.drop_succ_cons List.drop_zero List.cons_append List.nil_append List.drop_nil Bool.not_true Bool.not_false Bool.false_eq_true Nat.zero_add Nat.add_zero wrap_in List.toList_toArray List.mem_cons or_self or_false false_or
attribute [local go_sem] ag103 ag22 ag24 ag25 ag27 ag28 ag3 ag30 ag37 ag5 ag54 ag9 bu27 bu30 bu37 bu54 bu67 by30 by37 by54 by9 el22 el24 el25 el28 el33 el52 of27_0 of27_1 of30_0 of30_1 of30_2 of30_3 of37_0 of37_1 of54_0 of54_1 of54_2 of67_0 of67_1 of67_2 ro3_3 ro3_4 ro30_0 ro30_1 ro30_2 ro37_0 ro37_1 ro37_4 ro54_1 ro54_7 ro9_0 ro9_1 ro9_2 ro9_3 ro9_4 ro9_5 sz103 sz22 sz24 sz25 sz27 sz28 sz3 sz30 sz37 sz5 sz54 sz9 ze103 ze27 ze3 ze30 ze37 ze54 ze9
section
/- Signatures drawn: l6Base, l6Bent; DrawFindOp, DrawIsBuiltin. -/
open Go Go.Proofs
set_option linter.unusedVariables false
set_option linter.unusedSimpArgs false
set_option maxRecDepth 100000
-- AUTO

theorem rowO_strs (st : St) : ∀ ns : List ByteArray, RowO (Kind.own st) ns (ns.map Value.string) []
 | [] => .nil
 | n :: ns => RowO.cons n ns [.string n] (ns.map Value.string) [] [] ⟨rfl, rfl⟩ (rowO_strs st ns)
theorem sl_at {st : St} {i c : Nat} (ns : List ByteArray) (h : st[i]? = some ⟨ns.map Value.string, 9, 0⟩) : Sl st ns (.slice (some ⟨i, 0, none⟩) ns.length c) [i] := .inr ⟨i, c, ns.map Value.string, [], rfl, h, rowO_strs st ns, rfl⟩
def bE : ByteArray := ⟨#[101]⟩
def bW : ByteArray := ⟨#[119, 111, 114, 100]⟩
def baseOps : List Opr := [⟨⟨#[97]⟩, [], bE⟩, ⟨⟨#[98]⟩, [], bE⟩, ⟨⟨#[103]⟩, [bE], bE⟩, ⟨⟨#[102]⟩, [bE, bE], bE⟩, ⟨⟨#[104]⟩, [bE, bW], bE⟩, ⟨⟨#[110, 117, 109]⟩, [bW], bE⟩, ⟨⟨#[116, 111, 112]⟩, [bE], ⟨#[107]⟩⟩]
theorem opr_cons {st : St} {nm res : ByteArray} {args : List ByteArray} {s : Value} {L K : List Nat} {os : List Opr} {cs : List Value} (h : Sl st args s L) (hs : RowO (Kind.own st) os cs K) : RowO (Kind.own st) (⟨nm, args, res⟩ :: os) (.string nm :: s :: .string res :: cs) (L ++ K) := RowO.cons _ _ [_, _, _] _ _ _ ⟨s, rfl, h⟩ hs
def bsl (i n : Nat) : Value := .slice (some ⟨i, 0, none⟩) n n
def baseCells (n : Nat) : List Value := [.string ⟨#[97]⟩, .slice none 0 0, .string bE, .string ⟨#[98]⟩, .slice none 0 0, .string bE, .string ⟨#[103]⟩, bsl (n + 1) 1, .string bE, .string ⟨#[102]⟩, bsl (n + 2) 2, .string bE, .string ⟨#[104]⟩, bsl (n + 3) 2, .string bE, .string ⟨#[110, 117, 109]⟩, bsl (n + 4) 1, .string bE, .string ⟨#[116, 111, 112]⟩, bsl (n + 5) 1, .string ⟨#[107]⟩]
def baseK (n : Nat) : List Nat := [] ++ ([] ++ ([n + 1] ++ ([n + 2] ++ ([n + 3] ++ ([n + 4] ++ ([n + 5] ++ []))))))
theorem l6Base_ok (st : St) : CallS Try.prog 39 [] st fun r st2 => Ext st st2 ∧ ∃ s u L1 L2, r = .agg #[s, u] ∧ Sl st2 [bE, ⟨#[107]⟩] s L1 ∧ Sl st2 baseOps u L2 ∧ Fresh st.length (L1 ++ L2) := by
 refine CallS_of_W [] 16 Try.func39 rfl rfl rfl rfl (by simp) ?_
 repeat (first | with_reducible (first | refine thenI ?_ | refine thenE ?_ | refine thenR ?_ | refine inBI ?_ | refine inBR ?_ | refine inBS ?_ | refine inBN (by decide) ?_) | refine W_seqS ?_ | refine W_seqC ?_ | refine W_seqB ?_ | refine W_block ?_ | refine W_skip ?_ | (apply W_condB; (case hc => (simp (disch := omega) only [go_sem, ↓reduceIte, Nat.reduceEqDiff]); rfl); first | refine qzT ?_ | refine qzF ?_) | ((first | refine W_reg rfl fun G K hG hK => ?_ | refine W_end rfl fun G K hG hK => ?_); simp (disch := omega) only [go_sem, ↓reduceIte, Nat.reduceEqDiff, hG]; refine hK _ _ ?_; clear hK K hG G))
 (repeat (first | refine W_seqS ?_ | refine W_seqC ?_ | refine W_seqB ?_ | refine W_block ?_)); refine W_reg rfl fun G K hG hK => ?_; simp (disch := omega) only [go_sem, ↓reduceIte, Nat.reduceEqDiff, Nat.reduceAdd, Nat.reduceLeDiff, hG, bsL, fillK_cons, fillK_nil, Nat.reduceMul]
 refine hK _ _ ?_; clear hK K hG G; repeat (with_reducible first | refine thenI ?_ | refine thenE ?_ | refine thenR ?_ | refine inBI ?_ | refine inBR ?_ | refine inBS ?_ | refine inBN (by decide) ?_)
 refine W_ret ?_; try (repeat (with_reducible first | refine thenI ?_ | refine thenE ?_ | refine thenR ?_ | refine inBI ?_ | refine inBR ?_ | refine inBS ?_ | refine inBN (by decide) ?_))
 refine finC (.inl rfl) (by (simp (disch := omega) only [go_sem, ↓reduceIte, Nat.reduceEqDiff]); try rfl) ⟨((((((Ext.app _ _).trans (Ext.app _ _)).trans (Ext.app _ _)).trans (Ext.app _ _)).trans (Ext.app _ _)).trans (Ext.app _ _)).trans (Ext.app _ _), .slice (some ⟨st.length, 0, none⟩) 2 2, .slice (some ⟨st.length + 6, 0, none⟩) 7 7, [st.length], (st.length + 6) :: baseK st.length, by simp, sl_at [bE, ⟨#[107]⟩] (by simp [List.getElem?_append, bE]), .inr ⟨st.length + 6, 7, baseCells st.length, baseK st.length, rfl, ?_, ?_, rfl⟩, ?_⟩
 ·simp [List.getElem?_append, baseCells, bsl, bE]
  rfl
 ·exact opr_cons (.inl ⟨rfl, rfl, rfl⟩) (opr_cons (.inl ⟨rfl, rfl, rfl⟩) (opr_cons (sl_at (c := 1) [bE] (by simp [List.getElem?_append, bE])) (opr_cons (sl_at (c := 2) [bE, bE] (by simp [List.getElem?_append, bE])) (opr_cons (sl_at (c := 2) [bE, bW] (by simp [List.getElem?_append, bE, bW])) (opr_cons (sl_at (c := 1) [bW] (by simp [List.getElem?_append, bW])) (opr_cons (sl_at (c := 1) [bE] (by simp [List.getElem?_append, bE])) .nil))))))
 ·refine ⟨by simp [baseK], fun i hi => ?_⟩
  simp [baseK] at hi
  omega

end

end Go.Proofs.Ytdijnohbbgbklaa.AM
/- A store without one block: blank stores (as in C30), for rows of strings and operations. -/
namespace Go.Proofs.Ytdijnohbbgbklaa.AM
open Go Go.Proofs
set_option linter.unusedVariables false
set_option linter.unusedSimpArgs false

/-! A store without the block q. -/
def bl (q : Nat) (st : St) : St := st.set q ⟨[], 0, 2⟩
theorem bl_get {q i : Nat} {st : St} (h : i ≠ q) : (bl q st)[i]? = st[i]? := List.getElem?_set_ne (Ne.symm h)
theorem bl_len {q : Nat} {st : St} : (bl q st).length = st.length := by simp [bl]
theorem bl_cell {q : Nat} {st : St} {i j : Nat} {v : Value} (h : cell (bl q st) i j = some v) : cell st i j = some v := by
 by_cases hq : i = q
 ·subst hq
  unfold cell bl at h
  by_cases hl : i < st.length
  ·rw [List.getElem?_set_self hl] at h
   simp at h
  ·rw [List.getElem?_eq_none (by rw [List.length_set]; omega)] at h
   cases h
 ·unfold cell at h ⊢
  rw [bl_get hq] at h
  exact h
theorem bl_away {q : Nat} {a b : St} (h : Away (some q) a b) : Ext (bl q a) (bl q b) := Ext.of_get fun i hi => by
 rw [bl_len] at hi
 by_cases hq : i = q
 ·subst hq
  unfold bl
  rw [List.getElem?_set_self hi, List.getElem?_set_self (Nat.lt_of_lt_of_le hi h.1)]
 ·rw [bl_get hq, bl_get hq, h.2 i hi (fun e => hq (Option.some.inj e).symm)]
/-- What can be read in one store can be read in another. -/
def CI (s s' : St) : Prop := ∀ (i j : Nat) v, cell s i j = some v → cell s' i j = some v
theorem Row.ci {α : Type} {E E' : α → List Value → Prop} {sz : Nat} {s s' : St} {xs : List α} {v : Value} (h : Row E sz s xs v) (hc : CI s s') (hE : ∀ x ∈ xs, ∀ cs, E x cs → E' x cs) : Row E' sz s' xs v := by
 rcases h with h | ⟨i, o, c, rfl, h⟩
 ·exact .inl h
 ·refine .inr ⟨i, o, c, rfl, fun j x hx => ?_⟩
  obtain ⟨cs, h1, h2, h3⟩ := h j x hx
  exact ⟨cs, h1, hE x (List.mem_of_getElem? hx) cs h2, fun q w hw => hc _ _ _ (h3 q w hw)⟩
theorem ci_bl {q : Nat} {st : St} : CI (bl q st) st := fun _ _ _ h => bl_cell h
theorem sl_bl {α : Type} [Kind α] {q n0 : Nat} {st : St} {xs : List α} {v : Value} {L : List Nat} (h : Sl st xs v L) (hf : Fresh n0 L) (hq : q < n0) : Sl (bl q st) xs v L :=
 h.frame fun i hi => bl_get (fun e => by have := hf.2 i hi; omega)
theorem row_bl {α : Type} {E : α → List Value → Prop} {sz q : Nat} {st : St} {xs : List α} {v : Value} (h : Row E sz st xs v) (hq : topId v ≠ some q) : Row E sz (bl q st) xs v := by
 rcases h with h | ⟨i, o, c, rfl, h⟩
 ·exact .inl h
 ·refine .inr ⟨i, o, c, rfl, fun j x hx => ?_⟩
  obtain ⟨cs, h1, h2, h3⟩ := h j x hx
  refine ⟨cs, h1, h2, fun k w hw => ?_⟩
  have h4 := h3 k w hw
  unfold cell at h4 ⊢
  rw [bl_get (fun e => hq (by rw [← e]; rfl))]
  exact h4
theorem rwS_ci {s s' : St} (hc : CI s s') {xs : List ByteArray} {v : Value} (h : Rw s xs v) : Rw s' xs v := Row.ci h hc fun _ _ _ he => he
theorem rwO_ci {s s' : St} (hc : CI s s') {xs : List Opr} {v : Value} (h : Rw s xs v) : Rw s' xs v := Row.ci h hc fun x _ cs he => by
 obtain ⟨z, rfl, hz⟩ := he
 exact ⟨z, rfl, rwS_ci hc hz⟩
theorem bl_awayk {q i : Nat} {a b : St} (h : Away (some i) a b) : Away (some i) (bl q a) (bl q b) := ⟨by rw [bl_len, bl_len]; exact h.1, fun j hj hne => by
 rw [bl_len] at hj
 by_cases hq : j = q
 ·subst hq
  unfold bl
  rw [List.getElem?_set_self hj, List.getElem?_set_self (Nat.lt_of_lt_of_le hj h.1)]
 ·rw [bl_get hq, bl_get hq]
  exact h.2 j hj hne⟩
theorem ops_blank {S X : St} {os : List Opr} {cs : List Value} {K : List Nat} (h : RowO (Kind.own S) os cs K) : (∀ j ∈ K, X[j]? = S[j]?) → RowO (fun (o : Opr) cs L => EncO X o cs ∧ L = []) os cs [] := by
 induction h with
 | nil => intro _; exact .nil
 | cons x xs cx cs Lx L h hs ih =>
  intro hX
  obtain ⟨s, rfl, hs2⟩ := h
  exact RowO.cons _ _ _ _ [] [] ⟨⟨s, rfl, (hs2.frame fun j hj => hX j (List.mem_append_left _ hj)).row⟩, rfl⟩ (ih fun j hj => hX j (List.mem_append_right _ hj))
theorem row_take2 {α : Type} {E : α → List Value → Prop} {sz : Nat} {st : St} {xs : List α} {i o c : Nat} (h : Row E (sz + 1) st xs (.slice (some ⟨i, o, none⟩) xs.length c)) {P : Program} {t e : TypeId} (hu : P.underlying t = some (.slice e)) (hs : szA P e = some (sz + 1)) {k : Nat} (hk : k ≤ xs.length) :
  sliceA P t (.slice (some ⟨i, o, none⟩) xs.length c) none (some (.int .i64 k)) = some (.slice (some ⟨i, o, none⟩) k k) ∧ Row E (sz + 1) st (xs.take k) (.slice (some ⟨i, o, none⟩) k k) := by
 have he : elemA P t = some e := by unfold elemA; rw [hu]
 refine ⟨?_, ?_⟩
 ·unfold sliceA
  simp only [he, hs, Int.toNat_natCast]
  rw [if_pos (by omega)]
  simp
 ·rcases h with ⟨hem, rfl⟩ | ⟨i', o', c', hv, h⟩
  ·have hk0 : k = 0 := by simpa using hk
   subst hk0
   exact .inr ⟨i, o, 0, rfl, fun j x hx => by simp at hx⟩
  ·cases hv
   refine .inr ⟨i, o, k, by rw [List.length_take, Nat.min_eq_left hk], fun j x hx => ?_⟩
   rw [List.getElem?_take] at hx
   split at hx
   ·exact h j x hx
   ·cases hx
/-- A row of operations whose strings stand elsewhere: one is put behind. -/
theorem ops_push {q i c : Nat} {S : St} {ops : List Opr} {cs : List Value} {K : List Nat} {o : Opr} {sx : Value} (hb : S[i]? = some ⟨cs, 54, 0⟩) (hr : RowO (Kind.own S) ops cs K) (hi : i ∉ K) (hqi : q < i) (hqK : ∀ j ∈ K, j ≠ q) (hx : Rw (bl q S) o.args sx) (hne : topId sx ≠ some i) (hn : ops.length ≤ 1000) :
  ∃ v' st3, appendA Try.prog 25 25 (.slice (some ⟨i, 0, none⟩) ops.length c) (.slice (some ⟨S.length, 0, none⟩) 1 1) (S ++ [(⟨[.string o.nm, sx, .string o.res], 54, 0⟩ : Blk)]) = some (v', st3) ∧ Rw (bl q st3) (ops ++ [o]) v' ∧ isLoc v' = false ∧ Grow S (.slice (some ⟨i, 0, none⟩) ops.length c) st3 v' := by
 have hil : i < S.length := (List.getElem?_eq_some_iff.1 hb).1
 have hE : EncO (bl i (bl q S)) o [.string o.nm, sx, .string o.res] := ⟨sx, rfl, row_bl hx hne⟩
 have hr' := ops_blank (X := bl i (bl q S)) hr fun j hj => by rw [bl_get (q := i) (i := j) (fun e => hi (by rw [← e]; exact hj)), bl_get (q := q) (i := j) (hqK j hj)]
 obtain ⟨v', st3, L', h1, h2, h3, h4⟩ := SliceO.app (E := fun (_ : St) (p : Opr) cs Lx => EncO (bl i (bl q S)) p cs ∧ Lx = []) (n0 := q + 1) (fun _ _ _ _ _ _ h => h) (fun _ _ _ _ h => by rw [h.2]; simp) (sz := 2) (fun _ _ _ _ h => by obtain ⟨⟨z, rfl, _⟩, _⟩ := h; rfl) (xs := ops) (ys := [o]) (L := [i]) (u := 25) Try.underlying25 sz54 by54 ze54 rfl (.inr ⟨i, c, cs, [], rfl, hb, hr', rfl⟩) ⟨by simp, fun j hj => by cases List.mem_singleton.1 hj; omega⟩ (by omega) (Ext.app S [(⟨[.string o.nm, sx, .string o.res], 54, 0⟩ : Blk)]) (newsA_1 Try.underlying25 rfl) (RowO.one ⟨hE, rfl⟩) ⟨by simp, by simp⟩ (by simp only [List.length_cons, List.length_nil]; omega) (by simp only [List.length_cons, List.length_nil]; omega)
 have hg := (Grow.of_ext (Ext.app S [(⟨[.string o.nm, sx, .string o.res], 54, 0⟩ : Blk)]) (.slice (some ⟨i, 0, none⟩) ops.length c)).trans h4
 refine ⟨v', st3, h1, ?_, h2.loc, hg⟩
 have hrow : Row (EncO (bl i (bl q S))) 3 st3 (ops ++ [o]) v' := SliceO.row (fun x cx Lx h => by obtain ⟨⟨z, rfl, _⟩, _⟩ := h; rfl) (fun x _ cx Lx h => h.1) h2
 have hrb : Row (EncO (bl i (bl q S))) 3 (bl q st3) (ops ++ [o]) v' := row_bl hrow fun e => by
  rcases h2.top h3 with h | ⟨m, hm, h⟩ <;> rw [h] at e
  ·cases e
  ·cases e; omega
 have hx2 : Ext (bl i (bl q S)) (bl i (bl q st3)) := bl_away (bl_awayk hg.away)
 exact Row.mono hrb (Ext.refl _) fun x _ cx he => by
  obtain ⟨z, rfl, hz⟩ := EncO.ext he hx2
  exact ⟨z, rfl, rwS_ci ci_bl hz⟩
end Go.Proofs.Ytdijnohbbgbklaa.AM

