-- Written by this session's own programs for this claim.
import Derived.Test.YtdgjddkibiffnaaMFnExactSortOfA
import Derived.Test.YtdgjddkibiffnaaMFnExactSortOfC
namespace Go.Proofs.Ytdgjddkibiffnaa.F
open Go.RowKit Go.Proofs.YtdgjddkibiffnaaW.PrintWords Go.Proofs.YtdgjddkibiffnaaW.PrintLast Go.Proofs.YtdgjddkibiffnaaW.PrintMore
attribute [local go_sem] binOp_string_gtr_ binOp_string_geq_ binOp_string_leq_ max2_int min2_int max_two min_two max_three min_three max_four min_four   -- for this text's walks alone
set_option linter.unusedVariables false
set_option linter.unusedSimpArgs false

/-! ### laws_eqOpS: function 104 -/
def laws_eqOpS.l0 : Nat → List (S116) → List (S116) → Int → Option (Bool)
  | 0, _, _, _ => none
  | k + 1, x0, x1, x5 => if x5 < (x0.length : Int) then (if 0 ≤ x5 then (if x5 < (x1.length : Int) then ((laws_eqOp.f k ((rd_T116 x0 x5).f0) ((rd_T116 x0 x5).f1) ((rd_T116 x0 x5).f2) ((rd_T116 x1 x5).f0) ((rd_T116 x1 x5).f1) ((rd_T116 x1 x5).f2)).bind fun t1154 => (if t1154 = true then (laws_eqOpS.l0 k x0 x1 (wrap64 (x5 + 1))) else (some false))) else (none)) else (none)) else (some true)
def laws_eqOpS.f (k : Nat) (l0 : List (S116)) (l1 : List (S116)) : Option (Bool) := if (l0.length : Int) = (l1.length : Int) then (laws_eqOpS.l0 k l0 l1 0) else (some false)
def laws_eqOpS.T6 : Bool × List (List Nat × List Nat) := (true, [([], []), ([], []), ([0, 1], [0, 1]), ([2], [2]), ([], []), ([], []), ([4, 5], [4, 5]), ([6], [6]), ([3, 7], [3, 7]), ([8], [8])])
def laws_eqOpS.B6 : List Nat := [0, 0, 3, 7, 0, 0, 48, 112, 255, 511]
theorem laws_eqOpS.tab6 : rtab .any (opsOf Try.f104 6) = laws_eqOpS.T6 := by kernel_rfl
theorem laws_eqOpS.bits6 : waitsOk laws_eqOpS.T6.2 laws_eqOpS.B6 = true := by kernel_rfl
set_option maxHeartbeats 8000000 in
set_option maxRecDepth 100000 in
theorem laws_eqOpS.calls (k : Nat) (A0 : Option Addr) (c0 : Nat) (l0 : List (S116)) (A1 : Option Addr) (c1 : Nat) (l1 : List (S116)) (r : Bool) (w : World) (hr0 : Kd.C k116 w A0 l0.length l0) (hc0 : l0.length ≤ c0) (hr1 : Kd.C k116 w A1 l1.length l1) (hc1 : l1.length ≤ c1) (h : laws_eqOpS.f k l0 l1 = some r) :
    Calls Try.prog 104 #[.slice A0 l0.length c0, .slice A1 l1.length c1] w fun e w' => e = .returned (.bool r) ∧ Below w.heap.size w w' := by
  have hu116 := Try.underlying116
  have HR0 := Aside0.mk hr0
  have HC0 := Aside0.mk hc0
  clear hr0 hc0
  have HR1 := Aside0.mk hr1
  have HC1 := Aside0.mk hc1
  clear hr1 hc1
  have HB := am (Below.refl w.heap.size w)
  have H : (if (l0.length : Int) = (l1.length : Int) then (laws_eqOpS.l0 k l0 l1 0) else (some false)) = some r := h
  clear h
  by_cases c3 : (l0.length : Int) = (l1.length : Int)
  · rw [if_pos c3] at H
    have c3b0 : ((l0.length : Int) == (l1.length : Int)) = true := beq_iff_eq.mpr c3
    have c3b1 : ((l0.length : Int) != (l1.length : Int)) = false := bne_eq_false_iff_eq.mpr c3
    have c3b2 : (l0.length == l1.length) = true := by first | simpa using c3 | (simp at c3 ⊢; omega)
    clear c3
    have H' := Aside0.mk H
    clear H
    go_enter Try.func104, Try.ntmps104
    go_wp2
    go_loopg [5] k (fun kq v5 w' => ∃ (x5_1 : Int), v5 = .int .i64 x5_1 ∧ Aside0 (laws_eqOpS.l0 kq l0 l1 x5_1 = some r) ∧ Aside0 (kq ≤ k) ∧ Aside0 (Below w.heap.size w w'))
    case atStart => exact ⟨(0), (by first | rfl | (simp; done) | (simp [*]; done)), H', ⟨Nat.le_refl _⟩, ⟨by repeat (first | (with_reducible first | exact HB.out | apply bA | apply bN | apply bD) | exact HB.out)⟩⟩
    case round =>
      clear H'
      obtain ⟨x5_1, rfl, HA, HK1, HB⟩ := hrel
      cases gk with
      | zero => exact absurd HA.out (by simp [laws_eqOpS.l0])
      | succ k1 =>
        have H := HA.out
        clear HA
        simp only [laws_eqOpS.l0] at H
        by_cases c4 : x5_1 < (l0.length : Int)
        · rw [if_pos c4] at H
          have c4b0 : decide (x5_1 < (l0.length : Int)) = true := decide_eq_true c4
          clear c4
          by_cases c5 : 0 ≤ x5_1
          · rw [if_pos c5] at H
            have c5b0 : decide (0 ≤ x5_1) = true := decide_eq_true c5
            clear c5
            by_cases c6 : x5_1 < (l1.length : Int)
            · rw [if_pos c6] at H
              have c6b0 : decide (x5_1 < (l1.length : Int)) = true := decide_eq_true c6
              clear c6
              replace H := Option.bind_eq_some_iff.mp H
              obtain ⟨t1154, A70, H⟩ := H
              try dsimp only at H
              have A7 := Aside0.mk A70
              clear A70
              by_cases c8 : t1154 = true
              · subst c8
                have H1 : (laws_eqOpS.l0 k1 l0 l1 (wrap64 (x5_1 + 1))) = some r := by first | with_reducible rfl | (rw [if_pos rfl] at H; exact H)
                clear H
                have H := H1
                clear H1
                have H' := Aside0.mk H
                clear H
                try go_wp2
                have n0_ := am (below_drew1 HB.out)
                clear HB
                have HB := n0_
                clear n0_
                have p1152 : 0 ≤ (x5_1 : Int) := of_decide_eq_true (by assumption)
                have q1152 : x5_1 < (l0.length : Int) := of_decide_eq_true (by assumption)
                obtain ⟨ad1152, A1152_1, c1152_1, e1152, hx1152_0, hx1152_1, hx1152_2, hl1152_1, hi1152_1⟩ := at_T116 HR0.out x5_1 p1152 q1152
                have hw1152_2 := hx1152_2
                have hw1152_1 := hx1152_1
                have hw1152_0 := hx1152_0
                cases e1152
                replace hx1152_0 := (HB.out.cell (World.block_lt_of_cell? w _ hx1152_0)).trans hx1152_0
                replace hx1152_1 := (HB.out.cell (World.block_lt_of_cell? w _ hx1152_1)).trans hx1152_1
                replace hx1152_2 := (HB.out.cell (World.block_lt_of_cell? w _ hx1152_2)).trans hx1152_2
                have HR1152_1 := Aside0.mk hi1152_1
                have HC1152_1 := Aside0.mk hl1152_1
                clear hi1152_1 hl1152_1
                replace p1152 := eq_true p1152
                replace q1152 := eq_true q1152
                have p1153 : 0 ≤ (x5_1 : Int) := of_decide_eq_true (by assumption)
                have q1153 : x5_1 < (l1.length : Int) := of_decide_eq_true (by assumption)
                obtain ⟨ad1153, A1153_1, c1153_1, e1153, hx1153_0, hx1153_1, hx1153_2, hl1153_1, hi1153_1⟩ := at_T116 HR1.out x5_1 p1153 q1153
                have hw1153_2 := hx1153_2
                have hw1153_1 := hx1153_1
                have hw1153_0 := hx1153_0
                cases e1153
                replace hx1153_0 := (HB.out.cell (World.block_lt_of_cell? w _ hx1153_0)).trans hx1153_0
                replace hx1153_1 := (HB.out.cell (World.block_lt_of_cell? w _ hx1153_1)).trans hx1153_1
                replace hx1153_2 := (HB.out.cell (World.block_lt_of_cell? w _ hx1153_2)).trans hx1153_2
                have HR1153_1 := Aside0.mk hi1153_1
                have HC1153_1 := Aside0.mk hl1153_1
                clear hi1153_1 hl1153_1
                replace p1153 := eq_true p1153
                replace q1153 := eq_true q1153
                refine start_ (n := 10) (S := fun w' => w'.cell? (ad1152.add ((x5_1).toNat * 3)) = some (.string ((rd_T116 l0 x5_1).f0)) ∧ w'.cell? ⟨(ad1152.add ((x5_1).toNat * 3)).block, (ad1152.add ((x5_1).toNat * 3)).off + 1, none⟩ = some (.slice A1152_1 ((rd_T116 l0 x5_1).f1).length c1152_1) ∧ w'.cell? ⟨(ad1152.add ((x5_1).toNat * 3)).block, (ad1152.add ((x5_1).toNat * 3)).off + 2, none⟩ = some (.string ((rd_T116 l0 x5_1).f2)) ∧ w'.cell? (ad1153.add ((x5_1).toNat * 3)) = some (.string ((rd_T116 l1 x5_1).f0)) ∧ w'.cell? ⟨(ad1153.add ((x5_1).toNat * 3)).block, (ad1153.add ((x5_1).toNat * 3)).off + 1, none⟩ = some (.slice A1153_1 ((rd_T116 l1 x5_1).f1).length c1153_1) ∧ w'.cell? ⟨(ad1153.add ((x5_1).toNat * 3)).block, (ad1153.add ((x5_1).toNat * 3)).off + 2, none⟩ = some (.string ((rd_T116 l1 x5_1).f2))) (ds := []) #[false, false, false, false, false, false, false, false, false, false] (by kernel_rfl) rfl rfl ⟨((HB.out.cell (World.block_lt_of_cell? w _ hw1152_0)).trans hw1152_0), ((HB.out.cell (World.block_lt_of_cell? w _ hw1152_1)).trans hw1152_1), ((HB.out.cell (World.block_lt_of_cell? w _ hw1152_2)).trans hw1152_2), ((HB.out.cell (World.block_lt_of_cell? w _ hw1153_0)).trans hw1153_0), ((HB.out.cell (World.block_lt_of_cell? w _ hw1153_1)).trans hw1153_1), ((HB.out.cell (World.block_lt_of_cell? w _ hw1153_2)).trans hw1153_2)⟩ (fun hHeld => ?_); refine with_tabW laws_eqOpS.tab6 laws_eqOpS.bits6 (fun HT_ HW_ => ?_)
                generalize wr.drew = w9 at HB HR1152_1 HR1153_1 hx1152_0 hx1152_1 hx1152_2 hx1153_0 hx1153_1 hx1153_2 hHeld ⊢
                refine pure_ (i := 0) (N := some 17) (v := ?_) (a' := ?_) #[true, false, false, false, false, false, false, false, false, false] rfl rfl (any_of HT_.out (by kernel_rfl)) (fun _ _ _ h => h) (Or.inl ⟨by rfl, ?_⟩) ?_ ?_
                rotate_left
                · intro w'
                  go_simp
                  with_reducible rfl
                rotate_left
                · simp only [Act.put, List.setIfInBounds_toArray, List.set_cons_zero, List.set_cons_succ, i64_w, i32_w]
                  rfl
                refine pure_ (i := 1) (N := some 18) (v := ?_) (a' := ?_) #[true, true, false, false, false, false, false, false, false, false] rfl rfl (any_of HT_.out (by kernel_rfl)) (fun _ _ _ h => h) (Or.inl ⟨by rfl, ?_⟩) ?_ ?_
                rotate_left
                · intro w'
                  go_simp
                  with_reducible rfl
                rotate_left
                · simp only [Act.put, List.setIfInBounds_toArray, List.set_cons_zero, List.set_cons_succ, i64_w, i32_w]
                  rfl
                refine pure_ (i := 2) (N := some 19) (v := ?_) (a' := ?_) #[true, true, true, false, false, false, false, false, false, false] rfl rfl (any_of HT_.out (by kernel_rfl)) (fun _ _ _ h => h) (Or.inl ⟨by rfl, ?_⟩) ?_ ?_
                rotate_left
                · intro w'
                  go_simp
                  with_reducible rfl
                rotate_left
                · simp only [Act.put, List.setIfInBounds_toArray, List.set_cons_zero, List.set_cons_succ, i64_w, i32_w]
                  rfl
                refine pure_ (i := 4) (N := some 21) (v := ?_) (a' := ?_) #[true, true, true, false, true, false, false, false, false, false] rfl rfl (any_of HT_.out (by kernel_rfl)) (fun _ _ _ h => h) (Or.inl ⟨by rfl, ?_⟩) ?_ ?_
                rotate_left
                · intro w'
                  go_simp
                  with_reducible rfl
                rotate_left
                · simp only [Act.put, List.setIfInBounds_toArray, List.set_cons_zero, List.set_cons_succ, i64_w, i32_w]
                  rfl
                refine pure_ (i := 5) (N := some 22) (v := ?_) (a' := ?_) #[true, true, true, false, true, true, false, false, false, false] rfl rfl (any_of HT_.out (by kernel_rfl)) (fun _ _ _ h => h) (Or.inl ⟨by rfl, ?_⟩) ?_ ?_
                rotate_left
                · intro w'
                  go_simp
                  with_reducible rfl
                rotate_left
                · simp only [Act.put, List.setIfInBounds_toArray, List.set_cons_zero, List.set_cons_succ, i64_w, i32_w]
                  rfl
                refine pure_ (i := 6) (N := some 23) (v := ?_) (a' := ?_) #[true, true, true, false, true, true, true, false, false, false] rfl rfl (any_of HT_.out (by kernel_rfl)) (fun _ _ _ h => h) (Or.inl ⟨by rfl, ?_⟩) ?_ ?_
                rotate_left
                · intro w'
                  go_simp
                  with_reducible rfl
                rotate_left
                · simp only [Act.put, List.setIfInBounds_toArray, List.set_cons_zero, List.set_cons_succ, i64_w, i32_w]
                  rfl
                refine take_ (i := 3) (N := some 20) (v := ?_) (a' := ?_) #[true, true, true, true, true, true, true, false, false, false] rfl rfl (take_ofW HT_.out HW_.out (by kernel_rfl)) (fun _ _ _ h => h) (Or.inl ⟨by rfl, ?_⟩) hHeld ?_ ?_
                rotate_left
                · rintro w' ⟨s0, s1, s2, s3, s4, s5⟩
                  go_simp
                  with_reducible rfl
                rotate_left
                · simp only [Act.put, List.setIfInBounds_toArray, List.set_cons_zero, List.set_cons_succ, i64_w, i32_w]
                  rfl
                refine take_ (i := 7) (N := some 24) (v := ?_) (a' := ?_) #[true, true, true, true, true, true, true, true, false, false] rfl rfl (take_ofW HT_.out HW_.out (by kernel_rfl)) (fun _ _ _ h => h) (Or.inl ⟨by rfl, ?_⟩) hHeld ?_ ?_
                rotate_left
                · rintro w' ⟨s0, s1, s2, s3, s4, s5⟩
                  go_simp
                  with_reducible rfl
                rotate_left
                · simp only [Act.put, List.setIfInBounds_toArray, List.set_cons_zero, List.set_cons_succ, i64_w, i32_w]
                  rfl
                refine one_ (i := 8) (N := some 25) #[true, true, true, true, true, true, true, true, true, false] rfl rfl (one_of HT_.out (by kernel_rfl)) (by decide) (fun K hK => ?_)
                refine goes_ Try.func127 (by kernel_rfl) rfl #[.agg #[.string ((rd_T116 l0 x5_1).f0), .slice A1152_1 ((rd_T116 l0 x5_1).f1).length c1152_1, .string ((rd_T116 l0 x5_1).f2)], .agg #[.string ((rd_T116 l1 x5_1).f0), .slice A1153_1 ((rd_T116 l1 x5_1).f1).length c1153_1, .string ((rd_T116 l1 x5_1).f2)]] (by rfl) rfl rfl (by (try simp only [List.map_toArray, List.map_cons, List.map_nil]); first | done | rfl | (simp only [List.length_drop, List.length_take]; rfl)) ?_
                with_reducible refine (laws_eqOp.calls k1 ((rd_T116 l0 x5_1).f0) _ _ ((rd_T116 l0 x5_1).f1) ((rd_T116 l0 x5_1).f2) ((rd_T116 l1 x5_1).f0) _ _ ((rd_T116 l1 x5_1).f1) ((rd_T116 l1 x5_1).f2) true _ ?side1 ?side2 ?side3 ?side4 A7.out).mono ?_
                (case side1 => repeat (first | exact (Kd.C_below HR1152_1.out HB.out) | (with_reducible refine cA ?_ _) | (with_reducible refine cN ?_ _) | (with_reducible refine cD ?_)))
                (case side2 => exact HC1152_1.out)
                (case side3 => repeat (first | exact (Kd.C_below HR1153_1.out HB.out) | (with_reducible refine cA ?_ _) | (with_reducible refine cN ?_ _) | (with_reducible refine cD ?_)))
                (case side4 => exact HC1153_1.out)
                rintro e w10 ⟨rfl, hb⟩
                refine ⟨_, rfl, ?_⟩
                have n0_ := am (below_step (by repeat (first | (with_reducible first | exact HB.out | apply bA | apply bN | apply bD) | exact HB.out)) hb)
                clear HB
                have HB := n0_
                clear n0_
                (try clear hb)
                (try clear hb2)
                (try clear hk)
                (try clear hi)
                refine hK.out _ _ ⟨((HB.out.cell (World.block_lt_of_cell? w _ hw1152_0)).trans hw1152_0), ((HB.out.cell (World.block_lt_of_cell? w _ hw1152_1)).trans hw1152_1), ((HB.out.cell (World.block_lt_of_cell? w _ hw1152_2)).trans hw1152_2), ((HB.out.cell (World.block_lt_of_cell? w _ hw1153_0)).trans hw1153_0), ((HB.out.cell (World.block_lt_of_cell? w _ hw1153_1)).trans hw1153_1), ((HB.out.cell (World.block_lt_of_cell? w _ hw1153_2)).trans hw1153_2)⟩ (fun hHeld => ?_)
                clear hK K
                refine norm_ (a' := ?_) ?_ ?_
                rotate_left
                · show Act.put _ (some 25) _ = _
                  simp only [Act.put, List.setIfInBounds_toArray, List.set_cons_zero, List.set_cons_succ, i64_w, i32_w]
                  rfl
                refine pure_ (i := 9) (N := some 26) (v := ?_) (a' := ?_) #[true, true, true, true, true, true, true, true, true, true] rfl rfl (any_of HT_.out (by kernel_rfl)) (fun _ _ _ h => h) (Or.inl ⟨by rfl, ?_⟩) ?_ ?_
                rotate_left
                · intro w'
                  go_simp
                  with_reducible rfl
                rotate_left
                · simp only [Act.put, List.setIfInBounds_toArray, List.set_cons_zero, List.set_cons_succ, i64_w, i32_w]
                  rfl
                refine done_ (done_of HT_.out (by kernel_rfl)) ?_
                try go_wp2
                go_roundg k1
                case measure => have := HK1.out; omega
                case rel => exact ⟨(wrap64 (x5_1 + 1)), (by first | rfl | (simp; done) | (simp [*]; done)), H', ⟨by have := HK1.out; omega⟩, ⟨by repeat (first | (with_reducible first | exact HB.out | apply bA | apply bN | apply bD) | exact HB.out)⟩⟩
              · replace c8 := Bool.eq_false_iff.mpr c8
                subst c8
                have H1 : (some false) = some r := by rw [if_neg (show ¬ (false = true) by decide)] at H; exact H
                clear H
                have H := H1
                clear H1
                obtain rfl := Option.some.inj H
                try go_wp2
                have n0_ := am (below_drew1 HB.out)
                clear HB
                have HB := n0_
                clear n0_
                have p1152 : 0 ≤ (x5_1 : Int) := of_decide_eq_true (by assumption)
                have q1152 : x5_1 < (l0.length : Int) := of_decide_eq_true (by assumption)
                obtain ⟨ad1152, A1152_1, c1152_1, e1152, hx1152_0, hx1152_1, hx1152_2, hl1152_1, hi1152_1⟩ := at_T116 HR0.out x5_1 p1152 q1152
                have hw1152_2 := hx1152_2
                have hw1152_1 := hx1152_1
                have hw1152_0 := hx1152_0
                cases e1152
                replace hx1152_0 := (HB.out.cell (World.block_lt_of_cell? w _ hx1152_0)).trans hx1152_0
                replace hx1152_1 := (HB.out.cell (World.block_lt_of_cell? w _ hx1152_1)).trans hx1152_1
                replace hx1152_2 := (HB.out.cell (World.block_lt_of_cell? w _ hx1152_2)).trans hx1152_2
                have HR1152_1 := Aside0.mk hi1152_1
                have HC1152_1 := Aside0.mk hl1152_1
                clear hi1152_1 hl1152_1
                replace p1152 := eq_true p1152
                replace q1152 := eq_true q1152
                have p1153 : 0 ≤ (x5_1 : Int) := of_decide_eq_true (by assumption)
                have q1153 : x5_1 < (l1.length : Int) := of_decide_eq_true (by assumption)
                obtain ⟨ad1153, A1153_1, c1153_1, e1153, hx1153_0, hx1153_1, hx1153_2, hl1153_1, hi1153_1⟩ := at_T116 HR1.out x5_1 p1153 q1153
                have hw1153_2 := hx1153_2
                have hw1153_1 := hx1153_1
                have hw1153_0 := hx1153_0
                cases e1153
                replace hx1153_0 := (HB.out.cell (World.block_lt_of_cell? w _ hx1153_0)).trans hx1153_0
                replace hx1153_1 := (HB.out.cell (World.block_lt_of_cell? w _ hx1153_1)).trans hx1153_1
                replace hx1153_2 := (HB.out.cell (World.block_lt_of_cell? w _ hx1153_2)).trans hx1153_2
                have HR1153_1 := Aside0.mk hi1153_1
                have HC1153_1 := Aside0.mk hl1153_1
                clear hi1153_1 hl1153_1
                replace p1153 := eq_true p1153
                replace q1153 := eq_true q1153
                refine start_ (n := 10) (S := fun w' => w'.cell? (ad1152.add ((x5_1).toNat * 3)) = some (.string ((rd_T116 l0 x5_1).f0)) ∧ w'.cell? ⟨(ad1152.add ((x5_1).toNat * 3)).block, (ad1152.add ((x5_1).toNat * 3)).off + 1, none⟩ = some (.slice A1152_1 ((rd_T116 l0 x5_1).f1).length c1152_1) ∧ w'.cell? ⟨(ad1152.add ((x5_1).toNat * 3)).block, (ad1152.add ((x5_1).toNat * 3)).off + 2, none⟩ = some (.string ((rd_T116 l0 x5_1).f2)) ∧ w'.cell? (ad1153.add ((x5_1).toNat * 3)) = some (.string ((rd_T116 l1 x5_1).f0)) ∧ w'.cell? ⟨(ad1153.add ((x5_1).toNat * 3)).block, (ad1153.add ((x5_1).toNat * 3)).off + 1, none⟩ = some (.slice A1153_1 ((rd_T116 l1 x5_1).f1).length c1153_1) ∧ w'.cell? ⟨(ad1153.add ((x5_1).toNat * 3)).block, (ad1153.add ((x5_1).toNat * 3)).off + 2, none⟩ = some (.string ((rd_T116 l1 x5_1).f2))) (ds := []) #[false, false, false, false, false, false, false, false, false, false] (by kernel_rfl) rfl rfl ⟨((HB.out.cell (World.block_lt_of_cell? w _ hw1152_0)).trans hw1152_0), ((HB.out.cell (World.block_lt_of_cell? w _ hw1152_1)).trans hw1152_1), ((HB.out.cell (World.block_lt_of_cell? w _ hw1152_2)).trans hw1152_2), ((HB.out.cell (World.block_lt_of_cell? w _ hw1153_0)).trans hw1153_0), ((HB.out.cell (World.block_lt_of_cell? w _ hw1153_1)).trans hw1153_1), ((HB.out.cell (World.block_lt_of_cell? w _ hw1153_2)).trans hw1153_2)⟩ (fun hHeld => ?_); refine with_tabW laws_eqOpS.tab6 laws_eqOpS.bits6 (fun HT_ HW_ => ?_)
                generalize wr.drew = w11 at HB HR1152_1 HR1153_1 hx1152_0 hx1152_1 hx1152_2 hx1153_0 hx1153_1 hx1153_2 hHeld ⊢
                refine pure_ (i := 0) (N := some 17) (v := ?_) (a' := ?_) #[true, false, false, false, false, false, false, false, false, false] rfl rfl (any_of HT_.out (by kernel_rfl)) (fun _ _ _ h => h) (Or.inl ⟨by rfl, ?_⟩) ?_ ?_
                rotate_left
                · intro w'
                  go_simp
                  with_reducible rfl
                rotate_left
                · simp only [Act.put, List.setIfInBounds_toArray, List.set_cons_zero, List.set_cons_succ, i64_w, i32_w]
                  rfl
                refine pure_ (i := 1) (N := some 18) (v := ?_) (a' := ?_) #[true, true, false, false, false, false, false, false, false, false] rfl rfl (any_of HT_.out (by kernel_rfl)) (fun _ _ _ h => h) (Or.inl ⟨by rfl, ?_⟩) ?_ ?_
                rotate_left
                · intro w'
                  go_simp
                  with_reducible rfl
                rotate_left
                · simp only [Act.put, List.setIfInBounds_toArray, List.set_cons_zero, List.set_cons_succ, i64_w, i32_w]
                  rfl
                refine pure_ (i := 2) (N := some 19) (v := ?_) (a' := ?_) #[true, true, true, false, false, false, false, false, false, false] rfl rfl (any_of HT_.out (by kernel_rfl)) (fun _ _ _ h => h) (Or.inl ⟨by rfl, ?_⟩) ?_ ?_
                rotate_left
                · intro w'
                  go_simp
                  with_reducible rfl
                rotate_left
                · simp only [Act.put, List.setIfInBounds_toArray, List.set_cons_zero, List.set_cons_succ, i64_w, i32_w]
                  rfl
                refine pure_ (i := 4) (N := some 21) (v := ?_) (a' := ?_) #[true, true, true, false, true, false, false, false, false, false] rfl rfl (any_of HT_.out (by kernel_rfl)) (fun _ _ _ h => h) (Or.inl ⟨by rfl, ?_⟩) ?_ ?_
                rotate_left
                · intro w'
                  go_simp
                  with_reducible rfl
                rotate_left
                · simp only [Act.put, List.setIfInBounds_toArray, List.set_cons_zero, List.set_cons_succ, i64_w, i32_w]
                  rfl
                refine pure_ (i := 5) (N := some 22) (v := ?_) (a' := ?_) #[true, true, true, false, true, true, false, false, false, false] rfl rfl (any_of HT_.out (by kernel_rfl)) (fun _ _ _ h => h) (Or.inl ⟨by rfl, ?_⟩) ?_ ?_
                rotate_left
                · intro w'
                  go_simp
                  with_reducible rfl
                rotate_left
                · simp only [Act.put, List.setIfInBounds_toArray, List.set_cons_zero, List.set_cons_succ, i64_w, i32_w]
                  rfl
                refine pure_ (i := 6) (N := some 23) (v := ?_) (a' := ?_) #[true, true, true, false, true, true, true, false, false, false] rfl rfl (any_of HT_.out (by kernel_rfl)) (fun _ _ _ h => h) (Or.inl ⟨by rfl, ?_⟩) ?_ ?_
                rotate_left
                · intro w'
                  go_simp
                  with_reducible rfl
                rotate_left
                · simp only [Act.put, List.setIfInBounds_toArray, List.set_cons_zero, List.set_cons_succ, i64_w, i32_w]
                  rfl
                refine take_ (i := 3) (N := some 20) (v := ?_) (a' := ?_) #[true, true, true, true, true, true, true, false, false, false] rfl rfl (take_ofW HT_.out HW_.out (by kernel_rfl)) (fun _ _ _ h => h) (Or.inl ⟨by rfl, ?_⟩) hHeld ?_ ?_
                rotate_left
                · rintro w' ⟨s0, s1, s2, s3, s4, s5⟩
                  go_simp
                  with_reducible rfl
                rotate_left
                · simp only [Act.put, List.setIfInBounds_toArray, List.set_cons_zero, List.set_cons_succ, i64_w, i32_w]
                  rfl
                refine take_ (i := 7) (N := some 24) (v := ?_) (a' := ?_) #[true, true, true, true, true, true, true, true, false, false] rfl rfl (take_ofW HT_.out HW_.out (by kernel_rfl)) (fun _ _ _ h => h) (Or.inl ⟨by rfl, ?_⟩) hHeld ?_ ?_
                rotate_left
                · rintro w' ⟨s0, s1, s2, s3, s4, s5⟩
                  go_simp
                  with_reducible rfl
                rotate_left
                · simp only [Act.put, List.setIfInBounds_toArray, List.set_cons_zero, List.set_cons_succ, i64_w, i32_w]
                  rfl
                refine one_ (i := 8) (N := some 25) #[true, true, true, true, true, true, true, true, true, false] rfl rfl (one_of HT_.out (by kernel_rfl)) (by decide) (fun K hK => ?_)
                refine goes_ Try.func127 (by kernel_rfl) rfl #[.agg #[.string ((rd_T116 l0 x5_1).f0), .slice A1152_1 ((rd_T116 l0 x5_1).f1).length c1152_1, .string ((rd_T116 l0 x5_1).f2)], .agg #[.string ((rd_T116 l1 x5_1).f0), .slice A1153_1 ((rd_T116 l1 x5_1).f1).length c1153_1, .string ((rd_T116 l1 x5_1).f2)]] (by rfl) rfl rfl (by (try simp only [List.map_toArray, List.map_cons, List.map_nil]); first | done | rfl | (simp only [List.length_drop, List.length_take]; rfl)) ?_
                with_reducible refine (laws_eqOp.calls k1 ((rd_T116 l0 x5_1).f0) _ _ ((rd_T116 l0 x5_1).f1) ((rd_T116 l0 x5_1).f2) ((rd_T116 l1 x5_1).f0) _ _ ((rd_T116 l1 x5_1).f1) ((rd_T116 l1 x5_1).f2) false _ ?side1 ?side2 ?side3 ?side4 A7.out).mono ?_
                (case side1 => repeat (first | exact (Kd.C_below HR1152_1.out HB.out) | (with_reducible refine cA ?_ _) | (with_reducible refine cN ?_ _) | (with_reducible refine cD ?_)))
                (case side2 => exact HC1152_1.out)
                (case side3 => repeat (first | exact (Kd.C_below HR1153_1.out HB.out) | (with_reducible refine cA ?_ _) | (with_reducible refine cN ?_ _) | (with_reducible refine cD ?_)))
                (case side4 => exact HC1153_1.out)
                rintro e w12 ⟨rfl, hb⟩
                refine ⟨_, rfl, ?_⟩
                have n0_ := am (below_step (by repeat (first | (with_reducible first | exact HB.out | apply bA | apply bN | apply bD) | exact HB.out)) hb)
                clear HB
                have HB := n0_
                clear n0_
                (try clear hb)
                (try clear hb2)
                (try clear hk)
                (try clear hi)
                refine hK.out _ _ ⟨((HB.out.cell (World.block_lt_of_cell? w _ hw1152_0)).trans hw1152_0), ((HB.out.cell (World.block_lt_of_cell? w _ hw1152_1)).trans hw1152_1), ((HB.out.cell (World.block_lt_of_cell? w _ hw1152_2)).trans hw1152_2), ((HB.out.cell (World.block_lt_of_cell? w _ hw1153_0)).trans hw1153_0), ((HB.out.cell (World.block_lt_of_cell? w _ hw1153_1)).trans hw1153_1), ((HB.out.cell (World.block_lt_of_cell? w _ hw1153_2)).trans hw1153_2)⟩ (fun hHeld => ?_)
                clear hK K
                refine norm_ (a' := ?_) ?_ ?_
                rotate_left
                · show Act.put _ (some 25) _ = _
                  simp only [Act.put, List.setIfInBounds_toArray, List.set_cons_zero, List.set_cons_succ, i64_w, i32_w]
                  rfl
                refine pure_ (i := 9) (N := some 26) (v := ?_) (a' := ?_) #[true, true, true, true, true, true, true, true, true, true] rfl rfl (any_of HT_.out (by kernel_rfl)) (fun _ _ _ h => h) (Or.inl ⟨by rfl, ?_⟩) ?_ ?_
                rotate_left
                · intro w'
                  go_simp
                  with_reducible rfl
                rotate_left
                · simp only [Act.put, List.setIfInBounds_toArray, List.set_cons_zero, List.set_cons_succ, i64_w, i32_w]
                  rfl
                refine done_ (done_of HT_.out (by kernel_rfl)) ?_
                try go_wp2
                go_ret
                exact ⟨by first | rfl | (simp [errW_none, errW_some] <;> rfl) | (simp [*, errW_none, errW_some] <;> rfl), by repeat (first | (with_reducible first | exact HB.out | apply bA | apply bN | apply bD) | exact HB.out)⟩
            · rw [if_neg c6] at H
              exact absurd H (by simp)
          · rw [if_neg c5] at H
            exact absurd H (by simp)
        · rw [if_neg c4] at H
          have c4b0 : decide (x5_1 < (l0.length : Int)) = false := decide_eq_false c4
          clear c4
          obtain rfl := Option.some.inj H
          go_wp2
          go_ret
          exact ⟨by first | rfl | (simp [errW_none, errW_some] <;> rfl) | (simp [*, errW_none, errW_some] <;> rfl), by repeat (first | (with_reducible first | exact HB.out | apply bA | apply bN | apply bD) | exact HB.out)⟩
  · rw [if_neg c3] at H
    have c3b0 : ((l0.length : Int) == (l1.length : Int)) = false := beq_eq_false_iff_ne.mpr c3
    have c3b1 : ((l0.length : Int) != (l1.length : Int)) = true := bne_iff_ne.mpr c3
    have c3b2 : (l0.length == l1.length) = false := by first | simpa using c3 | (simp at c3 ⊢; omega)
    obtain rfl := Option.some.inj H
    go_enter Try.func104, Try.ntmps104
    go_wp2
    go_ret
    exact ⟨by first | rfl | (simp [errW_none, errW_some] <;> rfl) | (simp [*, errW_none, errW_some] <;> rfl), by repeat (first | (with_reducible first | exact HB.out | apply bA | apply bN | apply bD) | exact HB.out)⟩

end Go.Proofs.Ytdgjddkibiffnaa.F
namespace Go.Proofs.Ytdgjddkibiffnaa.F
open Go.RowKit Go.Proofs.YtdgjddkibiffnaaW.PrintWords Go.Proofs.YtdgjddkibiffnaaW.PrintLast Go.Proofs.YtdgjddkibiffnaaW.PrintMore
attribute [local go_sem] binOp_string_gtr_ binOp_string_geq_ binOp_string_leq_ max2_int min2_int max_two min_two max_three min_three max_four min_four   -- for this text's walks alone
set_option linter.unusedVariables false
set_option linter.unusedSimpArgs false

/-! ### laws_eqSignature: function 52 -/
def laws_eqSignature.f (k : Nat) (l0_0 : List ByteArray) (l0_1 : List (S116)) (l1_0 : List ByteArray) (l1_1 : List (S116)) : Option (Bool) := (laws_eqStringS.f k l0_0 l1_0).bind fun t1157 => (if t1157 = true then ((laws_eqOpS.f k l0_1 l1_1).bind fun t1158 => (if t1158 = true then (some true) else (some false))) else (some false))
set_option maxHeartbeats 8000000 in
set_option maxRecDepth 100000 in
theorem laws_eqSignature.calls (k : Nat) (A0_0 : Option Addr) (c0_0 : Nat) (l0_0 : List ByteArray) (A0_1 : Option Addr) (c0_1 : Nat) (l0_1 : List (S116)) (A1_0 : Option Addr) (c1_0 : Nat) (l1_0 : List ByteArray) (A1_1 : Option Addr) (c1_1 : Nat) (l1_1 : List (S116)) (r : Bool) (w : World) (hr0_0 : Kd.C Kd.string w A0_0 l0_0.length l0_0) (hc0_0 : l0_0.length ≤ c0_0) (hr0_1 : Kd.C k116 w A0_1 l0_1.length l0_1) (hc0_1 : l0_1.length ≤ c0_1) (hr1_0 : Kd.C Kd.string w A1_0 l1_0.length l1_0) (hc1_0 : l1_0.length ≤ c1_0) (hr1_1 : Kd.C k116 w A1_1 l1_1.length l1_1) (hc1_1 : l1_1.length ≤ c1_1) (h : laws_eqSignature.f k l0_0 l0_1 l1_0 l1_1 = some r) :
    Calls Try.prog 52 #[.agg #[.slice A0_0 l0_0.length c0_0, .slice A0_1 l0_1.length c0_1], .agg #[.slice A1_0 l1_0.length c1_0, .slice A1_1 l1_1.length c1_1]] w fun e w' => e = .returned (.bool r) ∧ Below w.heap.size w w' := by
  have hu73 := Try.underlying73
  have HR0_0 := Aside0.mk hr0_0
  have HC0_0 := Aside0.mk hc0_0
  clear hr0_0 hc0_0
  have HR0_1 := Aside0.mk hr0_1
  have HC0_1 := Aside0.mk hc0_1
  clear hr0_1 hc0_1
  have HR1_0 := Aside0.mk hr1_0
  have HC1_0 := Aside0.mk hc1_0
  clear hr1_0 hc1_0
  have HR1_1 := Aside0.mk hr1_1
  have HC1_1 := Aside0.mk hc1_1
  clear hr1_1 hc1_1
  have HB := am (Below.refl w.heap.size w)
  have H : ((laws_eqStringS.f k l0_0 l1_0).bind fun t1157 => (if t1157 = true then ((laws_eqOpS.f k l0_1 l1_1).bind fun t1158 => (if t1158 = true then (some true) else (some false))) else (some false))) = some r := h
  clear h
  replace H := Option.bind_eq_some_iff.mp H
  obtain ⟨t1157, A30, H⟩ := H
  try dsimp only at H
  have A3 := Aside0.mk A30
  clear A30
  by_cases c4 : t1157 = true
  · subst c4
    have H1 : ((laws_eqOpS.f k l0_1 l1_1).bind fun t1158 => (if t1158 = true then (some true) else (some false))) = some r := by first | with_reducible rfl | (rw [if_pos rfl] at H; exact H)
    clear H
    have H := H1
    clear H1
    replace H := Option.bind_eq_some_iff.mp H
    obtain ⟨t1158, A50, H⟩ := H
    try dsimp only at H
    have A5 := Aside0.mk A50
    clear A50
    by_cases c6 : t1158 = true
    · subst c6
      have H1 : (some true) = some r := by first | with_reducible rfl | (rw [if_pos rfl] at H; exact H)
      clear H
      have H := H1
      clear H1
      obtain rfl := Option.some.inj H
      go_enter Try.func52, Try.ntmps52
      go_wp2_with (first | ((with_reducible refine gate_dst (N := 2) rfl ?_); refine box_event ?hg (N := 2) ?hd (cs := #[.slice A0_0 l0_0.length c0_0, .slice A0_1 l0_1.length c0_1]) (t := 73) ?hr ?_; (case hd => rfl); (case hg => rfl); (case hr => first | (go_simp; done) | (go_simp; rfl)); intro gb1155 hg w7 hbox hb; have n0_ := am (below_step (by repeat (first | (with_reducible first | exact HB.out | apply bA | apply bN | apply bD) | exact HB.out)) hb); have n1_ := am (hbox); have n2_ := am ((by rw [hg]; exact (below_size (by repeat (first | (with_reducible first | exact HB.out | apply bA | apply bN | apply bD) | exact HB.out))) : w.heap.size ≤ gb1155)); have n3_ := am ((by rw [hg]; exact (below_size (by repeat (first | (with_reducible first | exact HB.out | apply bA | apply bN | apply bD) | exact HB.out))) : w.heap.size ≤ gb1155)); clear HB; have HB := n0_; have BK1155 := n1_; have GW1155 := n2_; have GE1155 := n3_; clear n0_ n1_ n2_ n3_; clear hb hbox hg) | ((with_reducible refine gate_dst (N := 3) rfl ?_); refine box_event ?hg (N := 3) ?hd (cs := #[.slice A1_0 l1_0.length c1_0, .slice A1_1 l1_1.length c1_1]) (t := 73) ?hr ?_; (case hd => rfl); (case hg => rfl); (case hr => first | (go_simp; done) | (go_simp; rfl)); intro gb1156 hg w8 hbox hb; have n0_ := am (blk_below (g := gb1155) (o := .cells #[.slice A0_0 l0_0.length c0_0, .slice A0_1 l0_1.length c0_1] 73 (0, 0)) (by (with_reducible repeat (first | refine kN ?_ _ | refine kD ?_ | refine kA ?_ _)); exact BK1155.out) hb); have n1_ := am (below_step (by repeat (first | (with_reducible first | exact HB.out | apply bA | apply bN | apply bD | refine below_set ?_ GE1155.out) | exact HB.out)) hb); have n2_ := am (hbox); have n3_ := am ((by rw [hg]; exact (below_size (by repeat (first | (with_reducible first | exact HB.out | apply bA | apply bN | apply bD | refine below_set ?_ GE1155.out) | exact HB.out))) : w.heap.size ≤ gb1156)); have n4_ := am ((by rw [hg]; exact (below_size (by repeat (first | (with_reducible first | exact HB.out | apply bA | apply bN | apply bD | refine below_set ?_ GE1155.out) | exact HB.out))) : w.heap.size ≤ gb1156)); have n5_ := am ((by rw [hg]; exact Nat.ne_of_lt (blk_lt (g := gb1155) (o := .cells #[.slice A0_0 l0_0.length c0_0, .slice A0_1 l0_1.length c0_1] 73 (0, 0)) (by (with_reducible repeat (first | refine kN ?_ _ | refine kD ?_ | refine kA ?_ _)); exact BK1155.out)) : gb1155 ≠ gb1156)); have n6_ := am ((by rw [hg]; exact Nat.ne_of_gt (blk_lt (g := gb1155) (o := .cells #[.slice A0_0 l0_0.length c0_0, .slice A0_1 l0_1.length c0_1] 73 (0, 0)) (by (with_reducible repeat (first | refine kN ?_ _ | refine kD ?_ | refine kA ?_ _)); exact BK1155.out)) : gb1156 ≠ gb1155)); clear BK1155; clear HB; have BK1155 := n0_; have HB := n1_; have BK1156 := n2_; have GW1156 := n3_; have GE1156 := n4_; have NB1155_1156 := n5_; have NB1156_1155 := n6_; clear n0_ n1_ n2_ n3_ n4_ n5_ n6_; clear hb hbox hg; have hnb9 := NB1155_1156.out; have hnc9 := NB1156_1155.out; have hcz10_0 : w8.cell? ⟨gb1155, 0, none⟩ = some (.slice A0_0 l0_0.length c0_0) := (blk_cell BK1155.out 0).trans rfl; have hcz10_1 : w8.cell? ⟨gb1155, 1, none⟩ = some (.slice A0_1 l0_1.length c0_1) := (blk_cell BK1155.out 1).trans rfl; have hfz10_0 := blk_frozen BK1155.out 0; have hfz10_1 := blk_frozen BK1155.out 1; have hcz11_0 : w8.cell? ⟨gb1156, 0, none⟩ = some (.slice A1_0 l1_0.length c1_0) := (blk_cell BK1156.out 0).trans rfl; have hcz11_1 : w8.cell? ⟨gb1156, 1, none⟩ = some (.slice A1_1 l1_1.length c1_1) := (blk_cell BK1156.out 1).trans rfl; have hfz11_0 := blk_frozen BK1156.out 0; have hfz11_1 := blk_frozen BK1156.out 1) | ((with_reducible refine gate_callee (f := 58) rfl ?_); refine goesL_ (some 9) rfl rfl Try.func58 (by kernel_rfl) rfl #[.slice A0_0 l0_0.length c0_0, .slice A1_0 l1_0.length c1_0] rfl (by (try simp only [List.map_toArray, List.map_cons, List.map_nil]); first | done | rfl | (simp only [List.length_drop, List.length_take]; rfl)) ?_; (with_reducible refine (laws_eqStringS.calls k _ _ l0_0 _ _ l1_0 true _ ?side1 ?side2 ?side3 ?side4 A3.out).mono ?_); (case side1 => repeat (first | exact (Kd.C_below HR0_0.out HB.out) | (with_reducible refine cA ?_ _) | (with_reducible refine cN ?_ _) | (with_reducible refine cD ?_))); (case side2 => exact HC0_0.out); (case side3 => repeat (first | exact (Kd.C_below HR1_0.out HB.out) | (with_reducible refine cA ?_ _) | (with_reducible refine cN ?_ _) | (with_reducible refine cD ?_))); (case side4 => exact HC1_0.out); rintro e w' ⟨rfl, ⟨nd, rfl⟩⟩; refine ⟨_, rfl, ?_⟩) | ((with_reducible refine gate_callee (f := 104) rfl ?_); refine goesL_ (some 15) rfl rfl Try.func104 (by kernel_rfl) rfl #[.slice A0_1 l0_1.length c0_1, .slice A1_1 l1_1.length c1_1] rfl (by (try simp only [List.map_toArray, List.map_cons, List.map_nil]); first | done | rfl | (simp only [List.length_drop, List.length_take]; rfl)) ?_; (with_reducible refine (laws_eqOpS.calls k _ _ l0_1 _ _ l1_1 true _ ?side1 ?side2 ?side3 ?side4 A5.out).mono ?_); (case side1 => repeat (first | exact (Kd.C_below HR0_1.out (by repeat (first | (with_reducible first | exact HB.out | apply bA | apply bN | apply bD | refine below_set ?_ GE1155.out | refine below_set ?_ GE1156.out) | exact HB.out))) | (with_reducible refine cA ?_ _) | (with_reducible refine cN ?_ _) | (with_reducible refine cD ?_))); (case side2 => exact HC0_1.out); (case side3 => repeat (first | exact (Kd.C_below HR1_1.out (by repeat (first | (with_reducible first | exact HB.out | apply bA | apply bN | apply bD | refine below_set ?_ GE1155.out | refine below_set ?_ GE1156.out) | exact HB.out))) | (with_reducible refine cA ?_ _) | (with_reducible refine cN ?_ _) | (with_reducible refine cD ?_))); (case side4 => exact HC1_1.out); rintro e w12 ⟨rfl, hb⟩; refine ⟨_, rfl, ?_⟩; have n0_ := am (blk_below (g := gb1155) (o := .cells #[.slice A0_0 l0_0.length c0_0, .slice A0_1 l0_1.length c0_1] 73 (0, 0)) (by (with_reducible repeat (first | refine kN ?_ _ | refine kD ?_ | refine kA ?_ _)); exact BK1155.out) hb); have n1_ := am (blk_below (g := gb1156) (o := .cells #[.slice A1_0 l1_0.length c1_0, .slice A1_1 l1_1.length c1_1] 73 (0, 0)) (by (with_reducible repeat (first | refine kN ?_ _ | refine kD ?_ | refine kA ?_ _)); exact BK1156.out) hb); have n2_ := am (below_step (by repeat (first | (with_reducible first | exact HB.out | apply bA | apply bN | apply bD | refine below_set ?_ GE1155.out | refine below_set ?_ GE1156.out) | exact HB.out)) hb); clear BK1155; clear BK1156; clear HB; have BK1155 := n0_; have BK1156 := n1_; have HB := n2_; clear n0_ n1_ n2_))
      go_ret
      exact ⟨by first | rfl | (simp [errW_none, errW_some] <;> rfl) | (simp [*, errW_none, errW_some] <;> rfl), by repeat (first | (with_reducible first | exact HB.out | apply bA | apply bN | apply bD | refine below_set ?_ GE1155.out | refine below_set ?_ GE1156.out) | exact HB.out)⟩
    · replace c6 := Bool.eq_false_iff.mpr c6
      subst c6
      have H1 : (some false) = some r := by rw [if_neg (show ¬ (false = true) by decide)] at H; exact H
      clear H
      have H := H1
      clear H1
      obtain rfl := Option.some.inj H
      go_enter Try.func52, Try.ntmps52
      go_wp2_with (first | ((with_reducible refine gate_dst (N := 2) rfl ?_); refine box_event ?hg (N := 2) ?hd (cs := #[.slice A0_0 l0_0.length c0_0, .slice A0_1 l0_1.length c0_1]) (t := 73) ?hr ?_; (case hd => rfl); (case hg => rfl); (case hr => first | (go_simp; done) | (go_simp; rfl)); intro gb1155 hg w13 hbox hb; have n0_ := am (below_step (by repeat (first | (with_reducible first | exact HB.out | apply bA | apply bN | apply bD) | exact HB.out)) hb); have n1_ := am (hbox); have n2_ := am ((by rw [hg]; exact (below_size (by repeat (first | (with_reducible first | exact HB.out | apply bA | apply bN | apply bD) | exact HB.out))) : w.heap.size ≤ gb1155)); have n3_ := am ((by rw [hg]; exact (below_size (by repeat (first | (with_reducible first | exact HB.out | apply bA | apply bN | apply bD) | exact HB.out))) : w.heap.size ≤ gb1155)); clear HB; have HB := n0_; have BK1155 := n1_; have GW1155 := n2_; have GE1155 := n3_; clear n0_ n1_ n2_ n3_; clear hb hbox hg) | ((with_reducible refine gate_dst (N := 3) rfl ?_); refine box_event ?hg (N := 3) ?hd (cs := #[.slice A1_0 l1_0.length c1_0, .slice A1_1 l1_1.length c1_1]) (t := 73) ?hr ?_; (case hd => rfl); (case hg => rfl); (case hr => first | (go_simp; done) | (go_simp; rfl)); intro gb1156 hg w14 hbox hb; have n0_ := am (blk_below (g := gb1155) (o := .cells #[.slice A0_0 l0_0.length c0_0, .slice A0_1 l0_1.length c0_1] 73 (0, 0)) (by (with_reducible repeat (first | refine kN ?_ _ | refine kD ?_ | refine kA ?_ _)); exact BK1155.out) hb); have n1_ := am (below_step (by repeat (first | (with_reducible first | exact HB.out | apply bA | apply bN | apply bD | refine below_set ?_ GE1155.out) | exact HB.out)) hb); have n2_ := am (hbox); have n3_ := am ((by rw [hg]; exact (below_size (by repeat (first | (with_reducible first | exact HB.out | apply bA | apply bN | apply bD | refine below_set ?_ GE1155.out) | exact HB.out))) : w.heap.size ≤ gb1156)); have n4_ := am ((by rw [hg]; exact (below_size (by repeat (first | (with_reducible first | exact HB.out | apply bA | apply bN | apply bD | refine below_set ?_ GE1155.out) | exact HB.out))) : w.heap.size ≤ gb1156)); have n5_ := am ((by rw [hg]; exact Nat.ne_of_lt (blk_lt (g := gb1155) (o := .cells #[.slice A0_0 l0_0.length c0_0, .slice A0_1 l0_1.length c0_1] 73 (0, 0)) (by (with_reducible repeat (first | refine kN ?_ _ | refine kD ?_ | refine kA ?_ _)); exact BK1155.out)) : gb1155 ≠ gb1156)); have n6_ := am ((by rw [hg]; exact Nat.ne_of_gt (blk_lt (g := gb1155) (o := .cells #[.slice A0_0 l0_0.length c0_0, .slice A0_1 l0_1.length c0_1] 73 (0, 0)) (by (with_reducible repeat (first | refine kN ?_ _ | refine kD ?_ | refine kA ?_ _)); exact BK1155.out)) : gb1156 ≠ gb1155)); clear BK1155; clear HB; have BK1155 := n0_; have HB := n1_; have BK1156 := n2_; have GW1156 := n3_; have GE1156 := n4_; have NB1155_1156 := n5_; have NB1156_1155 := n6_; clear n0_ n1_ n2_ n3_ n4_ n5_ n6_; clear hb hbox hg; have hnb15 := NB1155_1156.out; have hnc15 := NB1156_1155.out; have hcz16_0 : w14.cell? ⟨gb1155, 0, none⟩ = some (.slice A0_0 l0_0.length c0_0) := (blk_cell BK1155.out 0).trans rfl; have hcz16_1 : w14.cell? ⟨gb1155, 1, none⟩ = some (.slice A0_1 l0_1.length c0_1) := (blk_cell BK1155.out 1).trans rfl; have hfz16_0 := blk_frozen BK1155.out 0; have hfz16_1 := blk_frozen BK1155.out 1; have hcz17_0 : w14.cell? ⟨gb1156, 0, none⟩ = some (.slice A1_0 l1_0.length c1_0) := (blk_cell BK1156.out 0).trans rfl; have hcz17_1 : w14.cell? ⟨gb1156, 1, none⟩ = some (.slice A1_1 l1_1.length c1_1) := (blk_cell BK1156.out 1).trans rfl; have hfz17_0 := blk_frozen BK1156.out 0; have hfz17_1 := blk_frozen BK1156.out 1) | ((with_reducible refine gate_callee (f := 58) rfl ?_); refine goesL_ (some 9) rfl rfl Try.func58 (by kernel_rfl) rfl #[.slice A0_0 l0_0.length c0_0, .slice A1_0 l1_0.length c1_0] rfl (by (try simp only [List.map_toArray, List.map_cons, List.map_nil]); first | done | rfl | (simp only [List.length_drop, List.length_take]; rfl)) ?_; (with_reducible refine (laws_eqStringS.calls k _ _ l0_0 _ _ l1_0 true _ ?side1 ?side2 ?side3 ?side4 A3.out).mono ?_); (case side1 => repeat (first | exact (Kd.C_below HR0_0.out HB.out) | (with_reducible refine cA ?_ _) | (with_reducible refine cN ?_ _) | (with_reducible refine cD ?_))); (case side2 => exact HC0_0.out); (case side3 => repeat (first | exact (Kd.C_below HR1_0.out HB.out) | (with_reducible refine cA ?_ _) | (with_reducible refine cN ?_ _) | (with_reducible refine cD ?_))); (case side4 => exact HC1_0.out); rintro e w' ⟨rfl, ⟨nd, rfl⟩⟩; refine ⟨_, rfl, ?_⟩) | ((with_reducible refine gate_callee (f := 104) rfl ?_); refine goesL_ (some 15) rfl rfl Try.func104 (by kernel_rfl) rfl #[.slice A0_1 l0_1.length c0_1, .slice A1_1 l1_1.length c1_1] rfl (by (try simp only [List.map_toArray, List.map_cons, List.map_nil]); first | done | rfl | (simp only [List.length_drop, List.length_take]; rfl)) ?_; (with_reducible refine (laws_eqOpS.calls k _ _ l0_1 _ _ l1_1 false _ ?side1 ?side2 ?side3 ?side4 A5.out).mono ?_); (case side1 => repeat (first | exact (Kd.C_below HR0_1.out (by repeat (first | (with_reducible first | exact HB.out | apply bA | apply bN | apply bD | refine below_set ?_ GE1155.out | refine below_set ?_ GE1156.out) | exact HB.out))) | (with_reducible refine cA ?_ _) | (with_reducible refine cN ?_ _) | (with_reducible refine cD ?_))); (case side2 => exact HC0_1.out); (case side3 => repeat (first | exact (Kd.C_below HR1_1.out (by repeat (first | (with_reducible first | exact HB.out | apply bA | apply bN | apply bD | refine below_set ?_ GE1155.out | refine below_set ?_ GE1156.out) | exact HB.out))) | (with_reducible refine cA ?_ _) | (with_reducible refine cN ?_ _) | (with_reducible refine cD ?_))); (case side4 => exact HC1_1.out); rintro e w18 ⟨rfl, hb⟩; refine ⟨_, rfl, ?_⟩; have n0_ := am (blk_below (g := gb1155) (o := .cells #[.slice A0_0 l0_0.length c0_0, .slice A0_1 l0_1.length c0_1] 73 (0, 0)) (by (with_reducible repeat (first | refine kN ?_ _ | refine kD ?_ | refine kA ?_ _)); exact BK1155.out) hb); have n1_ := am (blk_below (g := gb1156) (o := .cells #[.slice A1_0 l1_0.length c1_0, .slice A1_1 l1_1.length c1_1] 73 (0, 0)) (by (with_reducible repeat (first | refine kN ?_ _ | refine kD ?_ | refine kA ?_ _)); exact BK1156.out) hb); have n2_ := am (below_step (by repeat (first | (with_reducible first | exact HB.out | apply bA | apply bN | apply bD | refine below_set ?_ GE1155.out | refine below_set ?_ GE1156.out) | exact HB.out)) hb); clear BK1155; clear BK1156; clear HB; have BK1155 := n0_; have BK1156 := n1_; have HB := n2_; clear n0_ n1_ n2_))
      go_ret
      exact ⟨by first | rfl | (simp [errW_none, errW_some] <;> rfl) | (simp [*, errW_none, errW_some] <;> rfl), by repeat (first | (with_reducible first | exact HB.out | apply bA | apply bN | apply bD | refine below_set ?_ GE1155.out | refine below_set ?_ GE1156.out) | exact HB.out)⟩
  · replace c4 := Bool.eq_false_iff.mpr c4
    subst c4
    have H1 : (some false) = some r := by rw [if_neg (show ¬ (false = true) by decide)] at H; exact H
    clear H
    have H := H1
    clear H1
    obtain rfl := Option.some.inj H
    go_enter Try.func52, Try.ntmps52
    go_wp2_with (first | ((with_reducible refine gate_dst (N := 2) rfl ?_); refine box_event ?hg (N := 2) ?hd (cs := #[.slice A0_0 l0_0.length c0_0, .slice A0_1 l0_1.length c0_1]) (t := 73) ?hr ?_; (case hd => rfl); (case hg => rfl); (case hr => first | (go_simp; done) | (go_simp; rfl)); intro gb1155 hg w19 hbox hb; have n0_ := am (below_step (by repeat (first | (with_reducible first | exact HB.out | apply bA | apply bN | apply bD) | exact HB.out)) hb); have n1_ := am (hbox); have n2_ := am ((by rw [hg]; exact (below_size (by repeat (first | (with_reducible first | exact HB.out | apply bA | apply bN | apply bD) | exact HB.out))) : w.heap.size ≤ gb1155)); have n3_ := am ((by rw [hg]; exact (below_size (by repeat (first | (with_reducible first | exact HB.out | apply bA | apply bN | apply bD) | exact HB.out))) : w.heap.size ≤ gb1155)); clear HB; have HB := n0_; have BK1155 := n1_; have GW1155 := n2_; have GE1155 := n3_; clear n0_ n1_ n2_ n3_; clear hb hbox hg) | ((with_reducible refine gate_dst (N := 3) rfl ?_); refine box_event ?hg (N := 3) ?hd (cs := #[.slice A1_0 l1_0.length c1_0, .slice A1_1 l1_1.length c1_1]) (t := 73) ?hr ?_; (case hd => rfl); (case hg => rfl); (case hr => first | (go_simp; done) | (go_simp; rfl)); intro gb1156 hg w20 hbox hb; have n0_ := am (blk_below (g := gb1155) (o := .cells #[.slice A0_0 l0_0.length c0_0, .slice A0_1 l0_1.length c0_1] 73 (0, 0)) (by (with_reducible repeat (first | refine kN ?_ _ | refine kD ?_ | refine kA ?_ _)); exact BK1155.out) hb); have n1_ := am (below_step (by repeat (first | (with_reducible first | exact HB.out | apply bA | apply bN | apply bD | refine below_set ?_ GE1155.out) | exact HB.out)) hb); have n2_ := am (hbox); have n3_ := am ((by rw [hg]; exact (below_size (by repeat (first | (with_reducible first | exact HB.out | apply bA | apply bN | apply bD | refine below_set ?_ GE1155.out) | exact HB.out))) : w.heap.size ≤ gb1156)); have n4_ := am ((by rw [hg]; exact (below_size (by repeat (first | (with_reducible first | exact HB.out | apply bA | apply bN | apply bD | refine below_set ?_ GE1155.out) | exact HB.out))) : w.heap.size ≤ gb1156)); have n5_ := am ((by rw [hg]; exact Nat.ne_of_lt (blk_lt (g := gb1155) (o := .cells #[.slice A0_0 l0_0.length c0_0, .slice A0_1 l0_1.length c0_1] 73 (0, 0)) (by (with_reducible repeat (first | refine kN ?_ _ | refine kD ?_ | refine kA ?_ _)); exact BK1155.out)) : gb1155 ≠ gb1156)); have n6_ := am ((by rw [hg]; exact Nat.ne_of_gt (blk_lt (g := gb1155) (o := .cells #[.slice A0_0 l0_0.length c0_0, .slice A0_1 l0_1.length c0_1] 73 (0, 0)) (by (with_reducible repeat (first | refine kN ?_ _ | refine kD ?_ | refine kA ?_ _)); exact BK1155.out)) : gb1156 ≠ gb1155)); clear BK1155; clear HB; have BK1155 := n0_; have HB := n1_; have BK1156 := n2_; have GW1156 := n3_; have GE1156 := n4_; have NB1155_1156 := n5_; have NB1156_1155 := n6_; clear n0_ n1_ n2_ n3_ n4_ n5_ n6_; clear hb hbox hg; have hnb21 := NB1155_1156.out; have hnc21 := NB1156_1155.out; have hcz22_0 : w20.cell? ⟨gb1155, 0, none⟩ = some (.slice A0_0 l0_0.length c0_0) := (blk_cell BK1155.out 0).trans rfl; have hcz22_1 : w20.cell? ⟨gb1155, 1, none⟩ = some (.slice A0_1 l0_1.length c0_1) := (blk_cell BK1155.out 1).trans rfl; have hfz22_0 := blk_frozen BK1155.out 0; have hfz22_1 := blk_frozen BK1155.out 1; have hcz23_0 : w20.cell? ⟨gb1156, 0, none⟩ = some (.slice A1_0 l1_0.length c1_0) := (blk_cell BK1156.out 0).trans rfl; have hcz23_1 : w20.cell? ⟨gb1156, 1, none⟩ = some (.slice A1_1 l1_1.length c1_1) := (blk_cell BK1156.out 1).trans rfl; have hfz23_0 := blk_frozen BK1156.out 0; have hfz23_1 := blk_frozen BK1156.out 1) | ((with_reducible refine gate_callee (f := 58) rfl ?_); refine goesL_ (some 9) rfl rfl Try.func58 (by kernel_rfl) rfl #[.slice A0_0 l0_0.length c0_0, .slice A1_0 l1_0.length c1_0] rfl (by (try simp only [List.map_toArray, List.map_cons, List.map_nil]); first | done | rfl | (simp only [List.length_drop, List.length_take]; rfl)) ?_; (with_reducible refine (laws_eqStringS.calls k _ _ l0_0 _ _ l1_0 false _ ?side1 ?side2 ?side3 ?side4 A3.out).mono ?_); (case side1 => repeat (first | exact (Kd.C_below HR0_0.out HB.out) | (with_reducible refine cA ?_ _) | (with_reducible refine cN ?_ _) | (with_reducible refine cD ?_))); (case side2 => exact HC0_0.out); (case side3 => repeat (first | exact (Kd.C_below HR1_0.out HB.out) | (with_reducible refine cA ?_ _) | (with_reducible refine cN ?_ _) | (with_reducible refine cD ?_))); (case side4 => exact HC1_0.out); rintro e w' ⟨rfl, ⟨nd, rfl⟩⟩; refine ⟨_, rfl, ?_⟩))
    go_ret
    exact ⟨by first | rfl | (simp [errW_none, errW_some] <;> rfl) | (simp [*, errW_none, errW_some] <;> rfl), by repeat (first | (with_reducible first | exact HB.out | apply bA | apply bN | apply bD | refine below_set ?_ GE1155.out | refine below_set ?_ GE1156.out) | exact HB.out)⟩

end Go.Proofs.Ytdgjddkibiffnaa.F
namespace Go.Proofs.Ytdgjddkibiffnaa.F
open Go.RowKit Go.Proofs.YtdgjddkibiffnaaW.PrintWords Go.Proofs.YtdgjddkibiffnaaW.PrintLast Go.Proofs.YtdgjddkibiffnaaW.PrintMore
attribute [local go_sem] binOp_string_gtr_ binOp_string_geq_ binOp_string_leq_ max2_int min2_int max_two min_two max_three min_three max_four min_four   -- for this text's walks alone
set_option linter.unusedVariables false
set_option linter.unusedSimpArgs false

/-! ### laws_eqVarSort: function 105 -/
def laws_eqVarSort.f (a0_0 : ByteArray) (a0_1 : ByteArray) (a1_0 : ByteArray) (a1_1 : ByteArray) : Option (Bool) := if a0_0.toList = a1_0.toList then (if a0_1.toList = a1_1.toList then (some true) else (some false)) else (some false)
set_option maxHeartbeats 8000000 in
set_option maxRecDepth 100000 in
theorem laws_eqVarSort.calls (a0_0 : ByteArray) (a0_1 : ByteArray) (a1_0 : ByteArray) (a1_1 : ByteArray) (r : Bool) (w : World) (h : laws_eqVarSort.f a0_0 a0_1 a1_0 a1_1 = some r) :
    Calls Try.prog 105 #[.agg #[.string a0_0, .string a0_1], .agg #[.string a1_0, .string a1_1]] w fun e w' => e = .returned (.bool r) ∧ Below w.heap.size w w' := by
  have hu120 := Try.underlying120
  have HB := am (Below.refl w.heap.size w)
  have H : (if a0_0.toList = a1_0.toList then (if a0_1.toList = a1_1.toList then (some true) else (some false)) else (some false)) = some r := h
  clear h
  by_cases c3 : a0_0.toList = a1_0.toList
  · rw [if_pos c3] at H
    have c3b0 : (a0_0.toList == a1_0.toList) = true := beq_iff_eq.mpr c3
    have c3b1 : (a0_0.toList != a1_0.toList) = false := bne_eq_false_iff_eq.mpr c3
    clear c3
    by_cases c4 : a0_1.toList = a1_1.toList
    · rw [if_pos c4] at H
      have c4b0 : (a0_1.toList == a1_1.toList) = true := beq_iff_eq.mpr c4
      have c4b1 : (a0_1.toList != a1_1.toList) = false := bne_eq_false_iff_eq.mpr c4
      clear c4
      obtain rfl := Option.some.inj H
      go_enter Try.func105, Try.ntmps105
      go_wp2_with (first | ((with_reducible refine gate_dst (N := 2) rfl ?_); refine box_event ?hg (N := 2) ?hd (cs := #[.string a0_0, .string a0_1]) (t := 120) ?hr ?_; (case hd => rfl); (case hg => rfl); (case hr => first | (go_simp; done) | (go_simp; rfl)); intro gb1159 hg w5 hbox hb; have n0_ := am (below_step (by repeat (first | (with_reducible first | exact HB.out | apply bA | apply bN | apply bD) | exact HB.out)) hb); have n1_ := am (hbox); have n2_ := am ((by rw [hg]; exact (below_size (by repeat (first | (with_reducible first | exact HB.out | apply bA | apply bN | apply bD) | exact HB.out))) : w.heap.size ≤ gb1159)); have n3_ := am ((by rw [hg]; exact (below_size (by repeat (first | (with_reducible first | exact HB.out | apply bA | apply bN | apply bD) | exact HB.out))) : w.heap.size ≤ gb1159)); clear HB; have HB := n0_; have BK1159 := n1_; have GW1159 := n2_; have GE1159 := n3_; clear n0_ n1_ n2_ n3_; clear hb hbox hg) | ((with_reducible refine gate_dst (N := 3) rfl ?_); refine box_event ?hg (N := 3) ?hd (cs := #[.string a1_0, .string a1_1]) (t := 120) ?hr ?_; (case hd => rfl); (case hg => rfl); (case hr => first | (go_simp; done) | (go_simp; rfl)); intro gb1160 hg w6 hbox hb; have n0_ := am (blk_below (g := gb1159) (o := .cells #[.string a0_0, .string a0_1] 120 (0, 0)) (by (with_reducible repeat (first | refine kN ?_ _ | refine kD ?_ | refine kA ?_ _)); exact BK1159.out) hb); have n1_ := am (below_step (by repeat (first | (with_reducible first | exact HB.out | apply bA | apply bN | apply bD | refine below_set ?_ GE1159.out) | exact HB.out)) hb); have n2_ := am (hbox); have n3_ := am ((by rw [hg]; exact (below_size (by repeat (first | (with_reducible first | exact HB.out | apply bA | apply bN | apply bD | refine below_set ?_ GE1159.out) | exact HB.out))) : w.heap.size ≤ gb1160)); have n4_ := am ((by rw [hg]; exact (below_size (by repeat (first | (with_reducible first | exact HB.out | apply bA | apply bN | apply bD | refine below_set ?_ GE1159.out) | exact HB.out))) : w.heap.size ≤ gb1160)); have n5_ := am ((by rw [hg]; exact Nat.ne_of_lt (blk_lt (g := gb1159) (o := .cells #[.string a0_0, .string a0_1] 120 (0, 0)) (by (with_reducible repeat (first | refine kN ?_ _ | refine kD ?_ | refine kA ?_ _)); exact BK1159.out)) : gb1159 ≠ gb1160)); have n6_ := am ((by rw [hg]; exact Nat.ne_of_gt (blk_lt (g := gb1159) (o := .cells #[.string a0_0, .string a0_1] 120 (0, 0)) (by (with_reducible repeat (first | refine kN ?_ _ | refine kD ?_ | refine kA ?_ _)); exact BK1159.out)) : gb1160 ≠ gb1159)); clear BK1159; clear HB; have BK1159 := n0_; have HB := n1_; have BK1160 := n2_; have GW1160 := n3_; have GE1160 := n4_; have NB1159_1160 := n5_; have NB1160_1159 := n6_; clear n0_ n1_ n2_ n3_ n4_ n5_ n6_; clear hb hbox hg; have hnb7 := NB1159_1160.out; have hnc7 := NB1160_1159.out; have hcz8_0 : w6.cell? ⟨gb1159, 0, none⟩ = some (.string a0_0) := (blk_cell BK1159.out 0).trans rfl; have hcz8_1 : w6.cell? ⟨gb1159, 1, none⟩ = some (.string a0_1) := (blk_cell BK1159.out 1).trans rfl; have hfz8_0 := blk_frozen BK1159.out 0; have hfz8_1 := blk_frozen BK1159.out 1; have hcz9_0 : w6.cell? ⟨gb1160, 0, none⟩ = some (.string a1_0) := (blk_cell BK1160.out 0).trans rfl; have hcz9_1 : w6.cell? ⟨gb1160, 1, none⟩ = some (.string a1_1) := (blk_cell BK1160.out 1).trans rfl; have hfz9_0 := blk_frozen BK1160.out 0; have hfz9_1 := blk_frozen BK1160.out 1))
      go_ret
      exact ⟨by first | rfl | (simp [errW_none, errW_some] <;> rfl) | (simp [*, errW_none, errW_some] <;> rfl), by repeat (first | (with_reducible first | exact HB.out | apply bA | apply bN | apply bD | refine below_set ?_ GE1159.out | refine below_set ?_ GE1160.out) | exact HB.out)⟩
    · rw [if_neg c4] at H
      have c4b0 : (a0_1.toList == a1_1.toList) = false := beq_eq_false_iff_ne.mpr c4
      have c4b1 : (a0_1.toList != a1_1.toList) = true := bne_iff_ne.mpr c4
      obtain rfl := Option.some.inj H
      go_enter Try.func105, Try.ntmps105
      go_wp2_with (first | ((with_reducible refine gate_dst (N := 2) rfl ?_); refine box_event ?hg (N := 2) ?hd (cs := #[.string a0_0, .string a0_1]) (t := 120) ?hr ?_; (case hd => rfl); (case hg => rfl); (case hr => first | (go_simp; done) | (go_simp; rfl)); intro gb1159 hg w10 hbox hb; have n0_ := am (below_step (by repeat (first | (with_reducible first | exact HB.out | apply bA | apply bN | apply bD) | exact HB.out)) hb); have n1_ := am (hbox); have n2_ := am ((by rw [hg]; exact (below_size (by repeat (first | (with_reducible first | exact HB.out | apply bA | apply bN | apply bD) | exact HB.out))) : w.heap.size ≤ gb1159)); have n3_ := am ((by rw [hg]; exact (below_size (by repeat (first | (with_reducible first | exact HB.out | apply bA | apply bN | apply bD) | exact HB.out))) : w.heap.size ≤ gb1159)); clear HB; have HB := n0_; have BK1159 := n1_; have GW1159 := n2_; have GE1159 := n3_; clear n0_ n1_ n2_ n3_; clear hb hbox hg) | ((with_reducible refine gate_dst (N := 3) rfl ?_); refine box_event ?hg (N := 3) ?hd (cs := #[.string a1_0, .string a1_1]) (t := 120) ?hr ?_; (case hd => rfl); (case hg => rfl); (case hr => first | (go_simp; done) | (go_simp; rfl)); intro gb1160 hg w11 hbox hb; have n0_ := am (blk_below (g := gb1159) (o := .cells #[.string a0_0, .string a0_1] 120 (0, 0)) (by (with_reducible repeat (first | refine kN ?_ _ | refine kD ?_ | refine kA ?_ _)); exact BK1159.out) hb); have n1_ := am (below_step (by repeat (first | (with_reducible first | exact HB.out | apply bA | apply bN | apply bD | refine below_set ?_ GE1159.out) | exact HB.out)) hb); have n2_ := am (hbox); have n3_ := am ((by rw [hg]; exact (below_size (by repeat (first | (with_reducible first | exact HB.out | apply bA | apply bN | apply bD | refine below_set ?_ GE1159.out) | exact HB.out))) : w.heap.size ≤ gb1160)); have n4_ := am ((by rw [hg]; exact (below_size (by repeat (first | (with_reducible first | exact HB.out | apply bA | apply bN | apply bD | refine below_set ?_ GE1159.out) | exact HB.out))) : w.heap.size ≤ gb1160)); have n5_ := am ((by rw [hg]; exact Nat.ne_of_lt (blk_lt (g := gb1159) (o := .cells #[.string a0_0, .string a0_1] 120 (0, 0)) (by (with_reducible repeat (first | refine kN ?_ _ | refine kD ?_ | refine kA ?_ _)); exact BK1159.out)) : gb1159 ≠ gb1160)); have n6_ := am ((by rw [hg]; exact Nat.ne_of_gt (blk_lt (g := gb1159) (o := .cells #[.string a0_0, .string a0_1] 120 (0, 0)) (by (with_reducible repeat (first | refine kN ?_ _ | refine kD ?_ | refine kA ?_ _)); exact BK1159.out)) : gb1160 ≠ gb1159)); clear BK1159; clear HB; have BK1159 := n0_; have HB := n1_; have BK1160 := n2_; have GW1160 := n3_; have GE1160 := n4_; have NB1159_1160 := n5_; have NB1160_1159 := n6_; clear n0_ n1_ n2_ n3_ n4_ n5_ n6_; clear hb hbox hg; have hnb12 := NB1159_1160.out; have hnc12 := NB1160_1159.out; have hcz13_0 : w11.cell? ⟨gb1159, 0, none⟩ = some (.string a0_0) := (blk_cell BK1159.out 0).trans rfl; have hcz13_1 : w11.cell? ⟨gb1159, 1, none⟩ = some (.string a0_1) := (blk_cell BK1159.out 1).trans rfl; have hfz13_0 := blk_frozen BK1159.out 0; have hfz13_1 := blk_frozen BK1159.out 1; have hcz14_0 : w11.cell? ⟨gb1160, 0, none⟩ = some (.string a1_0) := (blk_cell BK1160.out 0).trans rfl; have hcz14_1 : w11.cell? ⟨gb1160, 1, none⟩ = some (.string a1_1) := (blk_cell BK1160.out 1).trans rfl; have hfz14_0 := blk_frozen BK1160.out 0; have hfz14_1 := blk_frozen BK1160.out 1))
      go_ret
      exact ⟨by first | rfl | (simp [errW_none, errW_some] <;> rfl) | (simp [*, errW_none, errW_some] <;> rfl), by repeat (first | (with_reducible first | exact HB.out | apply bA | apply bN | apply bD | refine below_set ?_ GE1159.out | refine below_set ?_ GE1160.out) | exact HB.out)⟩
  · rw [if_neg c3] at H
    have c3b0 : (a0_0.toList == a1_0.toList) = false := beq_eq_false_iff_ne.mpr c3
    have c3b1 : (a0_0.toList != a1_0.toList) = true := bne_iff_ne.mpr c3
    obtain rfl := Option.some.inj H
    go_enter Try.func105, Try.ntmps105
    go_wp2_with (first | ((with_reducible refine gate_dst (N := 2) rfl ?_); refine box_event ?hg (N := 2) ?hd (cs := #[.string a0_0, .string a0_1]) (t := 120) ?hr ?_; (case hd => rfl); (case hg => rfl); (case hr => first | (go_simp; done) | (go_simp; rfl)); intro gb1159 hg w15 hbox hb; have n0_ := am (below_step (by repeat (first | (with_reducible first | exact HB.out | apply bA | apply bN | apply bD) | exact HB.out)) hb); have n1_ := am (hbox); have n2_ := am ((by rw [hg]; exact (below_size (by repeat (first | (with_reducible first | exact HB.out | apply bA | apply bN | apply bD) | exact HB.out))) : w.heap.size ≤ gb1159)); have n3_ := am ((by rw [hg]; exact (below_size (by repeat (first | (with_reducible first | exact HB.out | apply bA | apply bN | apply bD) | exact HB.out))) : w.heap.size ≤ gb1159)); clear HB; have HB := n0_; have BK1159 := n1_; have GW1159 := n2_; have GE1159 := n3_; clear n0_ n1_ n2_ n3_; clear hb hbox hg) | ((with_reducible refine gate_dst (N := 3) rfl ?_); refine box_event ?hg (N := 3) ?hd (cs := #[.string a1_0, .string a1_1]) (t := 120) ?hr ?_; (case hd => rfl); (case hg => rfl); (case hr => first | (go_simp; done) | (go_simp; rfl)); intro gb1160 hg w16 hbox hb; have n0_ := am (blk_below (g := gb1159) (o := .cells #[.string a0_0, .string a0_1] 120 (0, 0)) (by (with_reducible repeat (first | refine kN ?_ _ | refine kD ?_ | refine kA ?_ _)); exact BK1159.out) hb); have n1_ := am (below_step (by repeat (first | (with_reducible first | exact HB.out | apply bA | apply bN | apply bD | refine below_set ?_ GE1159.out) | exact HB.out)) hb); have n2_ := am (hbox); have n3_ := am ((by rw [hg]; exact (below_size (by repeat (first | (with_reducible first | exact HB.out | apply bA | apply bN | apply bD | refine below_set ?_ GE1159.out) | exact HB.out))) : w.heap.size ≤ gb1160)); have n4_ := am ((by rw [hg]; exact (below_size (by repeat (first | (with_reducible first | exact HB.out | apply bA | apply bN | apply bD | refine below_set ?_ GE1159.out) | exact HB.out))) : w.heap.size ≤ gb1160)); have n5_ := am ((by rw [hg]; exact Nat.ne_of_lt (blk_lt (g := gb1159) (o := .cells #[.string a0_0, .string a0_1] 120 (0, 0)) (by (with_reducible repeat (first | refine kN ?_ _ | refine kD ?_ | refine kA ?_ _)); exact BK1159.out)) : gb1159 ≠ gb1160)); have n6_ := am ((by rw [hg]; exact Nat.ne_of_gt (blk_lt (g := gb1159) (o := .cells #[.string a0_0, .string a0_1] 120 (0, 0)) (by (with_reducible repeat (first | refine kN ?_ _ | refine kD ?_ | refine kA ?_ _)); exact BK1159.out)) : gb1160 ≠ gb1159)); clear BK1159; clear HB; have BK1159 := n0_; have HB := n1_; have BK1160 := n2_; have GW1160 := n3_; have GE1160 := n4_; have NB1159_1160 := n5_; have NB1160_1159 := n6_; clear n0_ n1_ n2_ n3_ n4_ n5_ n6_; clear hb hbox hg; have hnb17 := NB1159_1160.out; have hnc17 := NB1160_1159.out; have hcz18_0 : w16.cell? ⟨gb1159, 0, none⟩ = some (.string a0_0) := (blk_cell BK1159.out 0).trans rfl; have hcz18_1 : w16.cell? ⟨gb1159, 1, none⟩ = some (.string a0_1) := (blk_cell BK1159.out 1).trans rfl; have hfz18_0 := blk_frozen BK1159.out 0; have hfz18_1 := blk_frozen BK1159.out 1; have hcz19_0 : w16.cell? ⟨gb1160, 0, none⟩ = some (.string a1_0) := (blk_cell BK1160.out 0).trans rfl; have hcz19_1 : w16.cell? ⟨gb1160, 1, none⟩ = some (.string a1_1) := (blk_cell BK1160.out 1).trans rfl; have hfz19_0 := blk_frozen BK1160.out 0; have hfz19_1 := blk_frozen BK1160.out 1))
    go_ret
    exact ⟨by first | rfl | (simp [errW_none, errW_some] <;> rfl) | (simp [*, errW_none, errW_some] <;> rfl), by repeat (first | (with_reducible first | exact HB.out | apply bA | apply bN | apply bD | refine below_set ?_ GE1159.out | refine below_set ?_ GE1160.out) | exact HB.out)⟩

end Go.Proofs.Ytdgjddkibiffnaa.F
namespace Go.Proofs.Ytdgjddkibiffnaa.F
open Go.RowKit Go.Proofs.YtdgjddkibiffnaaW.PrintWords Go.Proofs.YtdgjddkibiffnaaW.PrintLast Go.Proofs.YtdgjddkibiffnaaW.PrintMore
attribute [local go_sem] binOp_string_gtr_ binOp_string_geq_ binOp_string_leq_ max2_int min2_int max_two min_two max_three min_three max_four min_four   -- for this text's walks alone
set_option linter.unusedVariables false
set_option linter.unusedSimpArgs false

/-! ### laws_eqVarSortS: function 53 -/
def laws_eqVarSortS.l0 : Nat → List (S120) → List (S120) → Int → Option (Bool)
  | 0, _, _, _ => none
  | k + 1, x0, x1, x5 => if x5 < (x0.length : Int) then (if 0 ≤ x5 then (if x5 < (x1.length : Int) then ((laws_eqVarSort.f ((rd_T120 x0 x5).f0) ((rd_T120 x0 x5).f1) ((rd_T120 x1 x5).f0) ((rd_T120 x1 x5).f1)).bind fun t1163 => (if t1163 = true then (laws_eqVarSortS.l0 k x0 x1 (wrap64 (x5 + 1))) else (some false))) else (none)) else (none)) else (some true)
def laws_eqVarSortS.f (k : Nat) (l0 : List (S120)) (l1 : List (S120)) : Option (Bool) := if (l0.length : Int) = (l1.length : Int) then (laws_eqVarSortS.l0 k l0 l1 0) else (some false)
def laws_eqVarSortS.T6 : Bool × List (List Nat × List Nat) := (true, [([], []), ([], []), ([0, 1], [0, 1]), ([2], [2]), ([], []), ([], []), ([4, 5], [4, 5]), ([6], [6]), ([3, 7], [3, 7]), ([8], [8])])
def laws_eqVarSortS.B6 : List Nat := [0, 0, 3, 7, 0, 0, 48, 112, 255, 511]
theorem laws_eqVarSortS.tab6 : rtab .any (opsOf Try.f53 6) = laws_eqVarSortS.T6 := by kernel_rfl
theorem laws_eqVarSortS.bits6 : waitsOk laws_eqVarSortS.T6.2 laws_eqVarSortS.B6 = true := by kernel_rfl
set_option maxHeartbeats 8000000 in
set_option maxRecDepth 100000 in
theorem laws_eqVarSortS.calls (k : Nat) (A0 : Option Addr) (c0 : Nat) (l0 : List (S120)) (A1 : Option Addr) (c1 : Nat) (l1 : List (S120)) (r : Bool) (w : World) (hr0 : Kd.C k120 w A0 l0.length l0) (hc0 : l0.length ≤ c0) (hr1 : Kd.C k120 w A1 l1.length l1) (hc1 : l1.length ≤ c1) (h : laws_eqVarSortS.f k l0 l1 = some r) :
    Calls Try.prog 53 #[.slice A0 l0.length c0, .slice A1 l1.length c1] w fun e w' => e = .returned (.bool r) ∧ Below w.heap.size w w' := by
  have hu120 := Try.underlying120
  have HR0 := Aside0.mk hr0
  have HC0 := Aside0.mk hc0
  clear hr0 hc0
  have HR1 := Aside0.mk hr1
  have HC1 := Aside0.mk hc1
  clear hr1 hc1
  have HB := am (Below.refl w.heap.size w)
  have H : (if (l0.length : Int) = (l1.length : Int) then (laws_eqVarSortS.l0 k l0 l1 0) else (some false)) = some r := h
  clear h
  by_cases c3 : (l0.length : Int) = (l1.length : Int)
  · rw [if_pos c3] at H
    have c3b0 : ((l0.length : Int) == (l1.length : Int)) = true := beq_iff_eq.mpr c3
    have c3b1 : ((l0.length : Int) != (l1.length : Int)) = false := bne_eq_false_iff_eq.mpr c3
    have c3b2 : (l0.length == l1.length) = true := by first | simpa using c3 | (simp at c3 ⊢; omega)
    clear c3
    have H' := Aside0.mk H
    clear H
    go_enter Try.func53, Try.ntmps53
    go_wp2
    go_loopg [5] k (fun kq v5 w' => ∃ (x5_1 : Int), v5 = .int .i64 x5_1 ∧ Aside0 (laws_eqVarSortS.l0 kq l0 l1 x5_1 = some r) ∧ Aside0 (kq ≤ k) ∧ Aside0 (Below w.heap.size w w'))
    case atStart => exact ⟨(0), (by first | rfl | (simp; done) | (simp [*]; done)), H', ⟨Nat.le_refl _⟩, ⟨by repeat (first | (with_reducible first | exact HB.out | apply bA | apply bN | apply bD) | exact HB.out)⟩⟩
    case round =>
      clear H'
      obtain ⟨x5_1, rfl, HA, HK1, HB⟩ := hrel
      cases gk with
      | zero => exact absurd HA.out (by simp [laws_eqVarSortS.l0])
      | succ k1 =>
        have H := HA.out
        clear HA
        simp only [laws_eqVarSortS.l0] at H
        by_cases c4 : x5_1 < (l0.length : Int)
        · rw [if_pos c4] at H
          have c4b0 : decide (x5_1 < (l0.length : Int)) = true := decide_eq_true c4
          clear c4
          by_cases c5 : 0 ≤ x5_1
          · rw [if_pos c5] at H
            have c5b0 : decide (0 ≤ x5_1) = true := decide_eq_true c5
            clear c5
            by_cases c6 : x5_1 < (l1.length : Int)
            · rw [if_pos c6] at H
              have c6b0 : decide (x5_1 < (l1.length : Int)) = true := decide_eq_true c6
              clear c6
              replace H := Option.bind_eq_some_iff.mp H
              obtain ⟨t1163, A70, H⟩ := H
              try dsimp only at H
              have A7 := Aside0.mk A70
              clear A70
              by_cases c8 : t1163 = true
              · subst c8
                have H1 : (laws_eqVarSortS.l0 k1 l0 l1 (wrap64 (x5_1 + 1))) = some r := by first | with_reducible rfl | (rw [if_pos rfl] at H; exact H)
                clear H
                have H := H1
                clear H1
                have H' := Aside0.mk H
                clear H
                try go_wp2
                have n0_ := am (below_drew1 HB.out)
                clear HB
                have HB := n0_
                clear n0_
                have p1161 : 0 ≤ (x5_1 : Int) := of_decide_eq_true (by assumption)
                have q1161 : x5_1 < (l0.length : Int) := of_decide_eq_true (by assumption)
                obtain ⟨ad1161, e1161, hx1161_0, hx1161_1⟩ := at_T120 HR0.out x5_1 p1161 q1161
                have hw1161_1 := hx1161_1
                have hw1161_0 := hx1161_0
                cases e1161
                replace hx1161_0 := (HB.out.cell (World.block_lt_of_cell? w _ hx1161_0)).trans hx1161_0
                replace hx1161_1 := (HB.out.cell (World.block_lt_of_cell? w _ hx1161_1)).trans hx1161_1
                replace p1161 := eq_true p1161
                replace q1161 := eq_true q1161
                have p1162 : 0 ≤ (x5_1 : Int) := of_decide_eq_true (by assumption)
                have q1162 : x5_1 < (l1.length : Int) := of_decide_eq_true (by assumption)
                obtain ⟨ad1162, e1162, hx1162_0, hx1162_1⟩ := at_T120 HR1.out x5_1 p1162 q1162
                have hw1162_1 := hx1162_1
                have hw1162_0 := hx1162_0
                cases e1162
                replace hx1162_0 := (HB.out.cell (World.block_lt_of_cell? w _ hx1162_0)).trans hx1162_0
                replace hx1162_1 := (HB.out.cell (World.block_lt_of_cell? w _ hx1162_1)).trans hx1162_1
                replace p1162 := eq_true p1162
                replace q1162 := eq_true q1162
                refine start_ (n := 10) (S := fun w' => w'.cell? (ad1161.add ((x5_1).toNat * 2)) = some (.string ((rd_T120 l0 x5_1).f0)) ∧ w'.cell? ⟨(ad1161.add ((x5_1).toNat * 2)).block, (ad1161.add ((x5_1).toNat * 2)).off + 1, none⟩ = some (.string ((rd_T120 l0 x5_1).f1)) ∧ w'.cell? (ad1162.add ((x5_1).toNat * 2)) = some (.string ((rd_T120 l1 x5_1).f0)) ∧ w'.cell? ⟨(ad1162.add ((x5_1).toNat * 2)).block, (ad1162.add ((x5_1).toNat * 2)).off + 1, none⟩ = some (.string ((rd_T120 l1 x5_1).f1))) (ds := []) #[false, false, false, false, false, false, false, false, false, false] (by kernel_rfl) rfl rfl ⟨((HB.out.cell (World.block_lt_of_cell? w _ hw1161_0)).trans hw1161_0), ((HB.out.cell (World.block_lt_of_cell? w _ hw1161_1)).trans hw1161_1), ((HB.out.cell (World.block_lt_of_cell? w _ hw1162_0)).trans hw1162_0), ((HB.out.cell (World.block_lt_of_cell? w _ hw1162_1)).trans hw1162_1)⟩ (fun hHeld => ?_); refine with_tabW laws_eqVarSortS.tab6 laws_eqVarSortS.bits6 (fun HT_ HW_ => ?_)
                generalize wr.drew = w9 at HB hx1161_0 hx1161_1 hx1162_0 hx1162_1 hHeld ⊢
                refine pure_ (i := 0) (N := some 17) (v := ?_) (a' := ?_) #[true, false, false, false, false, false, false, false, false, false] rfl rfl (any_of HT_.out (by kernel_rfl)) (fun _ _ _ h => h) (Or.inl ⟨by rfl, ?_⟩) ?_ ?_
                rotate_left
                · intro w'
                  go_simp
                  with_reducible rfl
                rotate_left
                · simp only [Act.put, List.setIfInBounds_toArray, List.set_cons_zero, List.set_cons_succ, i64_w, i32_w]
                  rfl
                refine pure_ (i := 1) (N := some 18) (v := ?_) (a' := ?_) #[true, true, false, false, false, false, false, false, false, false] rfl rfl (any_of HT_.out (by kernel_rfl)) (fun _ _ _ h => h) (Or.inl ⟨by rfl, ?_⟩) ?_ ?_
                rotate_left
                · intro w'
                  go_simp
                  with_reducible rfl
                rotate_left
                · simp only [Act.put, List.setIfInBounds_toArray, List.set_cons_zero, List.set_cons_succ, i64_w, i32_w]
                  rfl
                refine pure_ (i := 2) (N := some 19) (v := ?_) (a' := ?_) #[true, true, true, false, false, false, false, false, false, false] rfl rfl (any_of HT_.out (by kernel_rfl)) (fun _ _ _ h => h) (Or.inl ⟨by rfl, ?_⟩) ?_ ?_
                rotate_left
                · intro w'
                  go_simp
                  with_reducible rfl
                rotate_left
                · simp only [Act.put, List.setIfInBounds_toArray, List.set_cons_zero, List.set_cons_succ, i64_w, i32_w]
                  rfl
                refine pure_ (i := 4) (N := some 21) (v := ?_) (a' := ?_) #[true, true, true, false, true, false, false, false, false, false] rfl rfl (any_of HT_.out (by kernel_rfl)) (fun _ _ _ h => h) (Or.inl ⟨by rfl, ?_⟩) ?_ ?_
                rotate_left
                · intro w'
                  go_simp
                  with_reducible rfl
                rotate_left
                · simp only [Act.put, List.setIfInBounds_toArray, List.set_cons_zero, List.set_cons_succ, i64_w, i32_w]
                  rfl
                refine pure_ (i := 5) (N := some 22) (v := ?_) (a' := ?_) #[true, true, true, false, true, true, false, false, false, false] rfl rfl (any_of HT_.out (by kernel_rfl)) (fun _ _ _ h => h) (Or.inl ⟨by rfl, ?_⟩) ?_ ?_
                rotate_left
                · intro w'
                  go_simp
                  with_reducible rfl
                rotate_left
                · simp only [Act.put, List.setIfInBounds_toArray, List.set_cons_zero, List.set_cons_succ, i64_w, i32_w]
                  rfl
                refine pure_ (i := 6) (N := some 23) (v := ?_) (a' := ?_) #[true, true, true, false, true, true, true, false, false, false] rfl rfl (any_of HT_.out (by kernel_rfl)) (fun _ _ _ h => h) (Or.inl ⟨by rfl, ?_⟩) ?_ ?_
                rotate_left
                · intro w'
                  go_simp
                  with_reducible rfl
                rotate_left
                · simp only [Act.put, List.setIfInBounds_toArray, List.set_cons_zero, List.set_cons_succ, i64_w, i32_w]
                  rfl
                refine take_ (i := 3) (N := some 20) (v := ?_) (a' := ?_) #[true, true, true, true, true, true, true, false, false, false] rfl rfl (take_ofW HT_.out HW_.out (by kernel_rfl)) (fun _ _ _ h => h) (Or.inl ⟨by rfl, ?_⟩) hHeld ?_ ?_
                rotate_left
                · rintro w' ⟨s0, s1, s2, s3⟩
                  go_simp
                  with_reducible rfl
                rotate_left
                · simp only [Act.put, List.setIfInBounds_toArray, List.set_cons_zero, List.set_cons_succ, i64_w, i32_w]
                  rfl
                refine take_ (i := 7) (N := some 24) (v := ?_) (a' := ?_) #[true, true, true, true, true, true, true, true, false, false] rfl rfl (take_ofW HT_.out HW_.out (by kernel_rfl)) (fun _ _ _ h => h) (Or.inl ⟨by rfl, ?_⟩) hHeld ?_ ?_
                rotate_left
                · rintro w' ⟨s0, s1, s2, s3⟩
                  go_simp
                  with_reducible rfl
                rotate_left
                · simp only [Act.put, List.setIfInBounds_toArray, List.set_cons_zero, List.set_cons_succ, i64_w, i32_w]
                  rfl
                refine one_ (i := 8) (N := some 25) #[true, true, true, true, true, true, true, true, true, false] rfl rfl (one_of HT_.out (by kernel_rfl)) (by decide) (fun K hK => ?_)
                refine goes_ Try.func105 (by kernel_rfl) rfl #[.agg #[.string ((rd_T120 l0 x5_1).f0), .string ((rd_T120 l0 x5_1).f1)], .agg #[.string ((rd_T120 l1 x5_1).f0), .string ((rd_T120 l1 x5_1).f1)]] (by rfl) rfl rfl (by (try simp only [List.map_toArray, List.map_cons, List.map_nil]); first | done | rfl | (simp only [List.length_drop, List.length_take]; rfl)) ?_
                with_reducible refine (laws_eqVarSort.calls ((rd_T120 l0 x5_1).f0) ((rd_T120 l0 x5_1).f1) ((rd_T120 l1 x5_1).f0) ((rd_T120 l1 x5_1).f1) true _ A7.out).mono ?_
                rintro e w10 ⟨rfl, hb⟩
                refine ⟨_, rfl, ?_⟩
                have n0_ := am (below_step (by repeat (first | (with_reducible first | exact HB.out | apply bA | apply bN | apply bD) | exact HB.out)) hb)
                clear HB
                have HB := n0_
                clear n0_
                (try clear hb)
                (try clear hb2)
                (try clear hk)
                (try clear hi)
                refine hK.out _ _ ⟨((HB.out.cell (World.block_lt_of_cell? w _ hw1161_0)).trans hw1161_0), ((HB.out.cell (World.block_lt_of_cell? w _ hw1161_1)).trans hw1161_1), ((HB.out.cell (World.block_lt_of_cell? w _ hw1162_0)).trans hw1162_0), ((HB.out.cell (World.block_lt_of_cell? w _ hw1162_1)).trans hw1162_1)⟩ (fun hHeld => ?_)
                clear hK K
                refine norm_ (a' := ?_) ?_ ?_
                rotate_left
                · show Act.put _ (some 25) _ = _
                  simp only [Act.put, List.setIfInBounds_toArray, List.set_cons_zero, List.set_cons_succ, i64_w, i32_w]
                  rfl
                refine pure_ (i := 9) (N := some 26) (v := ?_) (a' := ?_) #[true, true, true, true, true, true, true, true, true, true] rfl rfl (any_of HT_.out (by kernel_rfl)) (fun _ _ _ h => h) (Or.inl ⟨by rfl, ?_⟩) ?_ ?_
                rotate_left
                · intro w'
                  go_simp
                  with_reducible rfl
                rotate_left
                · simp only [Act.put, List.setIfInBounds_toArray, List.set_cons_zero, List.set_cons_succ, i64_w, i32_w]
                  rfl
                refine done_ (done_of HT_.out (by kernel_rfl)) ?_
                try go_wp2
                go_roundg k1
                case measure => have := HK1.out; omega
                case rel => exact ⟨(wrap64 (x5_1 + 1)), (by first | rfl | (simp; done) | (simp [*]; done)), H', ⟨by have := HK1.out; omega⟩, ⟨by repeat (first | (with_reducible first | exact HB.out | apply bA | apply bN | apply bD) | exact HB.out)⟩⟩
              · replace c8 := Bool.eq_false_iff.mpr c8
                subst c8
                have H1 : (some false) = some r := by rw [if_neg (show ¬ (false = true) by decide)] at H; exact H
                clear H
                have H := H1
                clear H1
                obtain rfl := Option.some.inj H
                try go_wp2
                have n0_ := am (below_drew1 HB.out)
                clear HB
                have HB := n0_
                clear n0_
                have p1161 : 0 ≤ (x5_1 : Int) := of_decide_eq_true (by assumption)
                have q1161 : x5_1 < (l0.length : Int) := of_decide_eq_true (by assumption)
                obtain ⟨ad1161, e1161, hx1161_0, hx1161_1⟩ := at_T120 HR0.out x5_1 p1161 q1161
                have hw1161_1 := hx1161_1
                have hw1161_0 := hx1161_0
                cases e1161
                replace hx1161_0 := (HB.out.cell (World.block_lt_of_cell? w _ hx1161_0)).trans hx1161_0
                replace hx1161_1 := (HB.out.cell (World.block_lt_of_cell? w _ hx1161_1)).trans hx1161_1
                replace p1161 := eq_true p1161
                replace q1161 := eq_true q1161
                have p1162 : 0 ≤ (x5_1 : Int) := of_decide_eq_true (by assumption)
                have q1162 : x5_1 < (l1.length : Int) := of_decide_eq_true (by assumption)
                obtain ⟨ad1162, e1162, hx1162_0, hx1162_1⟩ := at_T120 HR1.out x5_1 p1162 q1162
                have hw1162_1 := hx1162_1
                have hw1162_0 := hx1162_0
                cases e1162
                replace hx1162_0 := (HB.out.cell (World.block_lt_of_cell? w _ hx1162_0)).trans hx1162_0
                replace hx1162_1 := (HB.out.cell (World.block_lt_of_cell? w _ hx1162_1)).trans hx1162_1
                replace p1162 := eq_true p1162
                replace q1162 := eq_true q1162
                refine start_ (n := 10) (S := fun w' => w'.cell? (ad1161.add ((x5_1).toNat * 2)) = some (.string ((rd_T120 l0 x5_1).f0)) ∧ w'.cell? ⟨(ad1161.add ((x5_1).toNat * 2)).block, (ad1161.add ((x5_1).toNat * 2)).off + 1, none⟩ = some (.string ((rd_T120 l0 x5_1).f1)) ∧ w'.cell? (ad1162.add ((x5_1).toNat * 2)) = some (.string ((rd_T120 l1 x5_1).f0)) ∧ w'.cell? ⟨(ad1162.add ((x5_1).toNat * 2)).block, (ad1162.add ((x5_1).toNat * 2)).off + 1, none⟩ = some (.string ((rd_T120 l1 x5_1).f1))) (ds := []) #[false, false, false, false, false, false, false, false, false, false] (by kernel_rfl) rfl rfl ⟨((HB.out.cell (World.block_lt_of_cell? w _ hw1161_0)).trans hw1161_0), ((HB.out.cell (World.block_lt_of_cell? w _ hw1161_1)).trans hw1161_1), ((HB.out.cell (World.block_lt_of_cell? w _ hw1162_0)).trans hw1162_0), ((HB.out.cell (World.block_lt_of_cell? w _ hw1162_1)).trans hw1162_1)⟩ (fun hHeld => ?_); refine with_tabW laws_eqVarSortS.tab6 laws_eqVarSortS.bits6 (fun HT_ HW_ => ?_)
                generalize wr.drew = w11 at HB hx1161_0 hx1161_1 hx1162_0 hx1162_1 hHeld ⊢
                refine pure_ (i := 0) (N := some 17) (v := ?_) (a' := ?_) #[true, false, false, false, false, false, false, false, false, false] rfl rfl (any_of HT_.out (by kernel_rfl)) (fun _ _ _ h => h) (Or.inl ⟨by rfl, ?_⟩) ?_ ?_
                rotate_left
                · intro w'
                  go_simp
                  with_reducible rfl
                rotate_left
                · simp only [Act.put, List.setIfInBounds_toArray, List.set_cons_zero, List.set_cons_succ, i64_w, i32_w]
                  rfl
                refine pure_ (i := 1) (N := some 18) (v := ?_) (a' := ?_) #[true, true, false, false, false, false, false, false, false, false] rfl rfl (any_of HT_.out (by kernel_rfl)) (fun _ _ _ h => h) (Or.inl ⟨by rfl, ?_⟩) ?_ ?_
                rotate_left
                · intro w'
                  go_simp
                  with_reducible rfl
                rotate_left
                · simp only [Act.put, List.setIfInBounds_toArray, List.set_cons_zero, List.set_cons_succ, i64_w, i32_w]
                  rfl
                refine pure_ (i := 2) (N := some 19) (v := ?_) (a' := ?_) #[true, true, true, false, false, false, false, false, false, false] rfl rfl (any_of HT_.out (by kernel_rfl)) (fun _ _ _ h => h) (Or.inl ⟨by rfl, ?_⟩) ?_ ?_
                rotate_left
                · intro w'
                  go_simp
                  with_reducible rfl
                rotate_left
                · simp only [Act.put, List.setIfInBounds_toArray, List.set_cons_zero, List.set_cons_succ, i64_w, i32_w]
                  rfl
                refine pure_ (i := 4) (N := some 21) (v := ?_) (a' := ?_) #[true, true, true, false, true, false, false, false, false, false] rfl rfl (any_of HT_.out (by kernel_rfl)) (fun _ _ _ h => h) (Or.inl ⟨by rfl, ?_⟩) ?_ ?_
                rotate_left
                · intro w'
                  go_simp
                  with_reducible rfl
                rotate_left
                · simp only [Act.put, List.setIfInBounds_toArray, List.set_cons_zero, List.set_cons_succ, i64_w, i32_w]
                  rfl
                refine pure_ (i := 5) (N := some 22) (v := ?_) (a' := ?_) #[true, true, true, false, true, true, false, false, false, false] rfl rfl (any_of HT_.out (by kernel_rfl)) (fun _ _ _ h => h) (Or.inl ⟨by rfl, ?_⟩) ?_ ?_
                rotate_left
                · intro w'
                  go_simp
                  with_reducible rfl
                rotate_left
                · simp only [Act.put, List.setIfInBounds_toArray, List.set_cons_zero, List.set_cons_succ, i64_w, i32_w]
                  rfl
                refine pure_ (i := 6) (N := some 23) (v := ?_) (a' := ?_) #[true, true, true, false, true, true, true, false, false, false] rfl rfl (any_of HT_.out (by kernel_rfl)) (fun _ _ _ h => h) (Or.inl ⟨by rfl, ?_⟩) ?_ ?_
                rotate_left
                · intro w'
                  go_simp
                  with_reducible rfl
                rotate_left
                · simp only [Act.put, List.setIfInBounds_toArray, List.set_cons_zero, List.set_cons_succ, i64_w, i32_w]
                  rfl
                refine take_ (i := 3) (N := some 20) (v := ?_) (a' := ?_) #[true, true, true, true, true, true, true, false, false, false] rfl rfl (take_ofW HT_.out HW_.out (by kernel_rfl)) (fun _ _ _ h => h) (Or.inl ⟨by rfl, ?_⟩) hHeld ?_ ?_
                rotate_left
                · rintro w' ⟨s0, s1, s2, s3⟩
                  go_simp
                  with_reducible rfl
                rotate_left
                · simp only [Act.put, List.setIfInBounds_toArray, List.set_cons_zero, List.set_cons_succ, i64_w, i32_w]
                  rfl
                refine take_ (i := 7) (N := some 24) (v := ?_) (a' := ?_) #[true, true, true, true, true, true, true, true, false, false] rfl rfl (take_ofW HT_.out HW_.out (by kernel_rfl)) (fun _ _ _ h => h) (Or.inl ⟨by rfl, ?_⟩) hHeld ?_ ?_
                rotate_left
                · rintro w' ⟨s0, s1, s2, s3⟩
                  go_simp
                  with_reducible rfl
                rotate_left
                · simp only [Act.put, List.setIfInBounds_toArray, List.set_cons_zero, List.set_cons_succ, i64_w, i32_w]
                  rfl
                refine one_ (i := 8) (N := some 25) #[true, true, true, true, true, true, true, true, true, false] rfl rfl (one_of HT_.out (by kernel_rfl)) (by decide) (fun K hK => ?_)
                refine goes_ Try.func105 (by kernel_rfl) rfl #[.agg #[.string ((rd_T120 l0 x5_1).f0), .string ((rd_T120 l0 x5_1).f1)], .agg #[.string ((rd_T120 l1 x5_1).f0), .string ((rd_T120 l1 x5_1).f1)]] (by rfl) rfl rfl (by (try simp only [List.map_toArray, List.map_cons, List.map_nil]); first | done | rfl | (simp only [List.length_drop, List.length_take]; rfl)) ?_
                with_reducible refine (laws_eqVarSort.calls ((rd_T120 l0 x5_1).f0) ((rd_T120 l0 x5_1).f1) ((rd_T120 l1 x5_1).f0) ((rd_T120 l1 x5_1).f1) false _ A7.out).mono ?_
                rintro e w12 ⟨rfl, hb⟩
                refine ⟨_, rfl, ?_⟩
                have n0_ := am (below_step (by repeat (first | (with_reducible first | exact HB.out | apply bA | apply bN | apply bD) | exact HB.out)) hb)
                clear HB
                have HB := n0_
                clear n0_
                (try clear hb)
                (try clear hb2)
                (try clear hk)
                (try clear hi)
                refine hK.out _ _ ⟨((HB.out.cell (World.block_lt_of_cell? w _ hw1161_0)).trans hw1161_0), ((HB.out.cell (World.block_lt_of_cell? w _ hw1161_1)).trans hw1161_1), ((HB.out.cell (World.block_lt_of_cell? w _ hw1162_0)).trans hw1162_0), ((HB.out.cell (World.block_lt_of_cell? w _ hw1162_1)).trans hw1162_1)⟩ (fun hHeld => ?_)
                clear hK K
                refine norm_ (a' := ?_) ?_ ?_
                rotate_left
                · show Act.put _ (some 25) _ = _
                  simp only [Act.put, List.setIfInBounds_toArray, List.set_cons_zero, List.set_cons_succ, i64_w, i32_w]
                  rfl
                refine pure_ (i := 9) (N := some 26) (v := ?_) (a' := ?_) #[true, true, true, true, true, true, true, true, true, true] rfl rfl (any_of HT_.out (by kernel_rfl)) (fun _ _ _ h => h) (Or.inl ⟨by rfl, ?_⟩) ?_ ?_
                rotate_left
                · intro w'
                  go_simp
                  with_reducible rfl
                rotate_left
                · simp only [Act.put, List.setIfInBounds_toArray, List.set_cons_zero, List.set_cons_succ, i64_w, i32_w]
                  rfl
                refine done_ (done_of HT_.out (by kernel_rfl)) ?_
                try go_wp2
                go_ret
                exact ⟨by first | rfl | (simp [errW_none, errW_some] <;> rfl) | (simp [*, errW_none, errW_some] <;> rfl), by repeat (first | (with_reducible first | exact HB.out | apply bA | apply bN | apply bD) | exact HB.out)⟩
            · rw [if_neg c6] at H
              exact absurd H (by simp)
          · rw [if_neg c5] at H
            exact absurd H (by simp)
        · rw [if_neg c4] at H
          have c4b0 : decide (x5_1 < (l0.length : Int)) = false := decide_eq_false c4
          clear c4
          obtain rfl := Option.some.inj H
          go_wp2
          go_ret
          exact ⟨by first | rfl | (simp [errW_none, errW_some] <;> rfl) | (simp [*, errW_none, errW_some] <;> rfl), by repeat (first | (with_reducible first | exact HB.out | apply bA | apply bN | apply bD) | exact HB.out)⟩
  · rw [if_neg c3] at H
    have c3b0 : ((l0.length : Int) == (l1.length : Int)) = false := beq_eq_false_iff_ne.mpr c3
    have c3b1 : ((l0.length : Int) != (l1.length : Int)) = true := bne_iff_ne.mpr c3
    have c3b2 : (l0.length == l1.length) = false := by first | simpa using c3 | (simp at c3 ⊢; omega)
    obtain rfl := Option.some.inj H
    go_enter Try.func53, Try.ntmps53
    go_wp2
    go_ret
    exact ⟨by first | rfl | (simp [errW_none, errW_some] <;> rfl) | (simp [*, errW_none, errW_some] <;> rfl), by repeat (first | (with_reducible first | exact HB.out | apply bA | apply bN | apply bD) | exact HB.out)⟩

end Go.Proofs.Ytdgjddkibiffnaa.F
