-- Written by this session's own programs for this claim.
import Derived.Test.YtdgjddkibiffnaaMFnExactSortOfA
namespace Go.Proofs.Ytdgjddkibiffnaa.F
open Go.RowKit Go.Proofs.YtdgjddkibiffnaaW.PrintWords Go.Proofs.YtdgjddkibiffnaaW.PrintLast Go.Proofs.YtdgjddkibiffnaaW.PrintMore
attribute [local go_sem] binOp_string_gtr_ binOp_string_geq_ binOp_string_leq_ max2_int min2_int max_two min_two max_three min_three max_four min_four   -- for this text's walks alone
set_option linter.unusedVariables false
set_option linter.unusedSimpArgs false

/-! ### laws_toVarSort: function 102 -/
def laws_toVarSort.f (a0_0 : ByteArray) (a0_1 : ByteArray) : Option (ByteArray × ByteArray) := some (a0_0, a0_1)
set_option maxHeartbeats 8000000 in
set_option maxRecDepth 100000 in
theorem laws_toVarSort.calls (a0_0 : ByteArray) (a0_1 : ByteArray) (r1 : ByteArray) (r2 : ByteArray) (w : World) (h : laws_toVarSort.f a0_0 a0_1 = some (r1, r2)) :
    Calls Try.prog 102 #[.agg #[.string a0_0, .string a0_1]] w fun e w' => e = .returned (.agg #[.string r1, .string r2]) ∧ Below w.heap.size w w' := by
  have hu113 := Try.underlying113
  have hu120 := Try.underlying120
  have HB := am (Below.refl w.heap.size w)
  have H : (some (a0_0, a0_1)) = some (r1, r2) := h
  clear h
  simp only [Option.some.injEq, Prod.mk.injEq] at H
  obtain ⟨rfl, rfl⟩ := H
  go_enter Try.func102, Try.ntmps102
  go_wp2_with (first | ((with_reducible refine gate_dst (N := 1) rfl ?_); refine box_event ?hg (N := 1) ?hd (cs := #[.string a0_0, .string a0_1]) (t := 113) ?hr ?_; (case hd => rfl); (case hg => rfl); (case hr => first | (go_simp; done) | (go_simp; rfl)); intro gb1098 hg w2 hbox hb; have n0_ := am (below_step (by repeat (first | (with_reducible first | exact HB.out | apply bA | apply bN | apply bD) | exact HB.out)) hb); have n1_ := am (hbox); have n2_ := am ((by rw [hg]; exact (below_size (by repeat (first | (with_reducible first | exact HB.out | apply bA | apply bN | apply bD) | exact HB.out))) : w.heap.size ≤ gb1098)); have n3_ := am ((by rw [hg]; exact (below_size (by repeat (first | (with_reducible first | exact HB.out | apply bA | apply bN | apply bD) | exact HB.out))) : w.heap.size ≤ gb1098)); clear HB; have HB := n0_; have BK1098 := n1_; have GW1098 := n2_; have GE1098 := n3_; clear n0_ n1_ n2_ n3_; clear hb hbox hg) | ((with_reducible refine gate_dst (N := 2) rfl ?_); refine box_event ?hg (N := 2) ?hd (cs := #[.string (⟨#[]⟩ : ByteArray), .string (⟨#[]⟩ : ByteArray)]) (t := 120) ?hr ?_; (case hd => rfl); (case hg => rfl); (case hr => first | (go_simp; done) | (go_simp; rfl)); intro gb1099 hg w3 hbox hb; have n0_ := am (blk_below (g := gb1098) (o := .cells #[.string a0_0, .string a0_1] 113 (0, 0)) (by (with_reducible repeat (first | refine kN ?_ _ | refine kD ?_ | refine kA ?_ _)); exact BK1098.out) hb); have n1_ := am (below_step (by repeat (first | (with_reducible first | exact HB.out | apply bA | apply bN | apply bD | refine below_set ?_ GE1098.out) | exact HB.out)) hb); have n2_ := am (hbox); have n3_ := am ((by rw [hg]; exact (below_size (by repeat (first | (with_reducible first | exact HB.out | apply bA | apply bN | apply bD | refine below_set ?_ GE1098.out) | exact HB.out))) : w.heap.size ≤ gb1099)); have n4_ := am ((by rw [hg]; exact (below_size (by repeat (first | (with_reducible first | exact HB.out | apply bA | apply bN | apply bD | refine below_set ?_ GE1098.out) | exact HB.out))) : w.heap.size ≤ gb1099)); have n5_ := am ((by rw [hg]; exact Nat.ne_of_lt (blk_lt (g := gb1098) (o := .cells #[.string a0_0, .string a0_1] 113 (0, 0)) (by (with_reducible repeat (first | refine kN ?_ _ | refine kD ?_ | refine kA ?_ _)); exact BK1098.out)) : gb1098 ≠ gb1099)); have n6_ := am ((by rw [hg]; exact Nat.ne_of_gt (blk_lt (g := gb1098) (o := .cells #[.string a0_0, .string a0_1] 113 (0, 0)) (by (with_reducible repeat (first | refine kN ?_ _ | refine kD ?_ | refine kA ?_ _)); exact BK1098.out)) : gb1099 ≠ gb1098)); clear BK1098; clear HB; have BK1098 := n0_; have HB := n1_; have BK1099 := n2_; have GW1099 := n3_; have GE1099 := n4_; have NB1098_1099 := n5_; have NB1099_1098 := n6_; clear n0_ n1_ n2_ n3_ n4_ n5_ n6_; clear hb hbox hg) | ((with_reducible refine gate_dst (N := 3) rfl ?_); refine box_event ?hg (N := 3) ?hd (cs := #[.string (⟨#[]⟩ : ByteArray), .string (⟨#[]⟩ : ByteArray)]) (t := 120) ?hr ?_; (case hd => rfl); (case hg => rfl); (case hr => first | (go_simp; done) | (go_simp; rfl)); intro gb1100 hg w4 hbox hb; have n0_ := am (blk_below (g := gb1098) (o := .cells #[.string a0_0, .string a0_1] 113 (0, 0)) (by (with_reducible repeat (first | refine kN ?_ _ | refine kD ?_ | refine kA ?_ _)); exact BK1098.out) hb); have n1_ := am (blk_below (g := gb1099) (o := .cells #[.string (⟨#[]⟩ : ByteArray), .string (⟨#[]⟩ : ByteArray)] 120 (0, 0)) (by (with_reducible repeat (first | refine kN ?_ _ | refine kD ?_ | refine kA ?_ _)); exact BK1099.out) hb); have n2_ := am (below_step (by repeat (first | (with_reducible first | exact HB.out | apply bA | apply bN | apply bD | refine below_set ?_ GE1098.out | refine below_set ?_ GE1099.out) | exact HB.out)) hb); have n3_ := am (hbox); have n4_ := am ((by rw [hg]; exact (below_size (by repeat (first | (with_reducible first | exact HB.out | apply bA | apply bN | apply bD | refine below_set ?_ GE1098.out | refine below_set ?_ GE1099.out) | exact HB.out))) : w.heap.size ≤ gb1100)); have n5_ := am ((by rw [hg]; exact (below_size (by repeat (first | (with_reducible first | exact HB.out | apply bA | apply bN | apply bD | refine below_set ?_ GE1098.out | refine below_set ?_ GE1099.out) | exact HB.out))) : w.heap.size ≤ gb1100)); have n6_ := am ((by rw [hg]; exact Nat.ne_of_lt (blk_lt (g := gb1098) (o := .cells #[.string a0_0, .string a0_1] 113 (0, 0)) (by (with_reducible repeat (first | refine kN ?_ _ | refine kD ?_ | refine kA ?_ _)); exact BK1098.out)) : gb1098 ≠ gb1100)); have n7_ := am ((by rw [hg]; exact Nat.ne_of_gt (blk_lt (g := gb1098) (o := .cells #[.string a0_0, .string a0_1] 113 (0, 0)) (by (with_reducible repeat (first | refine kN ?_ _ | refine kD ?_ | refine kA ?_ _)); exact BK1098.out)) : gb1100 ≠ gb1098)); have n8_ := am ((by rw [hg]; exact Nat.ne_of_lt (blk_lt (g := gb1099) (o := .cells #[.string (⟨#[]⟩ : ByteArray), .string (⟨#[]⟩ : ByteArray)] 120 (0, 0)) (by (with_reducible repeat (first | refine kN ?_ _ | refine kD ?_ | refine kA ?_ _)); exact BK1099.out)) : gb1099 ≠ gb1100)); have n9_ := am ((by rw [hg]; exact Nat.ne_of_gt (blk_lt (g := gb1099) (o := .cells #[.string (⟨#[]⟩ : ByteArray), .string (⟨#[]⟩ : ByteArray)] 120 (0, 0)) (by (with_reducible repeat (first | refine kN ?_ _ | refine kD ?_ | refine kA ?_ _)); exact BK1099.out)) : gb1100 ≠ gb1099)); clear BK1098; clear BK1099; clear HB; have BK1098 := n0_; have BK1099 := n1_; have HB := n2_; have BK1100 := n3_; have GW1100 := n4_; have GE1100 := n5_; have NB1098_1100 := n6_; have NB1100_1098 := n7_; have NB1099_1100 := n8_; have NB1100_1099 := n9_; clear n0_ n1_ n2_ n3_ n4_ n5_ n6_ n7_ n8_ n9_; clear hb hbox hg; have hnb5 := NB1098_1099.out; have hnc5 := NB1099_1098.out; have hnb6 := NB1098_1100.out; have hnc6 := NB1100_1098.out; have hcz7_0 : w4.cell? ⟨gb1098, 0, none⟩ = some (.string a0_0) := (blk_cell BK1098.out 0).trans rfl; have hcz7_1 : w4.cell? ⟨gb1098, 1, none⟩ = some (.string a0_1) := (blk_cell BK1098.out 1).trans rfl; have hfz7_0 := blk_frozen BK1098.out 0; have hfz7_1 := blk_frozen BK1098.out 1; have hnb8 := NB1100_1099.out; have hnc8 := NB1099_1100.out; have hcz9_0 : w4.cell? ⟨gb1100, 0, none⟩ = some (.string (⟨#[]⟩ : ByteArray)) := (blk_cell BK1100.out 0).trans rfl; have hcz9_1 : w4.cell? ⟨gb1100, 1, none⟩ = some (.string (⟨#[]⟩ : ByteArray)) := (blk_cell BK1100.out 1).trans rfl; have hfz9_0 := blk_frozen BK1100.out 0; have hfz9_1 := blk_frozen BK1100.out 1; have hcz10_0 : w4.cell? ⟨gb1099, 0, none⟩ = some (.string (⟨#[]⟩ : ByteArray)) := (blk_cell BK1099.out 0).trans rfl; have hcz10_1 : w4.cell? ⟨gb1099, 1, none⟩ = some (.string (⟨#[]⟩ : ByteArray)) := (blk_cell BK1099.out 1).trans rfl; have hfz10_0 := blk_frozen BK1099.out 0; have hfz10_1 := blk_frozen BK1099.out 1))
  refine bodyPost_ret (results_cell_row rfl _ _ gb1099 120 #[.string a0_0, .string a0_1] (0, 0) _ rfl (by (with_reducible repeat (first | refine kN ?_ _ | refine kD ?_ | refine kA ?_ _)); refine blk_put (cs := #[.string a0_0, .string (⟨#[]⟩ : ByteArray)]) ?_ 1 _ rfl; (with_reducible repeat (first | refine kN ?_ _ | refine kD ?_ | refine kA ?_ _)); refine blk_put (cs := #[.string (⟨#[]⟩ : ByteArray), .string (⟨#[]⟩ : ByteArray)]) ?_ 0 _ rfl; (with_reducible repeat (first | refine kN ?_ _ | refine kD ?_ | refine kA ?_ _)); refine blk_far ?_ NB1099_1100.out _; (with_reducible repeat (first | refine kN ?_ _ | refine kD ?_ | refine kA ?_ _)); refine blk_far ?_ NB1099_1100.out _; (with_reducible repeat (first | refine kN ?_ _ | refine kD ?_ | refine kA ?_ _)); exact BK1099.out) Try.underlying120 rfl (by kernel_rfl)) rfl ?_
  exact ⟨by first | rfl | (simp [errW_none, errW_some] <;> rfl) | (simp [*, errW_none, errW_some] <;> rfl), by repeat (first | (with_reducible first | exact HB.out | apply bA | apply bN | apply bD | refine below_set ?_ GE1098.out | refine below_set ?_ GE1099.out | refine below_set ?_ GE1100.out) | exact HB.out)⟩

end Go.Proofs.Ytdgjddkibiffnaa.F
namespace Go.Proofs.Ytdgjddkibiffnaa.F
open Go.RowKit Go.Proofs.YtdgjddkibiffnaaW.PrintWords Go.Proofs.YtdgjddkibiffnaaW.PrintLast Go.Proofs.YtdgjddkibiffnaaW.PrintMore
attribute [local go_sem] binOp_string_gtr_ binOp_string_geq_ binOp_string_leq_ max2_int min2_int max_two min_two max_three min_three max_four min_four   -- for this text's walks alone
set_option linter.unusedVariables false
set_option linter.unusedSimpArgs false

/-! ### laws_toVarSortS: function 50 -/
def laws_toVarSortS.l0 : Nat → List (S113) → List (S120) → Int → Option ((List (S120)))
  | 0, _, _, _ => none
  | k + 1, x0, x3, x4 => if x4 < (x0.length : Int) then (if 0 ≤ x4 then ((laws_toVarSort.f ((rd_T113 x0 x4).f0) ((rd_T113 x0 x4).f1)).bind fun bt1105 => (if x4 < (x3.length : Int) then (laws_toVarSortS.l0 k x0 (x3.set (x4 : Int).toNat (⟨bt1105.1, bt1105.2⟩ : S120)) (wrap64 (x4 + 1))) else (none))) else (none)) else (some x3)
def laws_toVarSortS.f (k : Nat) (l0 : List (S113)) : Option ((List (S120))) := if 0 ≤ (l0.length : Int) then (if ((l0.length : Int) : Int).toNat ≤ 8796093022208 then (laws_toVarSortS.l0 k l0 (List.replicate ((l0.length : Int) : Int).toNat z120) 0) else (none)) else (none)
set_option maxHeartbeats 8000000 in
set_option maxRecDepth 100000 in
theorem laws_toVarSortS.calls (k : Nat) (A0 : Option Addr) (c0 : Nat) (l0 : List (S113)) (r : List (S120)) (w : World) (hr0 : Kd.C k113 w A0 l0.length l0) (hc0 : l0.length ≤ c0) (h : laws_toVarSortS.f k l0 = some r) :
    Calls Try.prog 50 #[.slice A0 l0.length c0] w fun e w' => ∃ v0_ : Value, e = .returned (v0_) ∧ Kd.R k120 120 w' w.heap.size (fun _ => True) v0_ r ∧ Below w.heap.size w w' := by
  have hu113 := Try.underlying113
  have hu120 := Try.underlying120
  have HR0 := Aside0.mk hr0
  have HC0 := Aside0.mk hc0
  clear hr0 hc0
  have HB := am (Below.refl w.heap.size w)
  have H : (if 0 ≤ (l0.length : Int) then (if ((l0.length : Int) : Int).toNat ≤ 8796093022208 then (laws_toVarSortS.l0 k l0 (List.replicate ((l0.length : Int) : Int).toNat z120) 0) else (none)) else (none)) = some r := h
  clear h
  by_cases c2 : 0 ≤ (l0.length : Int)
  · rw [if_pos c2] at H
    have c2b0 := eq_true c2
    have c2b1 : decide (0 ≤ (l0.length : Int)) = true := decide_eq_true c2
    clear c2
    by_cases c3 : ((l0.length : Int) : Int).toNat ≤ 8796093022208
    · rw [if_pos c3] at H
      have c3b0 := eq_true c3
      have c3b1 : decide (((l0.length : Int) : Int).toNat ≤ 8796093022208) = true := decide_eq_true c3
      clear c3
      obtain ⟨y1101, hy1101⟩ : ∃ y_ : List (S120), y_ = (List.replicate ((l0.length : Int) : Int).toNat z120) := ⟨_, rfl⟩
      replace H : (laws_toVarSortS.l0 k l0 y1101 0) = some r := by first | (rw [hy1101]; with_reducible exact H) | (have H2_ := (Option.bind_some _ _).symm.trans H; rw [hy1101]; with_reducible exact H2_) | (have H2_ := (Option.bind_some _ _).symm.trans H; with_reducible exact H2_) | with_reducible exact H | (rw [hy1101]; exact H) | exact H
      have Ny1101 := Aside0.mk hy1101
      clear hy1101
      have H' := Aside0.mk H
      clear H
      go_enter Try.func50, Try.ntmps50
      go_wp2_with (first | ((with_reducible refine gate_dst (N := 7) rfl ?_); refine Kd.R_make k120 _ 120 rfl (N := 7) rfl 75 _ _ rfl (l0.length : Int) rfl rfl Try.underlying75 (.agg #[(.string ⟨#[]⟩), (.string ⟨#[]⟩)]) 32 info120 rfl (by decide) (by omega) z120 (ok := fun _ => True) (okp := fun _ => True) (k120_mkM _ _ _ z120 ) (fun _ hk => hk) trivial (of_decide_eq_true (by assumption)) (Nat.le_trans (Nat.mul_le_mul_right _ (of_decide_eq_true (by assumption) : (l0.length : Int).toNat ≤ 8796093022208)) (by omega)) (Below.refl _ _) (Nat.le_refl _) ?_; intro v1102 w4 ho5 hb hg_ hnew_; clear hg_ hnew_; (first | rw [← Ny1101.out] at ho5 | (simp only [Int.reduceToNat] at ho5; rw [← Ny1101.out] at ho5)); have n0_ := am (Kd.R_lower ho5 (below_size (by repeat (first | (with_reducible first | exact HB.out | apply bA | apply bN | apply bD) | exact HB.out)))); have n1_ := am (below_step (by repeat (first | (with_reducible first | exact HB.out | apply bA | apply bN | apply bD) | exact HB.out)) hb); clear HB; have HO1103 := n0_; have HB := n1_; clear n0_ n1_; clear hb ho5))
      go_loopg [4] k (fun kq v4 w' => ∃ (x3_1 : List (S120)) (x4_1 : Int), v4 = .int .i64 x4_1 ∧ Aside0 (laws_toVarSortS.l0 kq l0 x3_1 x4_1 = some r) ∧ Aside0 (kq ≤ k) ∧ Aside0 (Kd.R k120 120 w' w.heap.size (fun _ => True) v1102 x3_1) ∧ Aside0 (Below w.heap.size w w'))
      case atStart => exact ⟨(y1101), (0), (by first | rfl | (simp; done) | (simp [*]; done)), H', ⟨Nat.le_refl _⟩, ⟨by (with_reducible repeat (first | apply rA | apply rN | apply rD)); exact HO1103.out⟩, ⟨by repeat (first | (with_reducible first | exact HB.out | apply bA | apply bN | apply bD) | exact HB.out)⟩⟩
      case round =>
        clear H'
        obtain ⟨x3_1, x4_1, rfl, HA, HK1, HO_3, HB⟩ := hrel
        cases gk with
        | zero => exact absurd HA.out (by simp [laws_toVarSortS.l0])
        | succ k1 =>
          have H := HA.out
          clear HA
          simp only [laws_toVarSortS.l0] at H
          by_cases c6 : x4_1 < (l0.length : Int)
          · rw [if_pos c6] at H
            have c6b0 : decide (x4_1 < (l0.length : Int)) = true := decide_eq_true c6
            clear c6
            by_cases c7 : 0 ≤ x4_1
            · rw [if_pos c7] at H
              have c7b0 : decide (0 ≤ x4_1) = true := decide_eq_true c7
              clear c7
              replace H := Option.bind_eq_some_iff.mp H
              obtain ⟨⟨t1105, t1106⟩, A80, H⟩ := H
              try dsimp only at H
              have A8 := Aside0.mk A80
              clear A80
              by_cases c9 : x4_1 < (x3_1.length : Int)
              · rw [if_pos c9] at H
                have c9b0 : decide (x4_1 < (x3_1.length : Int)) = true := decide_eq_true c9
                clear c9
                obtain ⟨y1107, hy1107⟩ : ∃ y_ : List (S120), y_ = (x3_1.set (x4_1 : Int).toNat (⟨t1105, t1106⟩ : S120)) := ⟨_, rfl⟩
                replace H : (laws_toVarSortS.l0 k1 l0 y1107 (wrap64 (x4_1 + 1))) = some r := by first | (rw [hy1107]; with_reducible exact H) | (have H2_ := (Option.bind_some _ _).symm.trans H; rw [hy1107]; with_reducible exact H2_) | (have H2_ := (Option.bind_some _ _).symm.trans H; with_reducible exact H2_) | with_reducible exact H | (rw [hy1107]; exact H) | exact H
                have Ny1107 := Aside0.mk hy1107
                clear hy1107
                have H' := Aside0.mk H
                clear H
                have p1104 : 0 ≤ (x4_1 : Int) := of_decide_eq_true (by assumption)
                have q1104 : x4_1 < (l0.length : Int) := of_decide_eq_true (by assumption)
                obtain ⟨ad1104, e1104, hx1104_0, hx1104_1⟩ := at_T113 HR0.out x4_1 p1104 q1104
                cases e1104
                replace hx1104_0 := (HB.out.cell (World.block_lt_of_cell? w _ hx1104_0)).trans hx1104_0
                replace hx1104_1 := (HB.out.cell (World.block_lt_of_cell? w _ hx1104_1)).trans hx1104_1
                replace p1104 := eq_true p1104
                replace q1104 := eq_true q1104
                go_wp2_with (first | ((with_reducible refine gate_callee (f := 102) rfl ?_); refine goesL_ (some 20) rfl rfl Try.func102 (by kernel_rfl) rfl #[.agg #[.string ((rd_T113 l0 x4_1).f0), .string ((rd_T113 l0 x4_1).f1)]] rfl (by (try simp only [List.map_toArray, List.map_cons, List.map_nil]); first | done | rfl | (simp only [List.length_drop, List.length_take]; rfl)) ?_; (with_reducible refine (laws_toVarSort.calls ((rd_T113 l0 x4_1).f0) ((rd_T113 l0 x4_1).f1) t1105 t1106 _ A8.out).mono ?_); rintro e w11 ⟨rfl, hb⟩; refine ⟨_, rfl, ?_⟩; have n0_ := am (Kd.R_below (by (with_reducible repeat (first | apply rA | apply rN | apply rD)); exact HO_3.out) hb); have n1_ := am (below_step (by repeat (first | (with_reducible first | exact HB.out | apply bA | apply bN | apply bD) | exact HB.out)) hb); clear HO_3; clear HB; have HO_3 := n0_; have HB := n1_; clear n0_ n1_; have p10 : 0 ≤ (x4_1 : Int) := of_decide_eq_true (by assumption); have q10 : (x4_1 : Int) < ((x3_1.length : Int) : Int) := of_decide_eq_true (by assumption); obtain ⟨go10, co10, eo10, gb10, gl10, cl10, HG10⟩ := Kd.R_form HO_3.out (by omega); (first | cases eo10 | (injection eo10 with ea_ en_ ec_; (first | subst ea_ | (injection ea_ with ea_; subst ea_)); subst ec_; clear en_)); have GB10 := Aside0.mk gb10; have GG10 := Aside0.mk HG10; clear gb10 gl10 HG10; obtain ⟨ce10, hcl10, hM10, hcc10, hfr10⟩ := Kd.R_elem HO_3.out z120 (x4_1 : Int) p10 q10; obtain rfl := k120_openM hM10; have hx10_0 : w11.cell? ⟨go10, (x4_1 : Int).toNat * 2, none⟩ = some (.string ((rd_T120 x3_1 x4_1).f0)) := hcc10 0 _ rfl; have hx10_1 : w11.cell? ⟨go10, (x4_1 : Int).toNat * 2 + 1, none⟩ = some (.string ((rd_T120 x3_1 x4_1).f1)) := hcc10 1 _ rfl; have hf10_0 : w11.frozen? ⟨go10, (x4_1 : Int).toNat * 2, none⟩ = false := hfr10 0; have hf10_1 : w11.frozen? ⟨go10, (x4_1 : Int).toNat * 2 + 1, none⟩ = false := hfr10 1; clear hcl10 hcc10 hfr10 hM10; replace p10 := eq_true p10; replace q10 := eq_true q10; have HX12 := am (show Kd.R k120 120 w11 w.heap.size (fun _ => True) (.slice (some ⟨go10, 0, none⟩) x3_1.length co10) x3_1 from (by (with_reducible repeat (first | apply rA | apply rN | apply rD)); exact HO_3.out)); obtain ⟨ce12, hcl12, hM12, hcc12, hfr12⟩ := Kd.R_elem HX12.out z120 (x4_1 : Int) (of_decide_eq_true (by assumption)) (by have h_ : (x4_1 : Int) < ((x3_1.length : Int) : Int) := of_decide_eq_true (by assumption); first | exact h_ | (have e_ := (Kd.R_reads' HO_3.out).1; omega) | simpa using h_); obtain rfl := k120_openM hM12; have HP12 := Kd.R_seg HX12.out (x4_1 : Int) (of_decide_eq_true (by assumption)) (by have h_ : (x4_1 : Int) < ((x3_1.length : Int) : Int) := of_decide_eq_true (by assumption); first | exact h_ | (have e_ := (Kd.R_reads' HO_3.out).1; omega) | simpa using h_) (seg := [.string t1105, .string t1106]) (j := 0) hcl12 hcc12 (show 2 ≤ 2 from by decide) (x' := (⟨t1105, t1106⟩ : S120)) (k120_mkM _ _ _ (⟨t1105, t1106⟩ : S120) ) (fun _ hk => hk); have hx12_0 := hcc12 0 _ rfl; (try simp only [show (k120).sz = 2 from rfl, Nat.mul_one, Nat.add_zero] at hx12_0); have hf12_0 := hfr12 0; (try simp only [show (k120).sz = 2 from rfl, Nat.mul_one, Nat.add_zero] at hf12_0); have hx12_1 := hcc12 1 _ rfl; (try simp only [show (k120).sz = 2 from rfl, Nat.mul_one, Nat.add_zero] at hx12_1); have hf12_1 := hfr12 1; (try simp only [show (k120).sz = 2 from rfl, Nat.mul_one, Nat.add_zero] at hf12_1); clear hcl12 hcc12 hfr12 hM12) | ((with_reducible refine gate_store (t := 120) (p := 21) rfl ?_); refine store_event (t := 120) (p := 21) (v := ?vo_w13) (w1 := ((w11.setCell ⟨go10, (x4_1 : Int).toNat * 2, none⟩ (.string t1105)).setCell ⟨go10, (x4_1 : Int).toNat * 2 + 1, none⟩ (.string t1106))) ?hg ?ho ?hn ?hr ?_; (case ho => rfl); (case hg => rfl); (case hn => rfl); (case hr => first | (go_simp; done) | (go_simp; rfl)); intro w13 hw; have hg : w11.grownBy w13 (some go10) := (by rw [hw]; exact HP12.2); have hp_ : Kd.R k120 120 w13 w.heap.size (fun _ => True) (.slice (some ⟨go10, 0, none⟩) x3_1.length co10) y1107 := (by rw [hw, Ny1107.out]; exact HP12.1); clear HP12; have n0_ := am (hp_); have n1_ := am ((by rw [hw]; exact below_set (below_set (HB.out) GB10.out) GB10.out : Below w.heap.size w w13)); clear HO_3; clear HB; have HO_3 := n0_; have HB := n1_; clear n0_ n1_; clear hg hw hp_))
                go_roundg k1
                case measure => have := HK1.out; omega
                case rel => exact ⟨(y1107), (wrap64 (x4_1 + 1)), (by first | rfl | (simp; done) | (simp [*]; done)), H', ⟨by have := HK1.out; omega⟩, ⟨by (with_reducible repeat (first | apply rA | apply rN | apply rD)); exact HO_3.out⟩, ⟨by repeat (first | (with_reducible first | exact HB.out | apply bA | apply bN | apply bD) | exact HB.out)⟩⟩
              · rw [if_neg c9] at H
                exact absurd H (by simp)
            · rw [if_neg c7] at H
              exact absurd H (by simp)
          · rw [if_neg c6] at H
            have c6b0 : decide (x4_1 < (l0.length : Int)) = false := decide_eq_false c6
            clear c6
            obtain rfl := Option.some.inj H
            go_wp2
            go_ret
            exact ⟨_, by first | rfl | (simp [errW_none, errW_some] <;> rfl) | (simp [*, errW_none, errW_some] <;> rfl), by (with_reducible repeat (first | apply rA | apply rN | apply rD)); exact HO_3.out, by repeat (first | (with_reducible first | exact HB.out | apply bA | apply bN | apply bD) | exact HB.out)⟩
    · rw [if_neg c3] at H
      exact absurd H (by simp)
  · rw [if_neg c2] at H
    exact absurd H (by simp)

end Go.Proofs.Ytdgjddkibiffnaa.F
namespace Go.Proofs.Ytdgjddkibiffnaa.F
open Go.RowKit Go.Proofs.YtdgjddkibiffnaaW.PrintWords Go.Proofs.YtdgjddkibiffnaaW.PrintLast Go.Proofs.YtdgjddkibiffnaaW.PrintMore
attribute [local go_sem] binOp_string_gtr_ binOp_string_geq_ binOp_string_leq_ max2_int min2_int max_two min_two max_three min_three max_four min_four   -- for this text's walks alone
set_option linter.unusedVariables false
set_option linter.unusedSimpArgs false

/-! ### impl_IsBuiltin: function 120 -/
def impl_IsBuiltin.f (a0 : ByteArray) : Option (Bool) := if a0.toList = ([112, 108, 117, 115] : List UInt8) then (some true) else (if a0.toList = ([109, 105, 110, 117, 115] : List UInt8) then (some true) else (some (a0.toList == ([116, 105, 109, 101, 115] : List UInt8))))
set_option maxHeartbeats 8000000 in
set_option maxRecDepth 100000 in
theorem impl_IsBuiltin.calls (a0 : ByteArray) (r : Bool) (w : World) (h : impl_IsBuiltin.f a0 = some r) :
    Calls Try.prog 120 #[.string a0] w fun e w' => e = .returned (.bool r) ∧ Drawn0 w w' := by
  have H : (if a0.toList = ([112, 108, 117, 115] : List UInt8) then (some true) else (if a0.toList = ([109, 105, 110, 117, 115] : List UInt8) then (some true) else (some (a0.toList == ([116, 105, 109, 101, 115] : List UInt8))))) = some r := h
  clear h
  by_cases c2 : a0.toList = ([112, 108, 117, 115] : List UInt8)
  · rw [if_pos c2] at H
    have c2b0 : (a0.toList == ([112, 108, 117, 115] : List UInt8)) = true := beq_iff_eq.mpr c2
    have c2b1 : (a0.toList != ([112, 108, 117, 115] : List UInt8)) = false := bne_eq_false_iff_eq.mpr c2
    clear c2
    obtain rfl := Option.some.inj H
    go_enter Try.func120, Try.ntmps120
    go_wp2
    go_ret
    exact ⟨by first | rfl | (simp; done) | (simp [*]; done), by repeat (first | exact Drawn0.refl _ | apply Drawn0.step)⟩
  · rw [if_neg c2] at H
    have c2b0 : (a0.toList == ([112, 108, 117, 115] : List UInt8)) = false := beq_eq_false_iff_ne.mpr c2
    have c2b1 : (a0.toList != ([112, 108, 117, 115] : List UInt8)) = true := bne_iff_ne.mpr c2
    by_cases c3 : a0.toList = ([109, 105, 110, 117, 115] : List UInt8)
    · rw [if_pos c3] at H
      have c3b0 : (a0.toList == ([109, 105, 110, 117, 115] : List UInt8)) = true := beq_iff_eq.mpr c3
      have c3b1 : (a0.toList != ([109, 105, 110, 117, 115] : List UInt8)) = false := bne_eq_false_iff_eq.mpr c3
      clear c3
      obtain rfl := Option.some.inj H
      go_enter Try.func120, Try.ntmps120
      go_wp2
      go_ret
      exact ⟨by first | rfl | (simp; done) | (simp [*]; done), by repeat (first | exact Drawn0.refl _ | apply Drawn0.step)⟩
    · rw [if_neg c3] at H
      have c3b0 : (a0.toList == ([109, 105, 110, 117, 115] : List UInt8)) = false := beq_eq_false_iff_ne.mpr c3
      have c3b1 : (a0.toList != ([109, 105, 110, 117, 115] : List UInt8)) = true := bne_iff_ne.mpr c3
      obtain rfl := Option.some.inj H
      go_enter Try.func120, Try.ntmps120
      go_wp2
      go_ret
      exact ⟨by first | rfl | (simp; done) | (simp [*]; done), by repeat (first | exact Drawn0.refl _ | apply Drawn0.step)⟩

end Go.Proofs.Ytdgjddkibiffnaa.F
namespace Go.Proofs.Ytdgjddkibiffnaa.F
open Go.RowKit Go.Proofs.YtdgjddkibiffnaaW.PrintWords Go.Proofs.YtdgjddkibiffnaaW.PrintLast Go.Proofs.YtdgjddkibiffnaaW.PrintMore
attribute [local go_sem] binOp_string_gtr_ binOp_string_geq_ binOp_string_leq_ max2_int min2_int max_two min_two max_three min_three max_four min_four   -- for this text's walks alone
set_option linter.unusedVariables false
set_option linter.unusedSimpArgs false

/-! ### slices_Clone_string_string: function 110 -/
def slices_Clone_string_string.f (l0 : List ByteArray) : Option (List ByteArray) := (some (([] : List ByteArray) : List ByteArray)).bind fun y1108 => (if y1108.length + l0.length < 8796093022208 then (some (y1108 ++ l0)) else (none))
set_option maxHeartbeats 8000000 in
set_option maxRecDepth 100000 in
theorem slices_Clone_string_string.calls (A0 : Option Addr) (c0 : Nat) (l0 : List ByteArray) (r : List ByteArray) (w : World) (hr0 : Kd.C Kd.string w A0 l0.length l0) (hc0 : l0.length ≤ c0) (h : slices_Clone_string_string.f l0 = some r) :
    Calls Try.prog 110 #[.slice A0 l0.length c0] w fun e w' => ∃ v0_ : Value, e = .returned (v0_) ∧ Kd.R Kd.string 9 w' w.heap.size (fun _ => True) v0_ r ∧ Below w.heap.size w w' := by
  have HR0 := Aside0.mk hr0
  have HC0 := Aside0.mk hc0
  clear hr0 hc0
  have HB := am (Below.refl w.heap.size w)
  have H : ((some (([] : List ByteArray) : List ByteArray)).bind fun y1108 => (if y1108.length + l0.length < 8796093022208 then (some (y1108 ++ l0)) else (none))) = some r := h
  clear h
  obtain ⟨y1108, hy1108⟩ : ∃ y_ : List ByteArray, y_ = (([] : List ByteArray)) := ⟨_, rfl⟩
  replace H : (if y1108.length + l0.length < 8796093022208 then (some (y1108 ++ l0)) else (none)) = some r := by first | (rw [hy1108]; with_reducible exact H) | (have H2_ := (Option.bind_some _ _).symm.trans H; rw [hy1108]; with_reducible exact H2_) | (have H2_ := (Option.bind_some _ _).symm.trans H; with_reducible exact H2_) | with_reducible exact H | (rw [hy1108]; exact H) | exact H
  have Ny1108 := Aside0.mk hy1108
  clear hy1108
  by_cases c2 : y1108.length + l0.length < 8796093022208
  · rw [if_pos c2] at H
    have LMc2 := Aside0.mk c2
    clear c2
    obtain ⟨y1111, hy1111⟩ : ∃ y_ : List ByteArray, y_ = (y1108 ++ l0) := ⟨_, rfl⟩
    replace H : (some y1111) = some r := by first | (rw [hy1111]; with_reducible exact H) | (have H2_ := (Option.bind_some _ _).symm.trans H; rw [hy1111]; with_reducible exact H2_) | (have H2_ := (Option.bind_some _ _).symm.trans H; with_reducible exact H2_) | with_reducible exact H | (rw [hy1111]; exact H) | exact H
    have Ny1111 := Aside0.mk hy1111
    clear hy1111
    obtain rfl := Option.some.inj H
    have hq_ : ∀ (W : World) (B : Option Addr) (n_ c_ : Nat), (binOp .eql 63 (.slice B n_ c_) (.slice none 0 0)).run Try.prog W = .ok (.bool B.isNone) W := fun W B n_ c_ => Lib.run_eql_slice_nil W 63 9 B _ _ _ _ Try.underlying63
    rcases A0 with _ | ad0
    · have hz_ : l0 = [] := Kd.C_none HR0.out
      subst hz_
      go_enter Try.func110, Try.ntmps110
      go_wp2
      go_ret
      exact ⟨_, by first | rfl | (simp [errW_none, errW_some] <;> rfl) | (simp [*, errW_none, errW_some] <;> rfl), (by rw [Ny1111.out, Ny1108.out]; exact Kd.R_nil _ _ _ _ _), by repeat (first | (with_reducible first | exact HB.out | apply bA | apply bN | apply bD) | exact HB.out)⟩
    go_enter Try.func110, Try.ntmps110
    go_wp2_with (first | ((with_reducible refine gate_dst (N := 5) rfl ?_); refine Kd.R_lit Kd.string _ 9 ?hg (N := 5) ?hd (xs := ([] : List ByteArray)) (inner := []) (ok := fun _ => True) (okp := fun _ => True) ?hr ?hp (fun _ hk => hk) trivial (Below.refl _ _) (Nat.le_refl _) (by simp) ?_; (case hd => rfl); (case hg => rfl); (case hr => first | (go_simp; done) | (go_simp; rfl)); (case hp => exact (Reps.none _ _)); intro v1109 w3 ho4 hb hg_ hnew_; clear hg_ hnew_; (first | rw [← Ny1108.out] at ho4 | (simp only [Int.reduceToNat] at ho4; rw [← Ny1108.out] at ho4)); have n0_ := am (Kd.R_lower ho4 (below_size (by repeat (first | (with_reducible first | exact HB.out | apply bA | apply bN | apply bD) | exact HB.out)))); have n1_ := am (below_step (by repeat (first | (with_reducible first | exact HB.out | apply bA | apply bN | apply bD) | exact HB.out)) hb); clear HB; have HO1110 := n0_; have HB := n1_; clear n0_ n1_; clear hb ho4) | ((with_reducible refine gate_builtin (b := .append) (xs := #[.tmp 5, .tmp 6]) rfl ?_); at_builtin; refine Kd.R_append_rows Kd.string (w0 := w) w.heap.size rfl (.tmp 5) (.tmp 6) 63 9 (.string ⟨#[]⟩) 16 rfl Try.underlying63 info9 rfl (by decide) (by omega) v1109 y1108 l0 _ _ _ (fun _ => True) (fun _ => False) rfl rfl ?aO ?aR (fun _ _ h => h) (fun _ h => h.elim) ?aF ?aB ?aS ?aL ?_; (case aR => repeat (first | exact (Kd.C_below HR0.out HB.out) | (with_reducible refine cA ?_ _) | (with_reducible refine cN ?_ _) | (with_reducible refine cD ?_))); (case aB => exact (by repeat (first | (with_reducible first | exact HB.out | apply bA | apply bN | apply bD) | exact HB.out))); (case aF => exact (fun _ _ => trivial)); (case aO => exact (by (with_reducible repeat (first | apply rA | apply rN | apply rD)); exact HO1110.out)); (case aS => exact (below_size (by repeat (first | (with_reducible first | exact HB.out | apply bA | apply bN | apply bD) | exact HB.out)))); (case aL => have := LMc2.out; omega); intro v1112 w5 ho hb hg hat; rw [← Ny1111.out] at ho; have n0_ := am (hb); have n1_ := am (ho); clear HB; clear HO1110; have HB := n0_; have HO1113 := n1_; clear n0_ n1_; clear ho hb hg hat))
    go_ret
    exact ⟨_, by first | rfl | (simp [errW_none, errW_some] <;> rfl) | (simp [*, errW_none, errW_some] <;> rfl), by (with_reducible repeat (first | apply rA | apply rN | apply rD)); exact HO1113.out, by repeat (first | (with_reducible first | exact HB.out | apply bA | apply bN | apply bD) | exact HB.out)⟩
  · rw [if_neg c2] at H
    exact absurd H (by simp)

end Go.Proofs.Ytdgjddkibiffnaa.F
namespace Go.Proofs.Ytdgjddkibiffnaa.F
open Go.RowKit Go.Proofs.YtdgjddkibiffnaaW.PrintWords Go.Proofs.YtdgjddkibiffnaaW.PrintLast Go.Proofs.YtdgjddkibiffnaaW.PrintMore
attribute [local go_sem] binOp_string_gtr_ binOp_string_geq_ binOp_string_leq_ max2_int min2_int max_two min_two max_three min_three max_four min_four   -- for this text's walks alone
set_option linter.unusedVariables false
set_option linter.unusedSimpArgs false

/-! ### impl_copyOp: function 126 -/
def impl_copyOp.f (a0_0 : ByteArray) (l0_1 : List ByteArray) (a0_2 : ByteArray) : Option (ByteArray × List ByteArray × ByteArray) := (slices_Clone_string_string.f l0_1).bind fun t1116 => (some (a0_0, t1116, a0_2))
def impl_copyOp.T1 : Bool × List (List Nat × List Nat) := (true, [([], []), ([0], [0]), ([], []), ([2], [2]), ([3], [3]), ([], []), ([5], [5]), ([1, 4, 6], [1, 4, 6]), ([7, 4, 0, 1, 2, 3, 4, 5, 6, 7], [7])])
def impl_copyOp.B1 : List Nat := [0, 1, 0, 4, 12, 0, 32, 127, 255]
theorem impl_copyOp.tab1 : rtab .any (opsOf Try.f126 1) = impl_copyOp.T1 := by kernel_rfl
theorem impl_copyOp.bits1 : waitsOk impl_copyOp.T1.2 impl_copyOp.B1 = true := by kernel_rfl
set_option maxHeartbeats 8000000 in
set_option maxRecDepth 100000 in
theorem impl_copyOp.calls (a0_0 : ByteArray) (A0_1 : Option Addr) (c0_1 : Nat) (l0_1 : List ByteArray) (a0_2 : ByteArray) (r1 : ByteArray) (r2 : List ByteArray) (r3 : ByteArray) (w : World) (hr0_1 : Kd.C Kd.string w A0_1 l0_1.length l0_1) (hc0_1 : l0_1.length ≤ c0_1) (h : impl_copyOp.f a0_0 l0_1 a0_2 = some (r1, r2, r3)) :
    Calls Try.prog 126 #[.agg #[.string a0_0, .slice A0_1 l0_1.length c0_1, .string a0_2]] w fun e w' => ∃ v1_ : Value, e = .returned (.agg #[.string r1, v1_, .string r3]) ∧ Kd.R Kd.string 9 w' w.heap.size (fun _ => True) v1_ r2 ∧ Below w.heap.size w w' := by
  have hu116 := Try.underlying116
  have HR0_1 := Aside0.mk hr0_1
  have HC0_1 := Aside0.mk hc0_1
  clear hr0_1 hc0_1
  have HB := am (Below.refl w.heap.size w)
  have H : ((slices_Clone_string_string.f l0_1).bind fun t1116 => (some (a0_0, t1116, a0_2))) = some (r1, r2, r3) := h
  clear h
  replace H := Option.bind_eq_some_iff.mp H
  obtain ⟨t1116, A20, H⟩ := H
  try dsimp only at H
  have A2 := Aside0.mk A20
  clear A20
  simp only [Option.some.injEq, Prod.mk.injEq] at H
  obtain ⟨rfl, rfl, rfl⟩ := H
  go_enter Try.func126, Try.ntmps126
  try go_wp2_with (first | ((with_reducible refine gate_dst (N := 1) rfl ?_); refine box_event ?hg (N := 1) ?hd (cs := #[.string a0_0, .slice A0_1 l0_1.length c0_1, .string a0_2]) (t := 116) ?hr ?_; (case hd => rfl); (case hg => rfl); (case hr => first | (go_simp; done) | (go_simp; rfl)); intro gb1114 hg w3 hbox hb; have n0_ := am (below_step (by repeat (first | (with_reducible first | exact HB.out | apply bA | apply bN | apply bD) | exact HB.out)) hb); have n1_ := am (hbox); have n2_ := am ((by rw [hg]; exact (below_size (by repeat (first | (with_reducible first | exact HB.out | apply bA | apply bN | apply bD) | exact HB.out))) : w.heap.size ≤ gb1114)); have n3_ := am ((by rw [hg]; exact (below_size (by repeat (first | (with_reducible first | exact HB.out | apply bA | apply bN | apply bD) | exact HB.out))) : w.heap.size ≤ gb1114)); clear HB; have HB := n0_; have BK1114 := n1_; have GW1114 := n2_; have GE1114 := n3_; clear n0_ n1_ n2_ n3_; clear hb hbox hg) | ((with_reducible refine gate_dst (N := 2) rfl ?_); refine box_event ?hg (N := 2) ?hd (cs := #[.string (⟨#[]⟩ : ByteArray), .slice none 0 0, .string (⟨#[]⟩ : ByteArray)]) (t := 116) ?hr ?_; (case hd => rfl); (case hg => rfl); (case hr => first | (go_simp; done) | (go_simp; rfl)); intro gb1115 hg w4 hbox hb; have n0_ := am (blk_below (g := gb1114) (o := .cells #[.string a0_0, .slice A0_1 l0_1.length c0_1, .string a0_2] 116 (0, 0)) (by (with_reducible repeat (first | refine kN ?_ _ | refine kD ?_ | refine kA ?_ _)); exact BK1114.out) hb); have n1_ := am (below_step (by repeat (first | (with_reducible first | exact HB.out | apply bA | apply bN | apply bD | refine below_set ?_ GE1114.out) | exact HB.out)) hb); have n2_ := am (hbox); have n3_ := am ((by rw [hg]; exact (below_size (by repeat (first | (with_reducible first | exact HB.out | apply bA | apply bN | apply bD | refine below_set ?_ GE1114.out) | exact HB.out))) : w.heap.size ≤ gb1115)); have n4_ := am ((by rw [hg]; exact (below_size (by repeat (first | (with_reducible first | exact HB.out | apply bA | apply bN | apply bD | refine below_set ?_ GE1114.out) | exact HB.out))) : w.heap.size ≤ gb1115)); have n5_ := am ((by rw [hg]; exact Nat.ne_of_lt (blk_lt (g := gb1114) (o := .cells #[.string a0_0, .slice A0_1 l0_1.length c0_1, .string a0_2] 116 (0, 0)) (by (with_reducible repeat (first | refine kN ?_ _ | refine kD ?_ | refine kA ?_ _)); exact BK1114.out)) : gb1114 ≠ gb1115)); have n6_ := am ((by rw [hg]; exact Nat.ne_of_gt (blk_lt (g := gb1114) (o := .cells #[.string a0_0, .slice A0_1 l0_1.length c0_1, .string a0_2] 116 (0, 0)) (by (with_reducible repeat (first | refine kN ?_ _ | refine kD ?_ | refine kA ?_ _)); exact BK1114.out)) : gb1115 ≠ gb1114)); clear BK1114; clear HB; have BK1114 := n0_; have HB := n1_; have BK1115 := n2_; have GW1115 := n3_; have GE1115 := n4_; have NB1114_1115 := n5_; have NB1115_1114 := n6_; clear n0_ n1_ n2_ n3_ n4_ n5_ n6_; clear hb hbox hg))
  have n0_ := am (blk_drew BK1114.out)
  have n1_ := am (blk_drew BK1115.out)
  have n2_ := am (below_drew1 HB.out)
  clear BK1114
  clear BK1115
  clear HB
  have BK1114 := n0_
  have BK1115 := n1_
  have HB := n2_
  clear n0_ n1_ n2_
  refine start_ (n := 9) (S := fun w' => w'.cell? ⟨gb1114, 0, none⟩ = some (.string a0_0) ∧ w'.cell? ⟨gb1114, 1, none⟩ = some (.slice A0_1 l0_1.length c0_1) ∧ w'.cell? ⟨gb1114, 2, none⟩ = some (.string a0_2)) (ds := []) #[false, false, false, false, false, false, false, false, false] (by kernel_rfl) rfl rfl ⟨(blk_cell BK1114.out 0).trans rfl, (blk_cell BK1114.out 1).trans rfl, (blk_cell BK1114.out 2).trans rfl⟩ (fun hHeld => ?_); refine with_tabW impl_copyOp.tab1 impl_copyOp.bits1 (fun HT_ HW_ => ?_)
  generalize w4.drew = w5 at BK1114 BK1115 HB hHeld ⊢
  refine pure_ (i := 0) (N := some 3) (v := ?_) (a' := ?_) #[true, false, false, false, false, false, false, false, false] rfl rfl (any_of HT_.out (by kernel_rfl)) (fun _ _ _ h => h) (Or.inl ⟨by rfl, ?_⟩) ?_ ?_
  rotate_left
  · intro w'
    go_simp
    with_reducible rfl
  rotate_left
  · simp only [Act.put, List.setIfInBounds_toArray, List.set_cons_zero, List.set_cons_succ, i64_w, i32_w]
    rfl
  refine pure_ (i := 2) (N := some 5) (v := ?_) (a' := ?_) #[true, false, true, false, false, false, false, false, false] rfl rfl (any_of HT_.out (by kernel_rfl)) (fun _ _ _ h => h) (Or.inl ⟨by rfl, ?_⟩) ?_ ?_
  rotate_left
  · intro w'
    go_simp
    with_reducible rfl
  rotate_left
  · simp only [Act.put, List.setIfInBounds_toArray, List.set_cons_zero, List.set_cons_succ, i64_w, i32_w]
    rfl
  refine pure_ (i := 5) (N := some 8) (v := ?_) (a' := ?_) #[true, false, true, false, false, true, false, false, false] rfl rfl (any_of HT_.out (by kernel_rfl)) (fun _ _ _ h => h) (Or.inl ⟨by rfl, ?_⟩) ?_ ?_
  rotate_left
  · intro w'
    go_simp
    with_reducible rfl
  rotate_left
  · simp only [Act.put, List.setIfInBounds_toArray, List.set_cons_zero, List.set_cons_succ, i64_w, i32_w]
    rfl
  refine take_ (i := 1) (N := some 4) (v := ?_) (a' := ?_) #[true, true, true, false, false, true, false, false, false] rfl rfl (take_ofW HT_.out HW_.out (by kernel_rfl)) (fun _ _ _ h => h) (Or.inl ⟨by rfl, ?_⟩) hHeld ?_ ?_
  rotate_left
  · rintro w' ⟨s0, s1, s2⟩
    go_simp
    with_reducible rfl
  rotate_left
  · simp only [Act.put, List.setIfInBounds_toArray, List.set_cons_zero, List.set_cons_succ, i64_w, i32_w]
    rfl
  refine take_ (i := 3) (N := some 6) (v := ?_) (a' := ?_) #[true, true, true, true, false, true, false, false, false] rfl rfl (take_ofW HT_.out HW_.out (by kernel_rfl)) (fun _ _ _ h => h) (Or.inl ⟨by rfl, ?_⟩) hHeld ?_ ?_
  rotate_left
  · rintro w' ⟨s0, s1, s2⟩
    go_simp
    with_reducible rfl
  rotate_left
  · simp only [Act.put, List.setIfInBounds_toArray, List.set_cons_zero, List.set_cons_succ, i64_w, i32_w]
    rfl
  refine take_ (i := 6) (N := some 9) (v := ?_) (a' := ?_) #[true, true, true, true, false, true, true, false, false] rfl rfl (take_ofW HT_.out HW_.out (by kernel_rfl)) (fun _ _ _ h => h) (Or.inl ⟨by rfl, ?_⟩) hHeld ?_ ?_
  rotate_left
  · rintro w' ⟨s0, s1, s2⟩
    go_simp
    with_reducible rfl
  rotate_left
  · simp only [Act.put, List.setIfInBounds_toArray, List.set_cons_zero, List.set_cons_succ, i64_w, i32_w]
    rfl
  refine one_ (i := 4) (N := some 7) #[true, true, true, true, true, true, true, false, false] rfl rfl (one_of HT_.out (by kernel_rfl)) (by decide) (fun K hK => ?_)
  refine goes_ Try.func110 (by kernel_rfl) rfl #[.slice A0_1 l0_1.length c0_1] (by rfl) rfl rfl (by (try simp only [List.map_toArray, List.map_cons, List.map_nil]); first | done | rfl | (simp only [List.length_drop, List.length_take]; rfl)) ?_
  with_reducible refine (slices_Clone_string_string.calls _ _ l0_1 t1116 _ ?side1 ?side2 A2.out).mono ?_
  (case side1 => repeat (first | exact (Kd.C_below HR0_1.out HB.out) | (with_reducible refine cA ?_ _) | (with_reducible refine cN ?_ _) | (with_reducible refine cD ?_)))
  (case side2 => exact HC0_1.out)
  rintro e w6 ⟨v1117, rfl, ho0, hb⟩
  refine ⟨_, rfl, ?_⟩
  have n0_ := am (Kd.R_lower ho0 (below_size (by repeat (first | (with_reducible first | exact HB.out | apply bA | apply bN | apply bD | refine below_set ?_ GE1114.out | refine below_set ?_ GE1115.out) | exact HB.out))))
  have n1_ := am (blk_below (g := gb1114) (o := .cells #[.string a0_0, .slice A0_1 l0_1.length c0_1, .string a0_2] 116 (0, 0)) (by (with_reducible repeat (first | refine kN ?_ _ | refine kD ?_ | refine kA ?_ _)); exact BK1114.out) hb)
  have n2_ := am (blk_below (g := gb1115) (o := .cells #[.string (⟨#[]⟩ : ByteArray), .slice none 0 0, .string (⟨#[]⟩ : ByteArray)] 116 (0, 0)) (by (with_reducible repeat (first | refine kN ?_ _ | refine kD ?_ | refine kA ?_ _)); exact BK1115.out) hb)
  have n3_ := am (below_step (by repeat (first | (with_reducible first | exact HB.out | apply bA | apply bN | apply bD | refine below_set ?_ GE1114.out | refine below_set ?_ GE1115.out) | exact HB.out)) hb)
  clear BK1114
  clear BK1115
  clear HB
  have HO1118 := n0_
  have BK1114 := n1_
  have BK1115 := n2_
  have HB := n3_
  clear n0_ n1_ n2_ n3_
  (try clear hb)
  (try clear hb2)
  (try clear hk)
  (try clear hi)
  (try clear ho0)
  obtain ⟨Ao7, co7, eo7⟩ := Kd.R_slice HO1118.out
  (first | subst eo7 | (injection eo7 with f1_ f2_ f3_; have f4_ := f1_.symm; have f5_ := f3_.symm; clear f1_ f2_ f3_; subst f4_; subst f5_))
  refine hK.out _ _ ⟨(blk_cell BK1114.out 0).trans rfl, (blk_cell BK1114.out 1).trans rfl, (blk_cell BK1114.out 2).trans rfl⟩ (fun hHeld => ?_)
  clear hK K
  refine norm_ (a' := ?_) ?_ ?_
  rotate_left
  · show Act.put _ (some 7) _ = _
    simp only [Act.put, List.setIfInBounds_toArray, List.set_cons_zero, List.set_cons_succ, i64_w, i32_w]
    rfl
  refine pure_ (i := 7) (N := some 10) (v := ?_) (a' := ?_) #[true, true, true, true, true, true, true, true, false] rfl rfl (any_of HT_.out (by kernel_rfl)) (fun _ _ _ h => h) (Or.inl ⟨by rfl, ?_⟩) ?_ ?_
  rotate_left
  · intro w'
    go_simp
    with_reducible rfl
  rotate_left
  · simp only [Act.put, List.setIfInBounds_toArray, List.set_cons_zero, List.set_cons_succ, i64_w, i32_w]
    rfl
  refine one_ (i := 8) (N := none) #[true, true, true, true, true, true, true, true, true] rfl rfl (one_of HT_.out (by kernel_rfl)) (by decide) (fun K hK => ?_)
  have hs8 : w6.cell? ⟨gb1115, 0, none⟩ = some (.string (⟨#[]⟩ : ByteArray)) := (blk_cell BK1115.out 0).trans rfl
  have hfs8 := blk_frozen BK1115.out 0
  have hns8_0 := NB1114_1115.out
  have hms8_0 := NB1115_1114.out
  have hs9 : w6.cell? ⟨gb1115, 1, none⟩ = some (.slice none 0 0) := (blk_cell BK1115.out 1).trans rfl
  have hfs9 := blk_frozen BK1115.out 1
  have hns9_0 := NB1114_1115.out
  have hms9_0 := NB1115_1114.out
  have hs10 : w6.cell? ⟨gb1115, 2, none⟩ = some (.string (⟨#[]⟩ : ByteArray)) := (blk_cell BK1115.out 2).trans rfl
  have hfs10 := blk_frozen BK1115.out 2
  have hns10_0 := NB1114_1115.out
  have hms10_0 := NB1115_1114.out
  refine skip_ (w1 := ?_) (by rfl) rfl ?_ ?_
  rotate_left
  · go_simp
    rfl
  refine hK.out _ _ ⟨((cell_far (p := ⟨gb1115, _, none⟩) NB1114_1115.out _).trans (((cell_far (p := ⟨gb1115, _, none⟩) NB1114_1115.out _).trans (((cell_far (p := ⟨gb1115, _, none⟩) NB1114_1115.out _).trans (hHeld.1)))))), ((cell_far (p := ⟨gb1115, _, none⟩) NB1114_1115.out _).trans (((cell_far (p := ⟨gb1115, _, none⟩) NB1114_1115.out _).trans (((cell_far (p := ⟨gb1115, _, none⟩) NB1114_1115.out _).trans (hHeld.2.1)))))), ((cell_far (p := ⟨gb1115, _, none⟩) NB1114_1115.out _).trans (((cell_far (p := ⟨gb1115, _, none⟩) NB1114_1115.out _).trans (((cell_far (p := ⟨gb1115, _, none⟩) NB1114_1115.out _).trans (hHeld.2.2))))))⟩ (fun hHeld => ?_)
  clear hK K
  refine done_ (done_of HT_.out (by kernel_rfl)) ?_
  try go_wp2
  refine bodyPost_ret (results_cell_row rfl _ _ gb1115 116 #[.string a0_0, .slice Ao7 t1116.length co7, .string a0_2] (0, 0) _ rfl (by (with_reducible repeat (first | refine kN ?_ _ | refine kD ?_ | refine kA ?_ _)); refine blk_put (cs := #[.string a0_0, .slice Ao7 t1116.length co7, .string (⟨#[]⟩ : ByteArray)]) ?_ 2 _ rfl; (with_reducible repeat (first | refine kN ?_ _ | refine kD ?_ | refine kA ?_ _)); refine blk_put (cs := #[.string a0_0, .slice none 0 0, .string (⟨#[]⟩ : ByteArray)]) ?_ 1 _ rfl; (with_reducible repeat (first | refine kN ?_ _ | refine kD ?_ | refine kA ?_ _)); refine blk_put (cs := #[.string (⟨#[]⟩ : ByteArray), .slice none 0 0, .string (⟨#[]⟩ : ByteArray)]) ?_ 0 _ rfl; (with_reducible repeat (first | refine kN ?_ _ | refine kD ?_ | refine kA ?_ _)); exact BK1115.out) Try.underlying116 rfl (by kernel_rfl)) rfl ?_
  exact ⟨_, by first | rfl | (simp [errW_none, errW_some] <;> rfl) | (simp [*, errW_none, errW_some] <;> rfl), by (with_reducible repeat (first | apply rA | apply rN | apply rD)); exact Kd.R_mono (Kd.R_far (p := ⟨gb1115, 2, none⟩) (Kd.R_far (p := ⟨gb1115, 1, none⟩) (Kd.R_far (p := ⟨gb1115, 0, none⟩) (Kd.R_types HO1118.out BK1115.out (by decide)) (fun _ hk => hk.2) (.string a0_0)) (fun _ hk => hk.2) (.slice Ao7 t1116.length co7)) (fun _ hk => hk.2) (.string a0_2)) (fun _ hk => trivial), by repeat (first | (with_reducible first | exact HB.out | apply bA | apply bN | apply bD | refine below_set ?_ GE1114.out | refine below_set ?_ GE1115.out) | exact HB.out)⟩

end Go.Proofs.Ytdgjddkibiffnaa.F
namespace Go.Proofs.Ytdgjddkibiffnaa.F
open Go.RowKit Go.Proofs.YtdgjddkibiffnaaW.PrintWords Go.Proofs.YtdgjddkibiffnaaW.PrintLast Go.Proofs.YtdgjddkibiffnaaW.PrintMore
attribute [local go_sem] binOp_string_gtr_ binOp_string_geq_ binOp_string_leq_ max2_int min2_int max_two min_two max_three min_three max_four min_four   -- for this text's walks alone
set_option linter.unusedVariables false
set_option linter.unusedSimpArgs false

/-! ### impl_FindOp: function 103 -/
def impl_FindOp.l0 : Nat → ByteArray → List (S116) → Int → Int → Option (ByteArray × List ByteArray × ByteArray × Bool)
  | 0, _, _, _, _ => none
  | k + 1, x1, x14, x15, x16 => if x16 < x15 then (if 0 ≤ x16 then (if x16 < (x14.length : Int) then (if ((rd_T116 x14 x16).f0).toList = x1.toList then ((impl_copyOp.f ((rd_T116 x14 x16).f0) ((rd_T116 x14 x16).f1) ((rd_T116 x14 x16).f2)).bind fun bt1127 => (some (bt1127.1, bt1127.2.1, bt1127.2.2, true))) else (impl_FindOp.l0 k x1 x14 x15 (wrap64 (x16 + 1)))) else (none)) else (none)) else (some ((⟨#[]⟩ : ByteArray), ([] : List ByteArray), (⟨#[]⟩ : ByteArray), false))
def impl_FindOp.f (k : Nat) (l0_0 : List ByteArray) (l0_1 : List (S116)) (a1 : ByteArray) : Option (ByteArray × List ByteArray × ByteArray × Bool) := (impl_IsBuiltin.f a1).bind fun t1121 => (if t1121 = true then (some (a1, (([(⟨#[119, 111, 114, 100]⟩ : ByteArray), (⟨#[119, 111, 114, 100]⟩ : ByteArray)] : List ByteArray)), (⟨#[119, 111, 114, 100]⟩ : ByteArray), true)) else (impl_FindOp.l0 k a1 l0_1 (l0_1.length : Int) 0))
set_option maxHeartbeats 8000000 in
set_option maxRecDepth 100000 in
theorem impl_FindOp.calls (k : Nat) (A0_0 : Option Addr) (c0_0 : Nat) (l0_0 : List ByteArray) (A0_1 : Option Addr) (c0_1 : Nat) (l0_1 : List (S116)) (a1 : ByteArray) (r1 : ByteArray) (r2 : List ByteArray) (r3 : ByteArray) (r4 : Bool) (w : World) (hr0_0 : Kd.C Kd.string w A0_0 l0_0.length l0_0) (hc0_0 : l0_0.length ≤ c0_0) (hr0_1 : Kd.C k116 w A0_1 l0_1.length l0_1) (hc0_1 : l0_1.length ≤ c0_1) (h : impl_FindOp.f k l0_0 l0_1 a1 = some (r1, r2, r3, r4)) :
    Calls Try.prog 103 #[.agg #[.slice A0_0 l0_0.length c0_0, .slice A0_1 l0_1.length c0_1], .string a1] w fun e w' => ∃ v1_ : Value, e = .returned (.tuple #[.agg #[.string r1, v1_, .string r3], .bool r4]) ∧ Kd.R Kd.string 9 w' w.heap.size (fun _ => True) v1_ r2 ∧ Below w.heap.size w w' := by
  have hu73 := Try.underlying73
  have hu116 := Try.underlying116
  have HR0_0 := Aside0.mk hr0_0
  have HC0_0 := Aside0.mk hc0_0
  clear hr0_0 hc0_0
  have HR0_1 := Aside0.mk hr0_1
  have HC0_1 := Aside0.mk hc0_1
  clear hr0_1 hc0_1
  have HB := am (Below.refl w.heap.size w)
  have H : ((impl_IsBuiltin.f a1).bind fun t1121 => (if t1121 = true then (some (a1, (([(⟨#[119, 111, 114, 100]⟩ : ByteArray), (⟨#[119, 111, 114, 100]⟩ : ByteArray)] : List ByteArray)), (⟨#[119, 111, 114, 100]⟩ : ByteArray), true)) else (impl_FindOp.l0 k a1 l0_1 (l0_1.length : Int) 0))) = some (r1, r2, r3, r4) := h
  clear h
  replace H := Option.bind_eq_some_iff.mp H
  obtain ⟨t1121, A30, H⟩ := H
  try dsimp only at H
  have A3 := Aside0.mk A30
  clear A30
  by_cases c4 : t1121 = true
  · subst c4
    have H1 : (some (a1, (([(⟨#[119, 111, 114, 100]⟩ : ByteArray), (⟨#[119, 111, 114, 100]⟩ : ByteArray)] : List ByteArray)), (⟨#[119, 111, 114, 100]⟩ : ByteArray), true)) = some (r1, r2, r3, r4) := by first | with_reducible rfl | (rw [if_pos rfl] at H; exact H)
    clear H
    have H := H1
    clear H1
    obtain ⟨y1122, hy1122⟩ : ∃ y_ : List ByteArray, y_ = (([(⟨#[119, 111, 114, 100]⟩ : ByteArray), (⟨#[119, 111, 114, 100]⟩ : ByteArray)] : List ByteArray)) := ⟨_, rfl⟩
    replace H : (some (a1, y1122, (⟨#[119, 111, 114, 100]⟩ : ByteArray), true)) = some (r1, r2, r3, r4) := by first | (rw [hy1122]; with_reducible exact H) | (have H2_ := (Option.bind_some _ _).symm.trans H; rw [hy1122]; with_reducible exact H2_) | (have H2_ := (Option.bind_some _ _).symm.trans H; with_reducible exact H2_) | with_reducible exact H | (rw [hy1122]; exact H) | exact H
    have Ny1122 := Aside0.mk hy1122
    clear hy1122
    simp only [Option.some.injEq, Prod.mk.injEq] at H
    obtain ⟨rfl, rfl, rfl, rfl⟩ := H
    go_enter Try.func103, Try.ntmps103
    go_wp2_with (first | ((with_reducible refine gate_dst (N := 2) rfl ?_); refine box_event ?hg (N := 2) ?hd (cs := #[.slice A0_0 l0_0.length c0_0, .slice A0_1 l0_1.length c0_1]) (t := 73) ?hr ?_; (case hd => rfl); (case hg => rfl); (case hr => first | (go_simp; done) | (go_simp; rfl)); intro gb1119 hg w5 hbox hb; have n0_ := am (below_step (by repeat (first | (with_reducible first | exact HB.out | apply bA | apply bN | apply bD) | exact HB.out)) hb); have n1_ := am (hbox); have n2_ := am ((by rw [hg]; exact (below_size (by repeat (first | (with_reducible first | exact HB.out | apply bA | apply bN | apply bD) | exact HB.out))) : w.heap.size ≤ gb1119)); have n3_ := am ((by rw [hg]; exact (below_size (by repeat (first | (with_reducible first | exact HB.out | apply bA | apply bN | apply bD) | exact HB.out))) : w.heap.size ≤ gb1119)); clear HB; have HB := n0_; have BK1119 := n1_; have GW1119 := n2_; have GE1119 := n3_; clear n0_ n1_ n2_ n3_; clear hb hbox hg) | ((with_reducible refine gate_dst (N := 4) rfl ?_); refine box_event ?hg (N := 4) ?hd (cs := #[.string (⟨#[]⟩ : ByteArray), .slice none 0 0, .string (⟨#[]⟩ : ByteArray)]) (t := 116) ?hr ?_; (case hd => rfl); (case hg => rfl); (case hr => first | (go_simp; done) | (go_simp; rfl)); intro gb1120 hg w6 hbox hb; have n0_ := am (blk_below (g := gb1119) (o := .cells #[.slice A0_0 l0_0.length c0_0, .slice A0_1 l0_1.length c0_1] 73 (0, 0)) (by (with_reducible repeat (first | refine kN ?_ _ | refine kD ?_ | refine kA ?_ _)); exact BK1119.out) hb); have n1_ := am (below_step (by repeat (first | (with_reducible first | exact HB.out | apply bA | apply bN | apply bD | refine below_set ?_ GE1119.out) | exact HB.out)) hb); have n2_ := am (hbox); have n3_ := am ((by rw [hg]; exact (below_size (by repeat (first | (with_reducible first | exact HB.out | apply bA | apply bN | apply bD | refine below_set ?_ GE1119.out) | exact HB.out))) : w.heap.size ≤ gb1120)); have n4_ := am ((by rw [hg]; exact (below_size (by repeat (first | (with_reducible first | exact HB.out | apply bA | apply bN | apply bD | refine below_set ?_ GE1119.out) | exact HB.out))) : w.heap.size ≤ gb1120)); have n5_ := am ((by rw [hg]; exact Nat.ne_of_lt (blk_lt (g := gb1119) (o := .cells #[.slice A0_0 l0_0.length c0_0, .slice A0_1 l0_1.length c0_1] 73 (0, 0)) (by (with_reducible repeat (first | refine kN ?_ _ | refine kD ?_ | refine kA ?_ _)); exact BK1119.out)) : gb1119 ≠ gb1120)); have n6_ := am ((by rw [hg]; exact Nat.ne_of_gt (blk_lt (g := gb1119) (o := .cells #[.slice A0_0 l0_0.length c0_0, .slice A0_1 l0_1.length c0_1] 73 (0, 0)) (by (with_reducible repeat (first | refine kN ?_ _ | refine kD ?_ | refine kA ?_ _)); exact BK1119.out)) : gb1120 ≠ gb1119)); clear BK1119; clear HB; have BK1119 := n0_; have HB := n1_; have BK1120 := n2_; have GW1120 := n3_; have GE1120 := n4_; have NB1119_1120 := n5_; have NB1120_1119 := n6_; clear n0_ n1_ n2_ n3_ n4_ n5_ n6_; clear hb hbox hg) | ((with_reducible refine gate_callee (f := 120) rfl ?_); refine goesL_ (some 9) rfl rfl Try.func120 (by kernel_rfl) rfl #[.string a1] rfl (by (try simp only [List.map_toArray, List.map_cons, List.map_nil]); first | done | rfl | (simp only [List.length_drop, List.length_take]; rfl)) ?_; (with_reducible refine (impl_IsBuiltin.calls a1 true _ A3.out).mono ?_); rintro e w' ⟨rfl, ⟨nd, rfl⟩⟩; refine ⟨_, rfl, ?_⟩; (try (rw [drewN_self w6]; generalize hq_ : World.drewN w6 _ = w6; have n0_ : Aside0 (w6.heap[gb1119]? = some (.cells #[.slice A0_0 l0_0.length c0_0, .slice A0_1 l0_1.length c0_1] 73 (0, 0))) := ⟨by rw [← hq_]; exact (by (with_reducible repeat (first | refine kN ?_ _ | refine kD ?_ | refine kA ?_ _)); exact BK1119.out)⟩; have n1_ : Aside0 (w6.heap[gb1120]? = some (.cells #[.string (⟨#[]⟩ : ByteArray), .slice none 0 0, .string (⟨#[]⟩ : ByteArray)] 116 (0, 0))) := ⟨by rw [← hq_]; exact (by (with_reducible repeat (first | refine kN ?_ _ | refine kD ?_ | refine kA ?_ _)); exact BK1120.out)⟩; have n2_ : Aside0 (Below w.heap.size w w6) := ⟨by rw [← hq_]; exact (by repeat (first | (with_reducible first | exact HB.out | apply bA | apply bN | apply bD | refine below_set ?_ GE1119.out | refine below_set ?_ GE1120.out) | exact HB.out))⟩; clear BK1119 BK1120 HB hq_; have BK1119 := n0_; have BK1120 := n1_; have HB := n2_; clear n0_ n1_ n2_))) | ((with_reducible refine gate_dst (N := 11) rfl ?_); refine Kd.R_lit Kd.string _ 9 ?hg (N := 11) ?hd (xs := ([(⟨#[119, 111, 114, 100]⟩ : ByteArray), (⟨#[119, 111, 114, 100]⟩ : ByteArray)] : List ByteArray)) (inner := [.string (⟨#[119, 111, 114, 100]⟩ : ByteArray), .string (⟨#[119, 111, 114, 100]⟩ : ByteArray)]) (ok := fun _ => True) (okp := fun _ => True) ?hr ?hp (fun _ hk => hk) trivial (Below.refl _ _) (Nat.le_refl _) (by simp) ?_; (case hd => rfl); (case hg => rfl); (case hr => first | (go_simp; done) | (go_simp; rfl)); (case hp => exact (Reps.one (show Kd.M Kd.string _ _ _ (⟨#[119, 111, 114, 100]⟩ : ByteArray) [.string (⟨#[119, 111, 114, 100]⟩ : ByteArray)] from rfl) (Reps.one (show Kd.M Kd.string _ _ _ (⟨#[119, 111, 114, 100]⟩ : ByteArray) [.string (⟨#[119, 111, 114, 100]⟩ : ByteArray)] from rfl) (Reps.none _ _)))); intro v1123 w7 ho8 hb hg_ hnew_; clear hg_ hnew_; (first | rw [← Ny1122.out] at ho8 | (simp only [Int.reduceToNat] at ho8; rw [← Ny1122.out] at ho8)); have n0_ := am (Kd.R_lower ho8 (below_size (by repeat (first | (with_reducible first | exact HB.out | apply bA | apply bN | apply bD | refine below_set ?_ GE1119.out | refine below_set ?_ GE1120.out) | exact HB.out)))); have n1_ := am (blk_below (g := gb1119) (o := .cells #[.slice A0_0 l0_0.length c0_0, .slice A0_1 l0_1.length c0_1] 73 (0, 0)) (by (with_reducible repeat (first | refine kN ?_ _ | refine kD ?_ | refine kA ?_ _)); exact BK1119.out) hb); have n2_ := am (blk_below (g := gb1120) (o := .cells #[.string (⟨#[]⟩ : ByteArray), .slice none 0 0, .string (⟨#[]⟩ : ByteArray)] 116 (0, 0)) (by (with_reducible repeat (first | refine kN ?_ _ | refine kD ?_ | refine kA ?_ _)); exact BK1120.out) hb); have n3_ := am (below_step (by repeat (first | (with_reducible first | exact HB.out | apply bA | apply bN | apply bD | refine below_set ?_ GE1119.out | refine below_set ?_ GE1120.out) | exact HB.out)) hb); clear BK1119; clear BK1120; clear HB; have HO1124 := n0_; have BK1119 := n1_; have BK1120 := n2_; have HB := n3_; clear n0_ n1_ n2_ n3_; clear hb ho8; obtain ⟨Ao9, co9, eo9⟩ := Kd.R_slice HO1124.out; subst eo9; have hnb10 := NB1120_1119.out; have hnc10 := NB1119_1120.out; have hcz11_0 : w7.cell? ⟨gb1120, 0, none⟩ = some (.string (⟨#[]⟩ : ByteArray)) := (blk_cell BK1120.out 0).trans rfl; have hcz11_1 : w7.cell? ⟨gb1120, 1, none⟩ = some (.slice none 0 0) := (blk_cell BK1120.out 1).trans rfl; have hcz11_2 : w7.cell? ⟨gb1120, 2, none⟩ = some (.string (⟨#[]⟩ : ByteArray)) := (blk_cell BK1120.out 2).trans rfl; have hfz11_0 := blk_frozen BK1120.out 0; have hfz11_1 := blk_frozen BK1120.out 1; have hfz11_2 := blk_frozen BK1120.out 2))
    refine bodyPost_ret (results_ct rfl _ _ gb1120 116 #[.string a1, .slice Ao9 y1122.length co9, .string (⟨#[119, 111, 114, 100]⟩ : ByteArray)] (0, 0) _ rfl (by (with_reducible repeat (first | refine kN ?_ _ | refine kD ?_ | refine kA ?_ _)); refine blk_put (cs := #[.string a1, .slice Ao9 y1122.length co9, .string (⟨#[]⟩ : ByteArray)]) ?_ 2 _ rfl; (with_reducible repeat (first | refine kN ?_ _ | refine kD ?_ | refine kA ?_ _)); refine blk_put (cs := #[.string a1, .slice none 0 0, .string (⟨#[]⟩ : ByteArray)]) ?_ 1 _ rfl; (with_reducible repeat (first | refine kN ?_ _ | refine kD ?_ | refine kA ?_ _)); refine blk_put (cs := #[.string (⟨#[]⟩ : ByteArray), .slice none 0 0, .string (⟨#[]⟩ : ByteArray)]) ?_ 0 _ rfl; (with_reducible repeat (first | refine kN ?_ _ | refine kD ?_ | refine kA ?_ _)); exact BK1120.out) Try.underlying116 rfl (by kernel_rfl)) rfl ?_
    exact ⟨_, by first | rfl | (simp [errW_none, errW_some] <;> rfl) | (simp [*, errW_none, errW_some] <;> rfl), by (with_reducible repeat (first | apply rA | apply rN | apply rD)); exact Kd.R_mono (Kd.R_far (p := ⟨gb1120, 2, none⟩) (Kd.R_far (p := ⟨gb1120, 1, none⟩) (Kd.R_far (p := ⟨gb1120, 0, none⟩) (Kd.R_types HO1124.out BK1120.out (by decide)) (fun _ hk => hk.2) (.string a1)) (fun _ hk => hk.2) (.slice Ao9 y1122.length co9)) (fun _ hk => hk.2) (.string (⟨#[119, 111, 114, 100]⟩ : ByteArray))) (fun _ hk => trivial), by repeat (first | (with_reducible first | exact HB.out | apply bA | apply bN | apply bD | refine below_set ?_ GE1119.out | refine below_set ?_ GE1120.out) | exact HB.out)⟩
  · replace c4 := Bool.eq_false_iff.mpr c4
    subst c4
    have H1 : (impl_FindOp.l0 k a1 l0_1 (l0_1.length : Int) 0) = some (r1, r2, r3, r4) := by rw [if_neg (show ¬ (false = true) by decide)] at H; exact H
    clear H
    have H := H1
    clear H1
    have H' := Aside0.mk H
    clear H
    go_enter Try.func103, Try.ntmps103
    go_wp2_with (first | ((with_reducible refine gate_dst (N := 2) rfl ?_); refine box_event ?hg (N := 2) ?hd (cs := #[.slice A0_0 l0_0.length c0_0, .slice A0_1 l0_1.length c0_1]) (t := 73) ?hr ?_; (case hd => rfl); (case hg => rfl); (case hr => first | (go_simp; done) | (go_simp; rfl)); intro gb1119 hg w12 hbox hb; have n0_ := am (below_step (by repeat (first | (with_reducible first | exact HB.out | apply bA | apply bN | apply bD) | exact HB.out)) hb); have n1_ := am (hbox); have n2_ := am ((by rw [hg]; exact (below_size (by repeat (first | (with_reducible first | exact HB.out | apply bA | apply bN | apply bD) | exact HB.out))) : w.heap.size ≤ gb1119)); have n3_ := am ((by rw [hg]; exact (below_size (by repeat (first | (with_reducible first | exact HB.out | apply bA | apply bN | apply bD) | exact HB.out))) : w.heap.size ≤ gb1119)); clear HB; have HB := n0_; have BK1119 := n1_; have GW1119 := n2_; have GE1119 := n3_; clear n0_ n1_ n2_ n3_; clear hb hbox hg) | ((with_reducible refine gate_dst (N := 4) rfl ?_); refine box_event ?hg (N := 4) ?hd (cs := #[.string (⟨#[]⟩ : ByteArray), .slice none 0 0, .string (⟨#[]⟩ : ByteArray)]) (t := 116) ?hr ?_; (case hd => rfl); (case hg => rfl); (case hr => first | (go_simp; done) | (go_simp; rfl)); intro gb1120 hg w13 hbox hb; have n0_ := am (blk_below (g := gb1119) (o := .cells #[.slice A0_0 l0_0.length c0_0, .slice A0_1 l0_1.length c0_1] 73 (0, 0)) (by (with_reducible repeat (first | refine kN ?_ _ | refine kD ?_ | refine kA ?_ _)); exact BK1119.out) hb); have n1_ := am (below_step (by repeat (first | (with_reducible first | exact HB.out | apply bA | apply bN | apply bD | refine below_set ?_ GE1119.out) | exact HB.out)) hb); have n2_ := am (hbox); have n3_ := am ((by rw [hg]; exact (below_size (by repeat (first | (with_reducible first | exact HB.out | apply bA | apply bN | apply bD | refine below_set ?_ GE1119.out) | exact HB.out))) : w.heap.size ≤ gb1120)); have n4_ := am ((by rw [hg]; exact (below_size (by repeat (first | (with_reducible first | exact HB.out | apply bA | apply bN | apply bD | refine below_set ?_ GE1119.out) | exact HB.out))) : w.heap.size ≤ gb1120)); have n5_ := am ((by rw [hg]; exact Nat.ne_of_lt (blk_lt (g := gb1119) (o := .cells #[.slice A0_0 l0_0.length c0_0, .slice A0_1 l0_1.length c0_1] 73 (0, 0)) (by (with_reducible repeat (first | refine kN ?_ _ | refine kD ?_ | refine kA ?_ _)); exact BK1119.out)) : gb1119 ≠ gb1120)); have n6_ := am ((by rw [hg]; exact Nat.ne_of_gt (blk_lt (g := gb1119) (o := .cells #[.slice A0_0 l0_0.length c0_0, .slice A0_1 l0_1.length c0_1] 73 (0, 0)) (by (with_reducible repeat (first | refine kN ?_ _ | refine kD ?_ | refine kA ?_ _)); exact BK1119.out)) : gb1120 ≠ gb1119)); clear BK1119; clear HB; have BK1119 := n0_; have HB := n1_; have BK1120 := n2_; have GW1120 := n3_; have GE1120 := n4_; have NB1119_1120 := n5_; have NB1120_1119 := n6_; clear n0_ n1_ n2_ n3_ n4_ n5_ n6_; clear hb hbox hg) | ((with_reducible refine gate_callee (f := 120) rfl ?_); refine goesL_ (some 9) rfl rfl Try.func120 (by kernel_rfl) rfl #[.string a1] rfl (by (try simp only [List.map_toArray, List.map_cons, List.map_nil]); first | done | rfl | (simp only [List.length_drop, List.length_take]; rfl)) ?_; (with_reducible refine (impl_IsBuiltin.calls a1 false _ A3.out).mono ?_); rintro e w' ⟨rfl, ⟨nd, rfl⟩⟩; refine ⟨_, rfl, ?_⟩; have hnb14 := NB1119_1120.out; have hnc14 := NB1120_1119.out; have hcz15_0 : w13.cell? ⟨gb1119, 0, none⟩ = some (.slice A0_0 l0_0.length c0_0) := (blk_cell BK1119.out 0).trans rfl; have hcz15_1 : w13.cell? ⟨gb1119, 1, none⟩ = some (.slice A0_1 l0_1.length c0_1) := (blk_cell BK1119.out 1).trans rfl; have hfz15_0 := blk_frozen BK1119.out 0; have hfz15_1 := blk_frozen BK1119.out 1))
    go_loopg [16] k (fun kq v16 w' => ∃ (x16_1 : Int) (x1121000_1 : ByteArray) (x1121002_1 : ByteArray), v16 = .int .i64 x16_1 ∧ Aside0 (impl_FindOp.l0 kq a1 l0_1 (l0_1.length : Int) x16_1 = some (r1, r2, r3, r4)) ∧ Aside0 (kq ≤ k) ∧ Aside0 (w'.heap[gb1119]? = some (.cells #[(.slice A0_0 l0_0.length c0_0), (.slice A0_1 l0_1.length c0_1)] 73 (0, 0))) ∧ Aside0 (w'.heap[gb1120]? = some (.cells #[.string x1121000_1, (.slice none 0 0), .string x1121002_1] 116 (0, 0))) ∧ Aside0 (Below w.heap.size w w'))
    case atStart => exact ⟨(0), ((⟨#[]⟩ : ByteArray)), ((⟨#[]⟩ : ByteArray)), (by first | rfl | (simp; done) | (simp [*]; done)), H', ⟨Nat.le_refl _⟩, ⟨by (with_reducible repeat (first | refine kN ?_ _ | refine kD ?_ | refine kA ?_ _)); exact BK1119.out⟩, ⟨by (with_reducible repeat (first | refine kN ?_ _ | refine kD ?_ | refine kA ?_ _)); exact BK1120.out⟩, ⟨by repeat (first | (with_reducible first | exact HB.out | apply bA | apply bN | apply bD | refine below_set ?_ GE1119.out | refine below_set ?_ GE1120.out) | exact HB.out)⟩⟩
    case round =>
      clear H'
      obtain ⟨x16_1, x1121000_1, x1121002_1, rfl, HA, HK1, BK1119, BK1120, HB⟩ := hrel
      cases gk with
      | zero => exact absurd HA.out (by simp [impl_FindOp.l0])
      | succ k1 =>
        have H := HA.out
        clear HA
        simp only [impl_FindOp.l0] at H
        by_cases c16 : x16_1 < (l0_1.length : Int)
        · rw [if_pos c16] at H
          have c16b0 : decide (x16_1 < (l0_1.length : Int)) = true := decide_eq_true c16
          clear c16
          by_cases c17 : 0 ≤ x16_1
          · rw [if_pos c17] at H
            have c17b0 : decide (0 ≤ x16_1) = true := decide_eq_true c17
            clear c17
            by_cases c18 : x16_1 < (l0_1.length : Int)
            · rw [if_pos c18] at H
              have c18b0 : decide (x16_1 < (l0_1.length : Int)) = true := decide_eq_true c18
              clear c18
              by_cases c19 : ((rd_T116 l0_1 x16_1).f0).toList = a1.toList
              · rw [if_pos c19] at H
                have c19b0 : (((rd_T116 l0_1 x16_1).f0).toList == a1.toList) = true := beq_iff_eq.mpr c19
                have c19b1 : (((rd_T116 l0_1 x16_1).f0).toList != a1.toList) = false := bne_eq_false_iff_eq.mpr c19
                clear c19
                replace H := Option.bind_eq_some_iff.mp H
                obtain ⟨⟨t1127, t1128, t1131⟩, A200, H⟩ := H
                try dsimp only at H
                have A20 := Aside0.mk A200
                clear A200
                simp only [Option.some.injEq, Prod.mk.injEq] at H
                obtain ⟨rfl, rfl, rfl, rfl⟩ := H
                have p1125 : 0 ≤ (x16_1 : Int) := of_decide_eq_true (by assumption)
                have q1125 : x16_1 < (l0_1.length : Int) := of_decide_eq_true (by assumption)
                obtain ⟨ad1125, A1125_1, c1125_1, e1125, hx1125_0, hx1125_1, hx1125_2, hl1125_1, hi1125_1⟩ := at_T116 HR0_1.out x16_1 p1125 q1125
                cases e1125
                replace hx1125_0 := (HB.out.cell (World.block_lt_of_cell? w _ hx1125_0)).trans hx1125_0
                replace hx1125_1 := (HB.out.cell (World.block_lt_of_cell? w _ hx1125_1)).trans hx1125_1
                replace hx1125_2 := (HB.out.cell (World.block_lt_of_cell? w _ hx1125_2)).trans hx1125_2
                have HR1125_1 := Aside0.mk hi1125_1
                have HC1125_1 := Aside0.mk hl1125_1
                clear hi1125_1 hl1125_1
                replace p1125 := eq_true p1125
                replace q1125 := eq_true q1125
                go_wp2_with (first | ((with_reducible refine gate_dst (N := 7) rfl ?_); refine box_event ?hg (N := 7) ?hd (cs := #[.string (⟨#[]⟩ : ByteArray), .slice none 0 0, .string (⟨#[]⟩ : ByteArray)]) (t := 116) ?hr ?_; (case hd => rfl); (case hg => rfl); (case hr => first | (go_simp; done) | (go_simp; rfl)); intro gb1126 hg w21 hbox hb; have n0_ := am (blk_below (g := gb1119) (o := .cells #[.slice A0_0 l0_0.length c0_0, .slice (some ad1125) l0_1.length c0_1] 73 (0, 0)) (by (with_reducible repeat (first | refine kN ?_ _ | refine kD ?_ | refine kA ?_ _)); exact BK1119.out) hb); have n1_ := am (blk_below (g := gb1120) (o := .cells #[.string x1121000_1, .slice none 0 0, .string x1121002_1] 116 (0, 0)) (by (with_reducible repeat (first | refine kN ?_ _ | refine kD ?_ | refine kA ?_ _)); exact BK1120.out) hb); have n2_ := am (below_step (by repeat (first | (with_reducible first | exact HB.out | apply bA | apply bN | apply bD | refine below_set ?_ GE1119.out | refine below_set ?_ GE1120.out) | exact HB.out)) hb); have n3_ := am (hbox); have n4_ := am ((by rw [hg]; exact (below_size (by repeat (first | (with_reducible first | exact HB.out | apply bA | apply bN | apply bD | refine below_set ?_ GE1119.out | refine below_set ?_ GE1120.out) | exact HB.out))) : w.heap.size ≤ gb1126)); have n5_ := am ((by rw [hg]; exact (below_size (by repeat (first | (with_reducible first | exact HB.out | apply bA | apply bN | apply bD | refine below_set ?_ GE1119.out | refine below_set ?_ GE1120.out) | exact HB.out))) : w.heap.size ≤ gb1126)); have n6_ := am ((by rw [hg]; exact Nat.ne_of_lt (blk_lt (g := gb1119) (o := .cells #[.slice A0_0 l0_0.length c0_0, .slice (some ad1125) l0_1.length c0_1] 73 (0, 0)) (by (with_reducible repeat (first | refine kN ?_ _ | refine kD ?_ | refine kA ?_ _)); exact BK1119.out)) : gb1119 ≠ gb1126)); have n7_ := am ((by rw [hg]; exact Nat.ne_of_gt (blk_lt (g := gb1119) (o := .cells #[.slice A0_0 l0_0.length c0_0, .slice (some ad1125) l0_1.length c0_1] 73 (0, 0)) (by (with_reducible repeat (first | refine kN ?_ _ | refine kD ?_ | refine kA ?_ _)); exact BK1119.out)) : gb1126 ≠ gb1119)); have n8_ := am ((by rw [hg]; exact Nat.ne_of_lt (blk_lt (g := gb1120) (o := .cells #[.string x1121000_1, .slice none 0 0, .string x1121002_1] 116 (0, 0)) (by (with_reducible repeat (first | refine kN ?_ _ | refine kD ?_ | refine kA ?_ _)); exact BK1120.out)) : gb1120 ≠ gb1126)); have n9_ := am ((by rw [hg]; exact Nat.ne_of_gt (blk_lt (g := gb1120) (o := .cells #[.string x1121000_1, .slice none 0 0, .string x1121002_1] 116 (0, 0)) (by (with_reducible repeat (first | refine kN ?_ _ | refine kD ?_ | refine kA ?_ _)); exact BK1120.out)) : gb1126 ≠ gb1120)); clear BK1119; clear BK1120; clear HB; have BK1119 := n0_; have BK1120 := n1_; have HB := n2_; have BK1126 := n3_; have GW1126 := n4_; have GE1126 := n5_; have NB1119_1126 := n6_; have NB1126_1119 := n7_; have NB1120_1126 := n8_; have NB1126_1120 := n9_; clear n0_ n1_ n2_ n3_ n4_ n5_ n6_ n7_ n8_ n9_; clear hb hbox hg; have hnb22 := NB1126_1119.out; have hnc22 := NB1119_1126.out; have hnb23 := NB1126_1120.out; have hnc23 := NB1120_1126.out; have hcz24_0 : w21.cell? ⟨gb1126, 0, none⟩ = some (.string (⟨#[]⟩ : ByteArray)) := (blk_cell BK1126.out 0).trans rfl; have hcz24_1 : w21.cell? ⟨gb1126, 1, none⟩ = some (.slice none 0 0) := (blk_cell BK1126.out 1).trans rfl; have hcz24_2 : w21.cell? ⟨gb1126, 2, none⟩ = some (.string (⟨#[]⟩ : ByteArray)) := (blk_cell BK1126.out 2).trans rfl; have hfz24_0 := blk_frozen BK1126.out 0; have hfz24_1 := blk_frozen BK1126.out 1; have hfz24_2 := blk_frozen BK1126.out 2) | ((with_reducible refine gate_callee (f := 126) rfl ?_); refine goesL_ (some 25) rfl rfl Try.func126 (by kernel_rfl) rfl #[.agg #[.string ((rd_T116 l0_1 x16_1).f0), .slice A1125_1 ((rd_T116 l0_1 x16_1).f1).length c1125_1, .string ((rd_T116 l0_1 x16_1).f2)]] rfl (by (try simp only [List.map_toArray, List.map_cons, List.map_nil]); first | done | rfl | (simp only [List.length_drop, List.length_take]; rfl)) ?_; (with_reducible refine (impl_copyOp.calls ((rd_T116 l0_1 x16_1).f0) _ _ ((rd_T116 l0_1 x16_1).f1) ((rd_T116 l0_1 x16_1).f2) t1127 t1128 t1131 _ ?side1 ?side2 A20.out).mono ?_); (case side1 => exact Kd.C_below HR1125_1.out (by repeat (first | (with_reducible first | exact HB.out | apply bA | apply bN | apply bD | refine below_set ?_ GE1119.out | refine below_set ?_ GE1120.out | refine below_set ?_ GE1126.out) | exact HB.out))); (case side2 => exact HC1125_1.out); rintro e w25 ⟨v1129, rfl, ho0, hb⟩; refine ⟨_, rfl, ?_⟩; have n0_ := am (Kd.R_lower ho0 (below_size (by repeat (first | (with_reducible first | exact HB.out | apply bA | apply bN | apply bD | refine below_set ?_ GE1119.out | refine below_set ?_ GE1120.out | refine below_set ?_ GE1126.out) | exact HB.out)))); have n1_ := am (blk_below (g := gb1119) (o := .cells #[.slice A0_0 l0_0.length c0_0, .slice (some ad1125) l0_1.length c0_1] 73 (0, 0)) (by (with_reducible repeat (first | refine kN ?_ _ | refine kD ?_ | refine kA ?_ _)); refine blk_far ?_ NB1119_1126.out _; (with_reducible repeat (first | refine kN ?_ _ | refine kD ?_ | refine kA ?_ _)); refine blk_far ?_ NB1119_1126.out _; (with_reducible repeat (first | refine kN ?_ _ | refine kD ?_ | refine kA ?_ _)); refine blk_far ?_ NB1119_1126.out _; (with_reducible repeat (first | refine kN ?_ _ | refine kD ?_ | refine kA ?_ _)); exact BK1119.out) hb); have n2_ := am (blk_below (g := gb1120) (o := .cells #[.string x1121000_1, .slice none 0 0, .string x1121002_1] 116 (0, 0)) (by (with_reducible repeat (first | refine kN ?_ _ | refine kD ?_ | refine kA ?_ _)); refine blk_far ?_ NB1120_1126.out _; (with_reducible repeat (first | refine kN ?_ _ | refine kD ?_ | refine kA ?_ _)); refine blk_far ?_ NB1120_1126.out _; (with_reducible repeat (first | refine kN ?_ _ | refine kD ?_ | refine kA ?_ _)); refine blk_far ?_ NB1120_1126.out _; (with_reducible repeat (first | refine kN ?_ _ | refine kD ?_ | refine kA ?_ _)); exact BK1120.out) hb); have n3_ := am (blk_below (g := gb1126) (o := .cells #[.string ((rd_T116 l0_1 x16_1).f0), .slice A1125_1 ((rd_T116 l0_1 x16_1).f1).length c1125_1, .string ((rd_T116 l0_1 x16_1).f2)] 116 (0, 0)) (by (with_reducible repeat (first | refine kN ?_ _ | refine kD ?_ | refine kA ?_ _)); refine blk_put (cs := #[.string ((rd_T116 l0_1 x16_1).f0), .slice A1125_1 ((rd_T116 l0_1 x16_1).f1).length c1125_1, .string (⟨#[]⟩ : ByteArray)]) ?_ 2 _ rfl; (with_reducible repeat (first | refine kN ?_ _ | refine kD ?_ | refine kA ?_ _)); refine blk_put (cs := #[.string ((rd_T116 l0_1 x16_1).f0), .slice none 0 0, .string (⟨#[]⟩ : ByteArray)]) ?_ 1 _ rfl; (with_reducible repeat (first | refine kN ?_ _ | refine kD ?_ | refine kA ?_ _)); refine blk_put (cs := #[.string (⟨#[]⟩ : ByteArray), .slice none 0 0, .string (⟨#[]⟩ : ByteArray)]) ?_ 0 _ rfl; (with_reducible repeat (first | refine kN ?_ _ | refine kD ?_ | refine kA ?_ _)); exact BK1126.out) hb); have n4_ := am (below_step (by repeat (first | (with_reducible first | exact HB.out | apply bA | apply bN | apply bD | refine below_set ?_ GE1119.out | refine below_set ?_ GE1120.out | refine below_set ?_ GE1126.out) | exact HB.out)) hb); clear BK1119; clear BK1120; clear BK1126; clear HB; have HO1130 := n0_; have BK1119 := n1_; have BK1120 := n2_; have BK1126 := n3_; have HB := n4_; clear n0_ n1_ n2_ n3_ n4_; have hnb26 := NB1120_1119.out; have hnc26 := NB1119_1120.out; have hcz27_0 : w25.cell? ⟨gb1120, 0, none⟩ = some (.string x1121000_1) := (blk_cell BK1120.out 0).trans rfl; have hcz27_1 : w25.cell? ⟨gb1120, 1, none⟩ = some (.slice none 0 0) := (blk_cell BK1120.out 1).trans rfl; have hcz27_2 : w25.cell? ⟨gb1120, 2, none⟩ = some (.string x1121002_1) := (blk_cell BK1120.out 2).trans rfl; have hfz27_0 := blk_frozen BK1120.out 0; have hfz27_1 := blk_frozen BK1120.out 1; have hfz27_2 := blk_frozen BK1120.out 2; obtain ⟨Ao28, co28, eo28⟩ := Kd.R_slice HO1130.out; subst eo28))
                refine bodyPost_ret (results_ct rfl _ _ gb1120 116 #[.string t1127, .slice Ao28 t1128.length co28, .string t1131] (0, 0) _ rfl (by (with_reducible repeat (first | refine kN ?_ _ | refine kD ?_ | refine kA ?_ _)); refine blk_put (cs := #[.string t1127, .slice Ao28 t1128.length co28, .string x1121002_1]) ?_ 2 _ rfl; (with_reducible repeat (first | refine kN ?_ _ | refine kD ?_ | refine kA ?_ _)); refine blk_put (cs := #[.string t1127, .slice none 0 0, .string x1121002_1]) ?_ 1 _ rfl; (with_reducible repeat (first | refine kN ?_ _ | refine kD ?_ | refine kA ?_ _)); refine blk_put (cs := #[.string x1121000_1, .slice none 0 0, .string x1121002_1]) ?_ 0 _ rfl; (with_reducible repeat (first | refine kN ?_ _ | refine kD ?_ | refine kA ?_ _)); exact BK1120.out) Try.underlying116 rfl (by kernel_rfl)) rfl ?_
                exact ⟨_, by first | rfl | (simp [errW_none, errW_some] <;> rfl) | (simp [*, errW_none, errW_some] <;> rfl), by (with_reducible repeat (first | apply rA | apply rN | apply rD)); exact Kd.R_mono (Kd.R_far (p := ⟨gb1120, 2, none⟩) (Kd.R_far (p := ⟨gb1120, 1, none⟩) (Kd.R_far (p := ⟨gb1120, 0, none⟩) (Kd.R_types HO1130.out BK1120.out (by decide)) (fun _ hk => hk.2) (.string t1127)) (fun _ hk => hk.2) (.slice Ao28 t1128.length co28)) (fun _ hk => hk.2) (.string t1131)) (fun _ hk => trivial), by repeat (first | (with_reducible first | exact HB.out | apply bA | apply bN | apply bD | refine below_set ?_ GE1119.out | refine below_set ?_ GE1120.out | refine below_set ?_ GE1126.out) | exact HB.out)⟩
              · rw [if_neg c19] at H
                have c19b0 : (((rd_T116 l0_1 x16_1).f0).toList == a1.toList) = false := beq_eq_false_iff_ne.mpr c19
                have c19b1 : (((rd_T116 l0_1 x16_1).f0).toList != a1.toList) = true := bne_iff_ne.mpr c19
                have H' := Aside0.mk H
                clear H
                have p1125 : 0 ≤ (x16_1 : Int) := of_decide_eq_true (by assumption)
                have q1125 : x16_1 < (l0_1.length : Int) := of_decide_eq_true (by assumption)
                obtain ⟨ad1125, A1125_1, c1125_1, e1125, hx1125_0, hx1125_1, hx1125_2, hl1125_1, hi1125_1⟩ := at_T116 HR0_1.out x16_1 p1125 q1125
                cases e1125
                replace hx1125_0 := (HB.out.cell (World.block_lt_of_cell? w _ hx1125_0)).trans hx1125_0
                replace hx1125_1 := (HB.out.cell (World.block_lt_of_cell? w _ hx1125_1)).trans hx1125_1
                replace hx1125_2 := (HB.out.cell (World.block_lt_of_cell? w _ hx1125_2)).trans hx1125_2
                have HR1125_1 := Aside0.mk hi1125_1
                have HC1125_1 := Aside0.mk hl1125_1
                clear hi1125_1 hl1125_1
                replace p1125 := eq_true p1125
                replace q1125 := eq_true q1125
                go_wp2_with (first | ((with_reducible refine gate_dst (N := 7) rfl ?_); refine box_event ?hg (N := 7) ?hd (cs := #[.string (⟨#[]⟩ : ByteArray), .slice none 0 0, .string (⟨#[]⟩ : ByteArray)]) (t := 116) ?hr ?_; (case hd => rfl); (case hg => rfl); (case hr => first | (go_simp; done) | (go_simp; rfl)); intro gb1126 hg w29 hbox hb; have n0_ := am (blk_below (g := gb1119) (o := .cells #[.slice A0_0 l0_0.length c0_0, .slice (some ad1125) l0_1.length c0_1] 73 (0, 0)) (by (with_reducible repeat (first | refine kN ?_ _ | refine kD ?_ | refine kA ?_ _)); exact BK1119.out) hb); have n1_ := am (blk_below (g := gb1120) (o := .cells #[.string x1121000_1, .slice none 0 0, .string x1121002_1] 116 (0, 0)) (by (with_reducible repeat (first | refine kN ?_ _ | refine kD ?_ | refine kA ?_ _)); exact BK1120.out) hb); have n2_ := am (below_step (by repeat (first | (with_reducible first | exact HB.out | apply bA | apply bN | apply bD | refine below_set ?_ GE1119.out | refine below_set ?_ GE1120.out) | exact HB.out)) hb); have n3_ := am (hbox); have n4_ := am ((by rw [hg]; exact (below_size (by repeat (first | (with_reducible first | exact HB.out | apply bA | apply bN | apply bD | refine below_set ?_ GE1119.out | refine below_set ?_ GE1120.out) | exact HB.out))) : w.heap.size ≤ gb1126)); have n5_ := am ((by rw [hg]; exact (below_size (by repeat (first | (with_reducible first | exact HB.out | apply bA | apply bN | apply bD | refine below_set ?_ GE1119.out | refine below_set ?_ GE1120.out) | exact HB.out))) : w.heap.size ≤ gb1126)); have n6_ := am ((by rw [hg]; exact Nat.ne_of_lt (blk_lt (g := gb1119) (o := .cells #[.slice A0_0 l0_0.length c0_0, .slice (some ad1125) l0_1.length c0_1] 73 (0, 0)) (by (with_reducible repeat (first | refine kN ?_ _ | refine kD ?_ | refine kA ?_ _)); exact BK1119.out)) : gb1119 ≠ gb1126)); have n7_ := am ((by rw [hg]; exact Nat.ne_of_gt (blk_lt (g := gb1119) (o := .cells #[.slice A0_0 l0_0.length c0_0, .slice (some ad1125) l0_1.length c0_1] 73 (0, 0)) (by (with_reducible repeat (first | refine kN ?_ _ | refine kD ?_ | refine kA ?_ _)); exact BK1119.out)) : gb1126 ≠ gb1119)); have n8_ := am ((by rw [hg]; exact Nat.ne_of_lt (blk_lt (g := gb1120) (o := .cells #[.string x1121000_1, .slice none 0 0, .string x1121002_1] 116 (0, 0)) (by (with_reducible repeat (first | refine kN ?_ _ | refine kD ?_ | refine kA ?_ _)); exact BK1120.out)) : gb1120 ≠ gb1126)); have n9_ := am ((by rw [hg]; exact Nat.ne_of_gt (blk_lt (g := gb1120) (o := .cells #[.string x1121000_1, .slice none 0 0, .string x1121002_1] 116 (0, 0)) (by (with_reducible repeat (first | refine kN ?_ _ | refine kD ?_ | refine kA ?_ _)); exact BK1120.out)) : gb1126 ≠ gb1120)); clear BK1119; clear BK1120; clear HB; have BK1119 := n0_; have BK1120 := n1_; have HB := n2_; have BK1126 := n3_; have GW1126 := n4_; have GE1126 := n5_; have NB1119_1126 := n6_; have NB1126_1119 := n7_; have NB1120_1126 := n8_; have NB1126_1120 := n9_; clear n0_ n1_ n2_ n3_ n4_ n5_ n6_ n7_ n8_ n9_; clear hb hbox hg; have hnb30 := NB1126_1119.out; have hnc30 := NB1119_1126.out; have hnb31 := NB1126_1120.out; have hnc31 := NB1120_1126.out; have hcz32_0 : w29.cell? ⟨gb1126, 0, none⟩ = some (.string (⟨#[]⟩ : ByteArray)) := (blk_cell BK1126.out 0).trans rfl; have hcz32_1 : w29.cell? ⟨gb1126, 1, none⟩ = some (.slice none 0 0) := (blk_cell BK1126.out 1).trans rfl; have hcz32_2 : w29.cell? ⟨gb1126, 2, none⟩ = some (.string (⟨#[]⟩ : ByteArray)) := (blk_cell BK1126.out 2).trans rfl; have hfz32_0 := blk_frozen BK1126.out 0; have hfz32_1 := blk_frozen BK1126.out 1; have hfz32_2 := blk_frozen BK1126.out 2))
                go_roundg k1
                case measure => have := HK1.out; omega
                case rel => exact ⟨(wrap64 (x16_1 + 1)), (x1121000_1), (x1121002_1), (by first | rfl | (simp; done) | (simp [*]; done)), H', ⟨by have := HK1.out; omega⟩, ⟨by (with_reducible repeat (first | refine kN ?_ _ | refine kD ?_ | refine kA ?_ _)); refine blk_far ?_ NB1119_1126.out _; (with_reducible repeat (first | refine kN ?_ _ | refine kD ?_ | refine kA ?_ _)); refine blk_far ?_ NB1119_1126.out _; (with_reducible repeat (first | refine kN ?_ _ | refine kD ?_ | refine kA ?_ _)); refine blk_far ?_ NB1119_1126.out _; (with_reducible repeat (first | refine kN ?_ _ | refine kD ?_ | refine kA ?_ _)); exact BK1119.out⟩, ⟨by (with_reducible repeat (first | refine kN ?_ _ | refine kD ?_ | refine kA ?_ _)); refine blk_far ?_ NB1120_1126.out _; (with_reducible repeat (first | refine kN ?_ _ | refine kD ?_ | refine kA ?_ _)); refine blk_far ?_ NB1120_1126.out _; (with_reducible repeat (first | refine kN ?_ _ | refine kD ?_ | refine kA ?_ _)); refine blk_far ?_ NB1120_1126.out _; (with_reducible repeat (first | refine kN ?_ _ | refine kD ?_ | refine kA ?_ _)); exact BK1120.out⟩, ⟨by repeat (first | (with_reducible first | exact HB.out | apply bA | apply bN | apply bD | refine below_set ?_ GE1119.out | refine below_set ?_ GE1120.out | refine below_set ?_ GE1126.out) | exact HB.out)⟩⟩
            · rw [if_neg c18] at H
              exact absurd H (by simp)
          · rw [if_neg c17] at H
            exact absurd H (by simp)
        · rw [if_neg c16] at H
          have c16b0 : decide (x16_1 < (l0_1.length : Int)) = false := decide_eq_false c16
          clear c16
          simp only [Option.some.injEq, Prod.mk.injEq] at H
          obtain ⟨rfl, rfl, rfl, rfl⟩ := H
          have hnb33 := NB1120_1119.out
          have hnc33 := NB1119_1120.out
          have hcz34_0 : wr.cell? ⟨gb1120, 0, none⟩ = some (.string x1121000_1) := (blk_cell BK1120.out 0).trans rfl
          have hcz34_1 : wr.cell? ⟨gb1120, 1, none⟩ = some (.slice none 0 0) := (blk_cell BK1120.out 1).trans rfl
          have hcz34_2 : wr.cell? ⟨gb1120, 2, none⟩ = some (.string x1121002_1) := (blk_cell BK1120.out 2).trans rfl
          have hfz34_0 := blk_frozen BK1120.out 0
          have hfz34_1 := blk_frozen BK1120.out 1
          have hfz34_2 := blk_frozen BK1120.out 2
          go_wp2
          refine bodyPost_ret (results_ct rfl _ _ gb1120 116 #[.string (⟨#[]⟩ : ByteArray), .slice none 0 0, .string (⟨#[]⟩ : ByteArray)] (0, 0) _ rfl (by (with_reducible repeat (first | refine kN ?_ _ | refine kD ?_ | refine kA ?_ _)); refine blk_put (cs := #[.string (⟨#[]⟩ : ByteArray), .slice none 0 0, .string x1121002_1]) ?_ 2 _ rfl; (with_reducible repeat (first | refine kN ?_ _ | refine kD ?_ | refine kA ?_ _)); refine blk_put (cs := #[.string (⟨#[]⟩ : ByteArray), .slice none 0 0, .string x1121002_1]) ?_ 1 _ rfl; (with_reducible repeat (first | refine kN ?_ _ | refine kD ?_ | refine kA ?_ _)); refine blk_put (cs := #[.string x1121000_1, .slice none 0 0, .string x1121002_1]) ?_ 0 _ rfl; (with_reducible repeat (first | refine kN ?_ _ | refine kD ?_ | refine kA ?_ _)); exact BK1120.out) Try.underlying116 rfl (by kernel_rfl)) rfl ?_
          exact ⟨_, by first | rfl | (simp [errW_none, errW_some] <;> rfl) | (simp [*, errW_none, errW_some] <;> rfl), by first | exact Kd.R_nil _ _ _ _ _ | exact Kd.N_nil _ _ _ _ _ | exact Kd.V_nil _ _ _ _ _ | exact Kd.Q_nil _ _ _ _ _ | exact Kd.S_nil _ _ _ _ _, by repeat (first | (with_reducible first | exact HB.out | apply bA | apply bN | apply bD | refine below_set ?_ GE1119.out | refine below_set ?_ GE1120.out) | exact HB.out)⟩

end Go.Proofs.Ytdgjddkibiffnaa.F
namespace Go.Proofs.Ytdgjddkibiffnaa.F
open Go.RowKit Go.Proofs.YtdgjddkibiffnaaW.PrintWords Go.Proofs.YtdgjddkibiffnaaW.PrintLast Go.Proofs.YtdgjddkibiffnaaW.PrintMore
attribute [local go_sem] binOp_string_gtr_ binOp_string_geq_ binOp_string_leq_ max2_int min2_int max_two min_two max_three min_three max_four min_four   -- for this text's walks alone
set_option linter.unusedVariables false
set_option linter.unusedSimpArgs false

/-! ### impl_SortOf: function 51 -/
mutual
def impl_SortOf.l0 : Nat → List (S120) → Int → Int → Int → Int → ByteArray → List (S29) → Option (ByteArray)
  | 0, _, _, _, _, _, _, _ => none
  | k + 1, x20, x21, x22, x1134000, x1134001, x1134002, x1134003 => if x22 < x21 then (if 0 ≤ x22 then (if x22 < (x20.length : Int) then (if ((rd_T120 x20 x22).f0).toList = x1134002.toList then (some ((rd_T120 x20 x22).f1)) else (impl_SortOf.l0 k x20 x21 (wrap64 (x22 + 1)) x1134000 x1134001 x1134002 x1134003)) else (none)) else (none)) else (some (⟨#[]⟩ : ByteArray))
def impl_SortOf.j1 : Nat → List (S120) → Bool → List ByteArray → List (S116) → Int → Int → ByteArray → List (S29) → ByteArray → List ByteArray → ByteArray → Option (ByteArray)
  | 0, _, _, _, _, _, _, _, _, _, _, _ => none
  | k + 1, x2, x53, x1133000, x1133001, x1134000, x1134001, x1134002, x1134003, x1143000, x1143001, x1143002 => if x53 = true then (some (⟨#[]⟩ : ByteArray)) else (impl_SortOf.l1 k x2 x1134003 (x1134003.length : Int) 0 x1133000 x1133001 x1143000 x1143001 x1143002)
def impl_SortOf.l1 : Nat → List (S120) → List (S29) → Int → Int → List ByteArray → List (S116) → ByteArray → List ByteArray → ByteArray → Option (ByteArray)
  | 0, _, _, _, _, _, _, _, _, _ => none
  | k + 1, x2, x55, x56, x57, x1133000, x1133001, x1143000, x1143001, x1143002 => if x57 < x56 then (if 0 ≤ x57 then (if x57 < (x55.length : Int) then ((impl_SortOf.f k x1133000 x1133001 ((rd_T29 x55 x57).f0) ((rd_T29 x55 x57).f1) ((rd_T29 x55 x57).f2) ((rd_T29 x55 x57).f3) x2).bind fun t1145 => (if t1145.toList = ([] : List UInt8) then (some (⟨#[]⟩ : ByteArray)) else (if x57 < (x1143001.length : Int) then (if t1145.toList = (rdOf ByteArray.empty x1143001 x57).toList then (impl_SortOf.l1 k x2 x55 x56 (wrap64 (x57 + 1)) x1133000 x1133001 x1143000 x1143001 x1143002) else (some (⟨#[]⟩ : ByteArray))) else (none)))) else (none)) else (none)) else (some x1143002)
def impl_SortOf.f : Nat → List ByteArray → List (S116) → Int → Int → ByteArray → List (S29) → List (S120) → Option (ByteArray)
  | 0, _, _, _, _, _, _, _ => none
  | k + 1, l0_0, l0_1, a1_0, a1_1, a1_2, l1_3, l2 => if a1_0 = 3 then (some (⟨#[119, 111, 114, 100]⟩ : ByteArray)) else (if a1_0 = 1 then (impl_SortOf.l0 k l2 (l2.length : Int) 0 a1_0 a1_1 a1_2 l1_3) else (if a1_0 = 2 then ((impl_FindOp.f k l0_0 l0_1 a1_2).bind fun bt1136 => (if bt1136.2.2.2 = true then (impl_SortOf.j1 k l2 ((bt1136.2.1.length : Int) != (l1_3.length : Int)) l0_0 l0_1 a1_0 a1_1 a1_2 l1_3 bt1136.1 bt1136.2.1 bt1136.2.2.1) else (impl_SortOf.j1 k l2 true l0_0 l0_1 a1_0 a1_1 a1_2 l1_3 bt1136.1 bt1136.2.1 bt1136.2.2.1))) else (some (⟨#[]⟩ : ByteArray))))
end
set_option maxHeartbeats 8000000 in
set_option maxRecDepth 100000 in
theorem impl_SortOf.calls (k : Nat) : ∀ (A0_0 : Option Addr) (c0_0 : Nat) (l0_0 : List ByteArray) (A0_1 : Option Addr) (c0_1 : Nat) (l0_1 : List (S116)) (a1_0 : Int) (a1_1 : Int) (a1_2 : ByteArray) (A1_3 : Option Addr) (c1_3 : Nat) (l1_3 : List (S29)) (A2 : Option Addr) (c2 : Nat) (l2 : List (S120)) (r : ByteArray) (w : World) (hr0_0 : Kd.C Kd.string w A0_0 l0_0.length l0_0) (hc0_0 : l0_0.length ≤ c0_0) (hr0_1 : Kd.C k116 w A0_1 l0_1.length l0_1) (hc0_1 : l0_1.length ≤ c0_1) (hr1_3 : Kd.C k29 w A1_3 l1_3.length l1_3) (hc1_3 : l1_3.length ≤ c1_3) (hr2 : Kd.C k120 w A2 l2.length l2) (hc2 : l2.length ≤ c2) (h : impl_SortOf.f k l0_0 l0_1 a1_0 a1_1 a1_2 l1_3 l2 = some r),
    Calls Try.prog 51 #[.agg #[.slice A0_0 l0_0.length c0_0, .slice A0_1 l0_1.length c0_1], .agg #[.int .i64 a1_0, .int .i64 a1_1, .string a1_2, .slice A1_3 l1_3.length c1_3], .slice A2 l2.length c2] w fun e w' => e = .returned (.string r) ∧ Below w.heap.size w w' := by
  induction k using Nat.strongRecOn with
  | _ k ih =>
  intro A0_0 c0_0 l0_0 A0_1 c0_1 l0_1 a1_0 a1_1 a1_2 A1_3 c1_3 l1_3 A2 c2 l2 r w hr0_0 hc0_0 hr0_1 hc0_1 hr1_3 hc1_3 hr2 hc2 h
  cases k with
  | zero => exact absurd h (by simp [impl_SortOf.f])
  | succ k =>
  simp only [impl_SortOf.f] at h
  have hu73 := Try.underlying73
  have hu29 := Try.underlying29
  have hu120 := Try.underlying120
  have hu116 := Try.underlying116
  have HR0_0 := Aside0.mk hr0_0
  have HC0_0 := Aside0.mk hc0_0
  clear hr0_0 hc0_0
  have HR0_1 := Aside0.mk hr0_1
  have HC0_1 := Aside0.mk hc0_1
  clear hr0_1 hc0_1
  have HR1_3 := Aside0.mk hr1_3
  have HC1_3 := Aside0.mk hc1_3
  clear hr1_3 hc1_3
  have HR2 := Aside0.mk hr2
  have HC2 := Aside0.mk hc2
  clear hr2 hc2
  have HB := am (Below.refl w.heap.size w)
  have H : (if a1_0 = 3 then (some (⟨#[119, 111, 114, 100]⟩ : ByteArray)) else (if a1_0 = 1 then (impl_SortOf.l0 k l2 (l2.length : Int) 0 a1_0 a1_1 a1_2 l1_3) else (if a1_0 = 2 then ((impl_FindOp.f k l0_0 l0_1 a1_2).bind fun bt1136 => (if bt1136.2.2.2 = true then (impl_SortOf.j1 k l2 ((bt1136.2.1.length : Int) != (l1_3.length : Int)) l0_0 l0_1 a1_0 a1_1 a1_2 l1_3 bt1136.1 bt1136.2.1 bt1136.2.2.1) else (impl_SortOf.j1 k l2 true l0_0 l0_1 a1_0 a1_1 a1_2 l1_3 bt1136.1 bt1136.2.1 bt1136.2.2.1))) else (some (⟨#[]⟩ : ByteArray))))) = some r := h
  clear h
  by_cases c4 : a1_0 = 3
  · rw [if_pos c4] at H
    have c4b0 : (a1_0 == 3) = true := beq_iff_eq.mpr c4
    have c4b1 : (a1_0 != 3) = false := bne_eq_false_iff_eq.mpr c4
    clear c4
    obtain rfl := Option.some.inj H
    go_enter Try.func51, Try.ntmps51
    go_wp2_with (first | ((with_reducible refine gate_dst (N := 3) rfl ?_); (try (refine gate_guard (by rfl) ?_; dsimp only)); refine box_event ?hg (N := 3) ?hd (cs := #[.slice A0_0 l0_0.length c0_0, .slice A0_1 l0_1.length c0_1]) (t := 73) ?hr ?_; (case hd => rfl); (case hg => rfl); (case hr => first | (go_simp; done) | (go_simp; rfl)); intro gb1132 hg w5 hbox hb; have n0_ := am (below_step (by repeat (first | (with_reducible first | exact HB.out | apply bA | apply bN | apply bD) | exact HB.out)) hb); have n1_ := am (hbox); have n2_ := am ((by rw [hg]; exact (below_size (by repeat (first | (with_reducible first | exact HB.out | apply bA | apply bN | apply bD) | exact HB.out))) : w.heap.size ≤ gb1132)); have n3_ := am ((by rw [hg]; exact (below_size (by repeat (first | (with_reducible first | exact HB.out | apply bA | apply bN | apply bD) | exact HB.out))) : w.heap.size ≤ gb1132)); clear HB; have HB := n0_; have BK1132 := n1_; have GW1132 := n2_; have GE1132 := n3_; clear n0_ n1_ n2_ n3_; clear hb hbox hg) | ((with_reducible refine gate_dst (N := 4) rfl ?_); (try (refine gate_guard (by rfl) ?_; dsimp only)); refine box_event ?hg (N := 4) ?hd (cs := #[.int .i64 a1_0, .int .i64 a1_1, .string a1_2, .slice A1_3 l1_3.length c1_3]) (t := 29) ?hr ?_; (case hd => rfl); (case hg => rfl); (case hr => first | (go_simp; done) | (go_simp; rfl)); intro gb1133 hg w6 hbox hb; have n0_ := am (blk_below (g := gb1132) (o := .cells #[.slice A0_0 l0_0.length c0_0, .slice A0_1 l0_1.length c0_1] 73 (0, 0)) (by (with_reducible repeat (first | refine kN ?_ _ | refine kD ?_ | refine kA ?_ _)); exact BK1132.out) hb); have n1_ := am (below_step (by repeat (first | (with_reducible first | exact HB.out | apply bA | apply bN | apply bD | refine below_set ?_ GE1132.out) | exact HB.out)) hb); have n2_ := am (hbox); have n3_ := am ((by rw [hg]; exact (below_size (by repeat (first | (with_reducible first | exact HB.out | apply bA | apply bN | apply bD | refine below_set ?_ GE1132.out) | exact HB.out))) : w.heap.size ≤ gb1133)); have n4_ := am ((by rw [hg]; exact (below_size (by repeat (first | (with_reducible first | exact HB.out | apply bA | apply bN | apply bD | refine below_set ?_ GE1132.out) | exact HB.out))) : w.heap.size ≤ gb1133)); have n5_ := am ((by rw [hg]; exact Nat.ne_of_lt (blk_lt (g := gb1132) (o := .cells #[.slice A0_0 l0_0.length c0_0, .slice A0_1 l0_1.length c0_1] 73 (0, 0)) (by (with_reducible repeat (first | refine kN ?_ _ | refine kD ?_ | refine kA ?_ _)); exact BK1132.out)) : gb1132 ≠ gb1133)); have n6_ := am ((by rw [hg]; exact Nat.ne_of_gt (blk_lt (g := gb1132) (o := .cells #[.slice A0_0 l0_0.length c0_0, .slice A0_1 l0_1.length c0_1] 73 (0, 0)) (by (with_reducible repeat (first | refine kN ?_ _ | refine kD ?_ | refine kA ?_ _)); exact BK1132.out)) : gb1133 ≠ gb1132)); clear BK1132; clear HB; have BK1132 := n0_; have HB := n1_; have BK1133 := n2_; have GW1133 := n3_; have GE1133 := n4_; have NB1132_1133 := n5_; have NB1133_1132 := n6_; clear n0_ n1_ n2_ n3_ n4_ n5_ n6_; clear hb hbox hg; have hnb7 := NB1133_1132.out; have hnc7 := NB1132_1133.out; have hcz8_0 : w6.cell? ⟨gb1133, 0, none⟩ = some (.int .i64 a1_0) := (blk_cell BK1133.out 0).trans rfl; have hcz8_1 : w6.cell? ⟨gb1133, 1, none⟩ = some (.int .i64 a1_1) := (blk_cell BK1133.out 1).trans rfl; have hcz8_2 : w6.cell? ⟨gb1133, 2, none⟩ = some (.string a1_2) := (blk_cell BK1133.out 2).trans rfl; have hcz8_3 : w6.cell? ⟨gb1133, 3, none⟩ = some (.slice A1_3 l1_3.length c1_3) := (blk_cell BK1133.out 3).trans rfl; have hfz8_0 := blk_frozen BK1133.out 0; have hfz8_1 := blk_frozen BK1133.out 1; have hfz8_2 := blk_frozen BK1133.out 2; have hfz8_3 := blk_frozen BK1133.out 3))
    go_ret
    exact ⟨by first | rfl | (simp [errW_none, errW_some] <;> rfl) | (simp [*, errW_none, errW_some] <;> rfl), by repeat (first | (with_reducible first | exact HB.out | apply bA | apply bN | apply bD | refine below_set ?_ GE1132.out | refine below_set ?_ GE1133.out) | exact HB.out)⟩
  · rw [if_neg c4] at H
    have c4b0 : (a1_0 == 3) = false := beq_eq_false_iff_ne.mpr c4
    have c4b1 : (a1_0 != 3) = true := bne_iff_ne.mpr c4
    by_cases c9 : a1_0 = 1
    · rw [if_pos c9] at H
      have c9b0 : (a1_0 == 1) = true := beq_iff_eq.mpr c9
      have c9b1 : (a1_0 != 1) = false := bne_eq_false_iff_eq.mpr c9
      clear c9
      have H' := Aside0.mk H
      clear H
      go_enter Try.func51, Try.ntmps51
      go_wp2_with (first | ((with_reducible refine gate_dst (N := 3) rfl ?_); (try (refine gate_guard (by rfl) ?_; dsimp only)); refine box_event ?hg (N := 3) ?hd (cs := #[.slice A0_0 l0_0.length c0_0, .slice A0_1 l0_1.length c0_1]) (t := 73) ?hr ?_; (case hd => rfl); (case hg => rfl); (case hr => first | (go_simp; done) | (go_simp; rfl)); intro gb1132 hg w10 hbox hb; have n0_ := am (below_step (by repeat (first | (with_reducible first | exact HB.out | apply bA | apply bN | apply bD) | exact HB.out)) hb); have n1_ := am (hbox); have n2_ := am ((by rw [hg]; exact (below_size (by repeat (first | (with_reducible first | exact HB.out | apply bA | apply bN | apply bD) | exact HB.out))) : w.heap.size ≤ gb1132)); have n3_ := am ((by rw [hg]; exact (below_size (by repeat (first | (with_reducible first | exact HB.out | apply bA | apply bN | apply bD) | exact HB.out))) : w.heap.size ≤ gb1132)); clear HB; have HB := n0_; have BK1132 := n1_; have GW1132 := n2_; have GE1132 := n3_; clear n0_ n1_ n2_ n3_; clear hb hbox hg) | ((with_reducible refine gate_dst (N := 4) rfl ?_); (try (refine gate_guard (by rfl) ?_; dsimp only)); refine box_event ?hg (N := 4) ?hd (cs := #[.int .i64 a1_0, .int .i64 a1_1, .string a1_2, .slice A1_3 l1_3.length c1_3]) (t := 29) ?hr ?_; (case hd => rfl); (case hg => rfl); (case hr => first | (go_simp; done) | (go_simp; rfl)); intro gb1133 hg w11 hbox hb; have n0_ := am (blk_below (g := gb1132) (o := .cells #[.slice A0_0 l0_0.length c0_0, .slice A0_1 l0_1.length c0_1] 73 (0, 0)) (by (with_reducible repeat (first | refine kN ?_ _ | refine kD ?_ | refine kA ?_ _)); exact BK1132.out) hb); have n1_ := am (below_step (by repeat (first | (with_reducible first | exact HB.out | apply bA | apply bN | apply bD | refine below_set ?_ GE1132.out) | exact HB.out)) hb); have n2_ := am (hbox); have n3_ := am ((by rw [hg]; exact (below_size (by repeat (first | (with_reducible first | exact HB.out | apply bA | apply bN | apply bD | refine below_set ?_ GE1132.out) | exact HB.out))) : w.heap.size ≤ gb1133)); have n4_ := am ((by rw [hg]; exact (below_size (by repeat (first | (with_reducible first | exact HB.out | apply bA | apply bN | apply bD | refine below_set ?_ GE1132.out) | exact HB.out))) : w.heap.size ≤ gb1133)); have n5_ := am ((by rw [hg]; exact Nat.ne_of_lt (blk_lt (g := gb1132) (o := .cells #[.slice A0_0 l0_0.length c0_0, .slice A0_1 l0_1.length c0_1] 73 (0, 0)) (by (with_reducible repeat (first | refine kN ?_ _ | refine kD ?_ | refine kA ?_ _)); exact BK1132.out)) : gb1132 ≠ gb1133)); have n6_ := am ((by rw [hg]; exact Nat.ne_of_gt (blk_lt (g := gb1132) (o := .cells #[.slice A0_0 l0_0.length c0_0, .slice A0_1 l0_1.length c0_1] 73 (0, 0)) (by (with_reducible repeat (first | refine kN ?_ _ | refine kD ?_ | refine kA ?_ _)); exact BK1132.out)) : gb1133 ≠ gb1132)); clear BK1132; clear HB; have BK1132 := n0_; have HB := n1_; have BK1133 := n2_; have GW1133 := n3_; have GE1133 := n4_; have NB1132_1133 := n5_; have NB1133_1132 := n6_; clear n0_ n1_ n2_ n3_ n4_ n5_ n6_; clear hb hbox hg; have hnb12 := NB1133_1132.out; have hnc12 := NB1132_1133.out; have hcz13_0 : w11.cell? ⟨gb1133, 0, none⟩ = some (.int .i64 a1_0) := (blk_cell BK1133.out 0).trans rfl; have hcz13_1 : w11.cell? ⟨gb1133, 1, none⟩ = some (.int .i64 a1_1) := (blk_cell BK1133.out 1).trans rfl; have hcz13_2 : w11.cell? ⟨gb1133, 2, none⟩ = some (.string a1_2) := (blk_cell BK1133.out 2).trans rfl; have hcz13_3 : w11.cell? ⟨gb1133, 3, none⟩ = some (.slice A1_3 l1_3.length c1_3) := (blk_cell BK1133.out 3).trans rfl; have hfz13_0 := blk_frozen BK1133.out 0; have hfz13_1 := blk_frozen BK1133.out 1; have hfz13_2 := blk_frozen BK1133.out 2; have hfz13_3 := blk_frozen BK1133.out 3))
      go_loopg [22] k (fun kq v22 w' => ∃ (x22_1 : Int), v22 = .int .i64 x22_1 ∧ Aside0 (impl_SortOf.l0 kq l2 (l2.length : Int) x22_1 a1_0 a1_1 a1_2 l1_3 = some r) ∧ Aside0 (kq ≤ k) ∧ Aside0 (w'.heap[gb1132]? = some (.cells #[(.slice A0_0 l0_0.length c0_0), (.slice A0_1 l0_1.length c0_1)] 73 (0, 0))) ∧ Aside0 (w'.heap[gb1133]? = some (.cells #[.int .i64 a1_0, .int .i64 a1_1, .string a1_2, (.slice A1_3 l1_3.length c1_3)] 29 (0, 0))) ∧ Aside0 (Below w.heap.size w w'))
      case atStart => exact ⟨(0), (by first | rfl | (simp; done) | (simp [*]; done)), H', ⟨Nat.le_refl _⟩, ⟨by (with_reducible repeat (first | refine kN ?_ _ | refine kD ?_ | refine kA ?_ _)); exact BK1132.out⟩, ⟨by (with_reducible repeat (first | refine kN ?_ _ | refine kD ?_ | refine kA ?_ _)); exact BK1133.out⟩, ⟨by repeat (first | (with_reducible first | exact HB.out | apply bA | apply bN | apply bD | refine below_set ?_ GE1132.out | refine below_set ?_ GE1133.out) | exact HB.out)⟩⟩
      case round =>
        clear H'
        obtain ⟨x22_1, rfl, HA, HK1, BK1132, BK1133, HB⟩ := hrel
        cases gk with
        | zero => exact absurd HA.out (by simp [impl_SortOf.l0])
        | succ k1 =>
          have H := HA.out
          clear HA
          simp only [impl_SortOf.l0] at H
          by_cases c14 : x22_1 < (l2.length : Int)
          · rw [if_pos c14] at H
            have c14b0 : decide (x22_1 < (l2.length : Int)) = true := decide_eq_true c14
            clear c14
            by_cases c15 : 0 ≤ x22_1
            · rw [if_pos c15] at H
              have c15b0 : decide (0 ≤ x22_1) = true := decide_eq_true c15
              clear c15
              by_cases c16 : x22_1 < (l2.length : Int)
              · rw [if_pos c16] at H
                have c16b0 : decide (x22_1 < (l2.length : Int)) = true := decide_eq_true c16
                clear c16
                by_cases c17 : ((rd_T120 l2 x22_1).f0).toList = a1_2.toList
                · rw [if_pos c17] at H
                  have c17b0 : (((rd_T120 l2 x22_1).f0).toList == a1_2.toList) = true := beq_iff_eq.mpr c17
                  have c17b1 : (((rd_T120 l2 x22_1).f0).toList != a1_2.toList) = false := bne_eq_false_iff_eq.mpr c17
                  clear c17
                  obtain rfl := Option.some.inj H
                  have p1134 : 0 ≤ (x22_1 : Int) := of_decide_eq_true (by assumption)
                  have q1134 : x22_1 < (l2.length : Int) := of_decide_eq_true (by assumption)
                  obtain ⟨ad1134, e1134, hx1134_0, hx1134_1⟩ := at_T120 HR2.out x22_1 p1134 q1134
                  cases e1134
                  replace hx1134_0 := (HB.out.cell (World.block_lt_of_cell? w _ hx1134_0)).trans hx1134_0
                  replace hx1134_1 := (HB.out.cell (World.block_lt_of_cell? w _ hx1134_1)).trans hx1134_1
                  replace p1134 := eq_true p1134
                  replace q1134 := eq_true q1134
                  go_wp2_with (first | ((with_reducible refine gate_dst (N := 8) rfl ?_); (try (refine gate_guard (by rfl) ?_; dsimp only)); refine box_event ?hg (N := 8) ?hd (cs := #[.string (⟨#[]⟩ : ByteArray), .string (⟨#[]⟩ : ByteArray)]) (t := 120) ?hr ?_; (case hd => rfl); (case hg => rfl); (case hr => first | (go_simp; done) | (go_simp; rfl)); intro gb1135 hg w18 hbox hb; have n0_ := am (blk_below (g := gb1132) (o := .cells #[.slice A0_0 l0_0.length c0_0, .slice A0_1 l0_1.length c0_1] 73 (0, 0)) (by (with_reducible repeat (first | refine kN ?_ _ | refine kD ?_ | refine kA ?_ _)); exact BK1132.out) hb); have n1_ := am (blk_below (g := gb1133) (o := .cells #[.int .i64 a1_0, .int .i64 a1_1, .string a1_2, .slice A1_3 l1_3.length c1_3] 29 (0, 0)) (by (with_reducible repeat (first | refine kN ?_ _ | refine kD ?_ | refine kA ?_ _)); exact BK1133.out) hb); have n2_ := am (below_step (by repeat (first | (with_reducible first | exact HB.out | apply bA | apply bN | apply bD | refine below_set ?_ GE1132.out | refine below_set ?_ GE1133.out) | exact HB.out)) hb); have n3_ := am (hbox); have n4_ := am ((by rw [hg]; exact (below_size (by repeat (first | (with_reducible first | exact HB.out | apply bA | apply bN | apply bD | refine below_set ?_ GE1132.out | refine below_set ?_ GE1133.out) | exact HB.out))) : w.heap.size ≤ gb1135)); have n5_ := am ((by rw [hg]; exact (below_size (by repeat (first | (with_reducible first | exact HB.out | apply bA | apply bN | apply bD | refine below_set ?_ GE1132.out | refine below_set ?_ GE1133.out) | exact HB.out))) : w.heap.size ≤ gb1135)); have n6_ := am ((by rw [hg]; exact Nat.ne_of_lt (blk_lt (g := gb1132) (o := .cells #[.slice A0_0 l0_0.length c0_0, .slice A0_1 l0_1.length c0_1] 73 (0, 0)) (by (with_reducible repeat (first | refine kN ?_ _ | refine kD ?_ | refine kA ?_ _)); exact BK1132.out)) : gb1132 ≠ gb1135)); have n7_ := am ((by rw [hg]; exact Nat.ne_of_gt (blk_lt (g := gb1132) (o := .cells #[.slice A0_0 l0_0.length c0_0, .slice A0_1 l0_1.length c0_1] 73 (0, 0)) (by (with_reducible repeat (first | refine kN ?_ _ | refine kD ?_ | refine kA ?_ _)); exact BK1132.out)) : gb1135 ≠ gb1132)); have n8_ := am ((by rw [hg]; exact Nat.ne_of_lt (blk_lt (g := gb1133) (o := .cells #[.int .i64 a1_0, .int .i64 a1_1, .string a1_2, .slice A1_3 l1_3.length c1_3] 29 (0, 0)) (by (with_reducible repeat (first | refine kN ?_ _ | refine kD ?_ | refine kA ?_ _)); exact BK1133.out)) : gb1133 ≠ gb1135)); have n9_ := am ((by rw [hg]; exact Nat.ne_of_gt (blk_lt (g := gb1133) (o := .cells #[.int .i64 a1_0, .int .i64 a1_1, .string a1_2, .slice A1_3 l1_3.length c1_3] 29 (0, 0)) (by (with_reducible repeat (first | refine kN ?_ _ | refine kD ?_ | refine kA ?_ _)); exact BK1133.out)) : gb1135 ≠ gb1133)); clear BK1132; clear BK1133; clear HB; have BK1132 := n0_; have BK1133 := n1_; have HB := n2_; have BK1135 := n3_; have GW1135 := n4_; have GE1135 := n5_; have NB1132_1135 := n6_; have NB1135_1132 := n7_; have NB1133_1135 := n8_; have NB1135_1133 := n9_; clear n0_ n1_ n2_ n3_ n4_ n5_ n6_ n7_ n8_ n9_; clear hb hbox hg; have hnb19 := NB1135_1132.out; have hnc19 := NB1132_1135.out; have hnb20 := NB1135_1133.out; have hnc20 := NB1133_1135.out; have hcz21_0 : w18.cell? ⟨gb1135, 0, none⟩ = some (.string (⟨#[]⟩ : ByteArray)) := (blk_cell BK1135.out 0).trans rfl; have hcz21_1 : w18.cell? ⟨gb1135, 1, none⟩ = some (.string (⟨#[]⟩ : ByteArray)) := (blk_cell BK1135.out 1).trans rfl; have hfz21_0 := blk_frozen BK1135.out 0; have hfz21_1 := blk_frozen BK1135.out 1; have hnb22 := NB1133_1132.out; have hnc22 := NB1132_1133.out; have hcz23_0 : w18.cell? ⟨gb1133, 0, none⟩ = some (.int .i64 a1_0) := (blk_cell BK1133.out 0).trans rfl; have hcz23_1 : w18.cell? ⟨gb1133, 1, none⟩ = some (.int .i64 a1_1) := (blk_cell BK1133.out 1).trans rfl; have hcz23_2 : w18.cell? ⟨gb1133, 2, none⟩ = some (.string a1_2) := (blk_cell BK1133.out 2).trans rfl; have hcz23_3 : w18.cell? ⟨gb1133, 3, none⟩ = some (.slice A1_3 l1_3.length c1_3) := (blk_cell BK1133.out 3).trans rfl; have hfz23_0 := blk_frozen BK1133.out 0; have hfz23_1 := blk_frozen BK1133.out 1; have hfz23_2 := blk_frozen BK1133.out 2; have hfz23_3 := blk_frozen BK1133.out 3))
                  go_ret
                  exact ⟨by first | rfl | (simp [errW_none, errW_some] <;> rfl) | (simp [*, errW_none, errW_some] <;> rfl), by repeat (first | (with_reducible first | exact HB.out | apply bA | apply bN | apply bD | refine below_set ?_ GE1132.out | refine below_set ?_ GE1133.out | refine below_set ?_ GE1135.out) | exact HB.out)⟩
                · rw [if_neg c17] at H
                  have c17b0 : (((rd_T120 l2 x22_1).f0).toList == a1_2.toList) = false := beq_eq_false_iff_ne.mpr c17
                  have c17b1 : (((rd_T120 l2 x22_1).f0).toList != a1_2.toList) = true := bne_iff_ne.mpr c17
                  have H' := Aside0.mk H
                  clear H
                  have p1134 : 0 ≤ (x22_1 : Int) := of_decide_eq_true (by assumption)
                  have q1134 : x22_1 < (l2.length : Int) := of_decide_eq_true (by assumption)
                  obtain ⟨ad1134, e1134, hx1134_0, hx1134_1⟩ := at_T120 HR2.out x22_1 p1134 q1134
                  cases e1134
                  replace hx1134_0 := (HB.out.cell (World.block_lt_of_cell? w _ hx1134_0)).trans hx1134_0
                  replace hx1134_1 := (HB.out.cell (World.block_lt_of_cell? w _ hx1134_1)).trans hx1134_1
                  replace p1134 := eq_true p1134
                  replace q1134 := eq_true q1134
                  go_wp2_with (first | ((with_reducible refine gate_dst (N := 8) rfl ?_); (try (refine gate_guard (by rfl) ?_; dsimp only)); refine box_event ?hg (N := 8) ?hd (cs := #[.string (⟨#[]⟩ : ByteArray), .string (⟨#[]⟩ : ByteArray)]) (t := 120) ?hr ?_; (case hd => rfl); (case hg => rfl); (case hr => first | (go_simp; done) | (go_simp; rfl)); intro gb1135 hg w24 hbox hb; have n0_ := am (blk_below (g := gb1132) (o := .cells #[.slice A0_0 l0_0.length c0_0, .slice A0_1 l0_1.length c0_1] 73 (0, 0)) (by (with_reducible repeat (first | refine kN ?_ _ | refine kD ?_ | refine kA ?_ _)); exact BK1132.out) hb); have n1_ := am (blk_below (g := gb1133) (o := .cells #[.int .i64 a1_0, .int .i64 a1_1, .string a1_2, .slice A1_3 l1_3.length c1_3] 29 (0, 0)) (by (with_reducible repeat (first | refine kN ?_ _ | refine kD ?_ | refine kA ?_ _)); exact BK1133.out) hb); have n2_ := am (below_step (by repeat (first | (with_reducible first | exact HB.out | apply bA | apply bN | apply bD | refine below_set ?_ GE1132.out | refine below_set ?_ GE1133.out) | exact HB.out)) hb); have n3_ := am (hbox); have n4_ := am ((by rw [hg]; exact (below_size (by repeat (first | (with_reducible first | exact HB.out | apply bA | apply bN | apply bD | refine below_set ?_ GE1132.out | refine below_set ?_ GE1133.out) | exact HB.out))) : w.heap.size ≤ gb1135)); have n5_ := am ((by rw [hg]; exact (below_size (by repeat (first | (with_reducible first | exact HB.out | apply bA | apply bN | apply bD | refine below_set ?_ GE1132.out | refine below_set ?_ GE1133.out) | exact HB.out))) : w.heap.size ≤ gb1135)); have n6_ := am ((by rw [hg]; exact Nat.ne_of_lt (blk_lt (g := gb1132) (o := .cells #[.slice A0_0 l0_0.length c0_0, .slice A0_1 l0_1.length c0_1] 73 (0, 0)) (by (with_reducible repeat (first | refine kN ?_ _ | refine kD ?_ | refine kA ?_ _)); exact BK1132.out)) : gb1132 ≠ gb1135)); have n7_ := am ((by rw [hg]; exact Nat.ne_of_gt (blk_lt (g := gb1132) (o := .cells #[.slice A0_0 l0_0.length c0_0, .slice A0_1 l0_1.length c0_1] 73 (0, 0)) (by (with_reducible repeat (first | refine kN ?_ _ | refine kD ?_ | refine kA ?_ _)); exact BK1132.out)) : gb1135 ≠ gb1132)); have n8_ := am ((by rw [hg]; exact Nat.ne_of_lt (blk_lt (g := gb1133) (o := .cells #[.int .i64 a1_0, .int .i64 a1_1, .string a1_2, .slice A1_3 l1_3.length c1_3] 29 (0, 0)) (by (with_reducible repeat (first | refine kN ?_ _ | refine kD ?_ | refine kA ?_ _)); exact BK1133.out)) : gb1133 ≠ gb1135)); have n9_ := am ((by rw [hg]; exact Nat.ne_of_gt (blk_lt (g := gb1133) (o := .cells #[.int .i64 a1_0, .int .i64 a1_1, .string a1_2, .slice A1_3 l1_3.length c1_3] 29 (0, 0)) (by (with_reducible repeat (first | refine kN ?_ _ | refine kD ?_ | refine kA ?_ _)); exact BK1133.out)) : gb1135 ≠ gb1133)); clear BK1132; clear BK1133; clear HB; have BK1132 := n0_; have BK1133 := n1_; have HB := n2_; have BK1135 := n3_; have GW1135 := n4_; have GE1135 := n5_; have NB1132_1135 := n6_; have NB1135_1132 := n7_; have NB1133_1135 := n8_; have NB1135_1133 := n9_; clear n0_ n1_ n2_ n3_ n4_ n5_ n6_ n7_ n8_ n9_; clear hb hbox hg; have hnb25 := NB1135_1132.out; have hnc25 := NB1132_1135.out; have hnb26 := NB1135_1133.out; have hnc26 := NB1133_1135.out; have hcz27_0 : w24.cell? ⟨gb1135, 0, none⟩ = some (.string (⟨#[]⟩ : ByteArray)) := (blk_cell BK1135.out 0).trans rfl; have hcz27_1 : w24.cell? ⟨gb1135, 1, none⟩ = some (.string (⟨#[]⟩ : ByteArray)) := (blk_cell BK1135.out 1).trans rfl; have hfz27_0 := blk_frozen BK1135.out 0; have hfz27_1 := blk_frozen BK1135.out 1; have hnb28 := NB1133_1132.out; have hnc28 := NB1132_1133.out; have hcz29_0 : w24.cell? ⟨gb1133, 0, none⟩ = some (.int .i64 a1_0) := (blk_cell BK1133.out 0).trans rfl; have hcz29_1 : w24.cell? ⟨gb1133, 1, none⟩ = some (.int .i64 a1_1) := (blk_cell BK1133.out 1).trans rfl; have hcz29_2 : w24.cell? ⟨gb1133, 2, none⟩ = some (.string a1_2) := (blk_cell BK1133.out 2).trans rfl; have hcz29_3 : w24.cell? ⟨gb1133, 3, none⟩ = some (.slice A1_3 l1_3.length c1_3) := (blk_cell BK1133.out 3).trans rfl; have hfz29_0 := blk_frozen BK1133.out 0; have hfz29_1 := blk_frozen BK1133.out 1; have hfz29_2 := blk_frozen BK1133.out 2; have hfz29_3 := blk_frozen BK1133.out 3))
                  go_roundg k1
                  case measure => have := HK1.out; omega
                  case rel => exact ⟨(wrap64 (x22_1 + 1)), (by first | rfl | (simp; done) | (simp [*]; done)), H', ⟨by have := HK1.out; omega⟩, ⟨by (with_reducible repeat (first | refine kN ?_ _ | refine kD ?_ | refine kA ?_ _)); refine blk_far ?_ NB1132_1135.out _; (with_reducible repeat (first | refine kN ?_ _ | refine kD ?_ | refine kA ?_ _)); refine blk_far ?_ NB1132_1135.out _; (with_reducible repeat (first | refine kN ?_ _ | refine kD ?_ | refine kA ?_ _)); exact BK1132.out⟩, ⟨by (with_reducible repeat (first | refine kN ?_ _ | refine kD ?_ | refine kA ?_ _)); refine blk_far ?_ NB1133_1135.out _; (with_reducible repeat (first | refine kN ?_ _ | refine kD ?_ | refine kA ?_ _)); refine blk_far ?_ NB1133_1135.out _; (with_reducible repeat (first | refine kN ?_ _ | refine kD ?_ | refine kA ?_ _)); exact BK1133.out⟩, ⟨by repeat (first | (with_reducible first | exact HB.out | apply bA | apply bN | apply bD | refine below_set ?_ GE1132.out | refine below_set ?_ GE1133.out | refine below_set ?_ GE1135.out) | exact HB.out)⟩⟩
              · rw [if_neg c16] at H
                exact absurd H (by simp)
            · rw [if_neg c15] at H
              exact absurd H (by simp)
          · rw [if_neg c14] at H
            have c14b0 : decide (x22_1 < (l2.length : Int)) = false := decide_eq_false c14
            clear c14
            obtain rfl := Option.some.inj H
            go_wp2
            go_ret
            exact ⟨by first | rfl | (simp [errW_none, errW_some] <;> rfl) | (simp [*, errW_none, errW_some] <;> rfl), by repeat (first | (with_reducible first | exact HB.out | apply bA | apply bN | apply bD | refine below_set ?_ GE1132.out | refine below_set ?_ GE1133.out) | exact HB.out)⟩
    · rw [if_neg c9] at H
      have c9b0 : (a1_0 == 1) = false := beq_eq_false_iff_ne.mpr c9
      have c9b1 : (a1_0 != 1) = true := bne_iff_ne.mpr c9
      by_cases c30 : a1_0 = 2
      · rw [if_pos c30] at H
        have c30b0 : (a1_0 == 2) = true := beq_iff_eq.mpr c30
        have c30b1 : (a1_0 != 2) = false := bne_eq_false_iff_eq.mpr c30
        clear c30
        replace H := Option.bind_eq_some_iff.mp H
        obtain ⟨⟨t1136, t1137, t1140, t1141⟩, A310, H⟩ := H
        try dsimp only at H
        have A31 := Aside0.mk A310
        clear A310
        have HC32 := Aside0.mk H
        clear H
        go_enter Try.func51, Try.ntmps51
        go_upto_region 13 with (first | ((with_reducible refine gate_dst (N := 3) rfl ?_); (try (refine gate_guard (by rfl) ?_; dsimp only)); refine box_event ?hg (N := 3) ?hd (cs := #[.slice A0_0 l0_0.length c0_0, .slice A0_1 l0_1.length c0_1]) (t := 73) ?hr ?_; (case hd => rfl); (case hg => rfl); (case hr => first | (go_simp; done) | (go_simp; rfl)); intro gb1132 hg w33 hbox hb; have n0_ := am (below_step (by repeat (first | (with_reducible first | exact HB.out | apply bA | apply bN | apply bD) | exact HB.out)) hb); have n1_ := am (hbox); have n2_ := am ((by rw [hg]; exact (below_size (by repeat (first | (with_reducible first | exact HB.out | apply bA | apply bN | apply bD) | exact HB.out))) : w.heap.size ≤ gb1132)); have n3_ := am ((by rw [hg]; exact (below_size (by repeat (first | (with_reducible first | exact HB.out | apply bA | apply bN | apply bD) | exact HB.out))) : w.heap.size ≤ gb1132)); clear HB; have HB := n0_; have BK1132 := n1_; have GW1132 := n2_; have GE1132 := n3_; clear n0_ n1_ n2_ n3_; clear hb hbox hg) | ((with_reducible refine gate_dst (N := 4) rfl ?_); (try (refine gate_guard (by rfl) ?_; dsimp only)); refine box_event ?hg (N := 4) ?hd (cs := #[.int .i64 a1_0, .int .i64 a1_1, .string a1_2, .slice A1_3 l1_3.length c1_3]) (t := 29) ?hr ?_; (case hd => rfl); (case hg => rfl); (case hr => first | (go_simp; done) | (go_simp; rfl)); intro gb1133 hg w34 hbox hb; have n0_ := am (blk_below (g := gb1132) (o := .cells #[.slice A0_0 l0_0.length c0_0, .slice A0_1 l0_1.length c0_1] 73 (0, 0)) (by (with_reducible repeat (first | refine kN ?_ _ | refine kD ?_ | refine kA ?_ _)); exact BK1132.out) hb); have n1_ := am (below_step (by repeat (first | (with_reducible first | exact HB.out | apply bA | apply bN | apply bD | refine below_set ?_ GE1132.out) | exact HB.out)) hb); have n2_ := am (hbox); have n3_ := am ((by rw [hg]; exact (below_size (by repeat (first | (with_reducible first | exact HB.out | apply bA | apply bN | apply bD | refine below_set ?_ GE1132.out) | exact HB.out))) : w.heap.size ≤ gb1133)); have n4_ := am ((by rw [hg]; exact (below_size (by repeat (first | (with_reducible first | exact HB.out | apply bA | apply bN | apply bD | refine below_set ?_ GE1132.out) | exact HB.out))) : w.heap.size ≤ gb1133)); have n5_ := am ((by rw [hg]; exact Nat.ne_of_lt (blk_lt (g := gb1132) (o := .cells #[.slice A0_0 l0_0.length c0_0, .slice A0_1 l0_1.length c0_1] 73 (0, 0)) (by (with_reducible repeat (first | refine kN ?_ _ | refine kD ?_ | refine kA ?_ _)); exact BK1132.out)) : gb1132 ≠ gb1133)); have n6_ := am ((by rw [hg]; exact Nat.ne_of_gt (blk_lt (g := gb1132) (o := .cells #[.slice A0_0 l0_0.length c0_0, .slice A0_1 l0_1.length c0_1] 73 (0, 0)) (by (with_reducible repeat (first | refine kN ?_ _ | refine kD ?_ | refine kA ?_ _)); exact BK1132.out)) : gb1133 ≠ gb1132)); clear BK1132; clear HB; have BK1132 := n0_; have HB := n1_; have BK1133 := n2_; have GW1133 := n3_; have GE1133 := n4_; have NB1132_1133 := n5_; have NB1133_1132 := n6_; clear n0_ n1_ n2_ n3_ n4_ n5_ n6_; clear hb hbox hg; have hnb35 := NB1133_1132.out; have hnc35 := NB1132_1133.out; have hcz36_0 : w34.cell? ⟨gb1133, 0, none⟩ = some (.int .i64 a1_0) := (blk_cell BK1133.out 0).trans rfl; have hcz36_1 : w34.cell? ⟨gb1133, 1, none⟩ = some (.int .i64 a1_1) := (blk_cell BK1133.out 1).trans rfl; have hcz36_2 : w34.cell? ⟨gb1133, 2, none⟩ = some (.string a1_2) := (blk_cell BK1133.out 2).trans rfl; have hcz36_3 : w34.cell? ⟨gb1133, 3, none⟩ = some (.slice A1_3 l1_3.length c1_3) := (blk_cell BK1133.out 3).trans rfl; have hfz36_0 := blk_frozen BK1133.out 0; have hfz36_1 := blk_frozen BK1133.out 1; have hfz36_2 := blk_frozen BK1133.out 2; have hfz36_3 := blk_frozen BK1133.out 3; have hcz37_0 : w34.cell? ⟨gb1132, 0, none⟩ = some (.slice A0_0 l0_0.length c0_0) := (blk_cell BK1132.out 0).trans rfl; have hcz37_1 : w34.cell? ⟨gb1132, 1, none⟩ = some (.slice A0_1 l0_1.length c0_1) := (blk_cell BK1132.out 1).trans rfl; have hfz37_0 := blk_frozen BK1132.out 0; have hfz37_1 := blk_frozen BK1132.out 1) | ((with_reducible refine gate_callee (f := 103) rfl ?_); refine goesL_ (some 40) rfl rfl Try.func103 (by kernel_rfl) rfl #[.agg #[.slice A0_0 l0_0.length c0_0, .slice A0_1 l0_1.length c0_1], .string a1_2] rfl (by (try simp only [List.map_toArray, List.map_cons, List.map_nil]); first | done | rfl | (simp only [List.length_drop, List.length_take]; rfl)) ?_; (with_reducible refine (impl_FindOp.calls k _ _ l0_0 _ _ l0_1 a1_2 t1136 t1137 t1140 t1141 _ ?side1 ?side2 ?side3 ?side4 A31.out).mono ?_); (case side1 => repeat (first | exact (Kd.C_below HR0_0.out HB.out) | (with_reducible refine cA ?_ _) | (with_reducible refine cN ?_ _) | (with_reducible refine cD ?_))); (case side2 => exact HC0_0.out); (case side3 => repeat (first | exact (Kd.C_below HR0_1.out HB.out) | (with_reducible refine cA ?_ _) | (with_reducible refine cN ?_ _) | (with_reducible refine cD ?_))); (case side4 => exact HC0_1.out); rintro e w38 ⟨v1138, rfl, ho0, hb⟩; refine ⟨_, rfl, ?_⟩; have n0_ := am (Kd.R_lower ho0 (below_size (by repeat (first | (with_reducible first | exact HB.out | apply bA | apply bN | apply bD | refine below_set ?_ GE1132.out | refine below_set ?_ GE1133.out) | exact HB.out)))); have n1_ := am (blk_below (g := gb1132) (o := .cells #[.slice A0_0 l0_0.length c0_0, .slice A0_1 l0_1.length c0_1] 73 (0, 0)) (by (with_reducible repeat (first | refine kN ?_ _ | refine kD ?_ | refine kA ?_ _)); exact BK1132.out) hb); have n2_ := am (blk_below (g := gb1133) (o := .cells #[.int .i64 a1_0, .int .i64 a1_1, .string a1_2, .slice A1_3 l1_3.length c1_3] 29 (0, 0)) (by (with_reducible repeat (first | refine kN ?_ _ | refine kD ?_ | refine kA ?_ _)); exact BK1133.out) hb); have n3_ := am (below_step (by repeat (first | (with_reducible first | exact HB.out | apply bA | apply bN | apply bD | refine below_set ?_ GE1132.out | refine below_set ?_ GE1133.out) | exact HB.out)) hb); clear BK1132; clear BK1133; clear HB; have HO1139 := n0_; have BK1132 := n1_; have BK1133 := n2_; have HB := n3_; clear n0_ n1_ n2_ n3_) | ((with_reducible refine gate_dst (N := 9) rfl ?_); (try (refine gate_guard (by rfl) ?_; dsimp only)); refine box_event ?hg (N := 9) ?hd (cs := #[.string (⟨#[]⟩ : ByteArray), .slice none 0 0, .string (⟨#[]⟩ : ByteArray)]) (t := 116) ?hr ?_; (case hd => rfl); (case hg => rfl); (case hr => first | (go_simp; done) | (go_simp; rfl)); intro gb1142 hg w39 hbox hb; have n0_ := am (Kd.R_below (by (with_reducible repeat (first | apply rA | apply rN | apply rD)); exact HO1139.out) hb); have n1_ := am (blk_below (g := gb1132) (o := .cells #[.slice A0_0 l0_0.length c0_0, .slice A0_1 l0_1.length c0_1] 73 (0, 0)) (by (with_reducible repeat (first | refine kN ?_ _ | refine kD ?_ | refine kA ?_ _)); exact BK1132.out) hb); have n2_ := am (blk_below (g := gb1133) (o := .cells #[.int .i64 a1_0, .int .i64 a1_1, .string a1_2, .slice A1_3 l1_3.length c1_3] 29 (0, 0)) (by (with_reducible repeat (first | refine kN ?_ _ | refine kD ?_ | refine kA ?_ _)); exact BK1133.out) hb); have n3_ := am (below_step (by repeat (first | (with_reducible first | exact HB.out | apply bA | apply bN | apply bD | refine below_set ?_ GE1132.out | refine below_set ?_ GE1133.out) | exact HB.out)) hb); have n4_ := am (hbox); have n5_ := am ((by rw [hg]; exact (below_size (by repeat (first | (with_reducible first | exact HB.out | apply bA | apply bN | apply bD | refine below_set ?_ GE1132.out | refine below_set ?_ GE1133.out) | exact HB.out))) : w.heap.size ≤ gb1142)); have n6_ := am ((by rw [hg]; exact (below_size (by repeat (first | (with_reducible first | exact HB.out | apply bA | apply bN | apply bD | refine below_set ?_ GE1132.out | refine below_set ?_ GE1133.out) | exact HB.out))) : w.heap.size ≤ gb1142)); have n7_ := am ((by rw [hg]; exact Nat.ne_of_lt (blk_lt (g := gb1132) (o := .cells #[.slice A0_0 l0_0.length c0_0, .slice A0_1 l0_1.length c0_1] 73 (0, 0)) (by (with_reducible repeat (first | refine kN ?_ _ | refine kD ?_ | refine kA ?_ _)); exact BK1132.out)) : gb1132 ≠ gb1142)); have n8_ := am ((by rw [hg]; exact Nat.ne_of_gt (blk_lt (g := gb1132) (o := .cells #[.slice A0_0 l0_0.length c0_0, .slice A0_1 l0_1.length c0_1] 73 (0, 0)) (by (with_reducible repeat (first | refine kN ?_ _ | refine kD ?_ | refine kA ?_ _)); exact BK1132.out)) : gb1142 ≠ gb1132)); have n9_ := am ((by rw [hg]; exact Nat.ne_of_lt (blk_lt (g := gb1133) (o := .cells #[.int .i64 a1_0, .int .i64 a1_1, .string a1_2, .slice A1_3 l1_3.length c1_3] 29 (0, 0)) (by (with_reducible repeat (first | refine kN ?_ _ | refine kD ?_ | refine kA ?_ _)); exact BK1133.out)) : gb1133 ≠ gb1142)); have n10_ := am ((by rw [hg]; exact Nat.ne_of_gt (blk_lt (g := gb1133) (o := .cells #[.int .i64 a1_0, .int .i64 a1_1, .string a1_2, .slice A1_3 l1_3.length c1_3] 29 (0, 0)) (by (with_reducible repeat (first | refine kN ?_ _ | refine kD ?_ | refine kA ?_ _)); exact BK1133.out)) : gb1142 ≠ gb1133)); clear HO1139; clear BK1132; clear BK1133; clear HB; have HO1139 := n0_; have BK1132 := n1_; have BK1133 := n2_; have HB := n3_; have BK1142 := n4_; have GW1142 := n5_; have GE1142 := n6_; have NB1132_1142 := n7_; have NB1142_1132 := n8_; have NB1133_1142 := n9_; have NB1142_1133 := n10_; clear n0_ n1_ n2_ n3_ n4_ n5_ n6_ n7_ n8_ n9_ n10_; clear hb hbox hg; have hnb40 := NB1142_1132.out; have hnc40 := NB1132_1142.out; have hnb41 := NB1142_1133.out; have hnc41 := NB1133_1142.out; have hcz42_0 : w39.cell? ⟨gb1142, 0, none⟩ = some (.string (⟨#[]⟩ : ByteArray)) := (blk_cell BK1142.out 0).trans rfl; have hcz42_1 : w39.cell? ⟨gb1142, 1, none⟩ = some (.slice none 0 0) := (blk_cell BK1142.out 1).trans rfl; have hcz42_2 : w39.cell? ⟨gb1142, 2, none⟩ = some (.string (⟨#[]⟩ : ByteArray)) := (blk_cell BK1142.out 2).trans rfl; have hfz42_0 := blk_frozen BK1142.out 0; have hfz42_1 := blk_frozen BK1142.out 1; have hfz42_2 := blk_frozen BK1142.out 2; obtain ⟨Ao43, co43, eo43⟩ := Kd.R_slice HO1139.out; subst eo43))
        (try simp only [Act.put, List.setIfInBounds_toArray, List.set_cons_zero, List.set_cons_succ])
        go_cut [53] (fun v53 wc => ∃ (kq : Nat) (x53_31 : Bool), v53 = .bool x53_31 ∧ Aside0 (impl_SortOf.j1 kq l2 x53_31 l0_0 l0_1 a1_0 a1_1 a1_2 l1_3 t1136 t1137 t1140 = some r) ∧ Aside0 (kq ≤ k) ∧ Aside0 (Kd.R Kd.string 9 wc w.heap.size (fun _ => True) (.slice Ao43 t1137.length co43) t1137) ∧ Aside0 (wc.heap[gb1132]? = some (.cells #[(.slice A0_0 l0_0.length c0_0), (.slice A0_1 l0_1.length c0_1)] 73 (0, 0))) ∧ Aside0 (wc.heap[gb1133]? = some (.cells #[.int .i64 a1_0, .int .i64 a1_1, .string a1_2, (.slice A1_3 l1_3.length c1_3)] 29 (0, 0))) ∧ Aside0 (wc.heap[gb1142]? = some (.cells #[.string t1136, (.slice Ao43 t1137.length co43), .string t1140] 116 (0, 0))) ∧ Aside0 (Below w.heap.size w wc))
        case first =>
          have H := HC32.out
          clear HC32
          by_cases c44 : t1141 = true
          · subst c44
            have H1 : (impl_SortOf.j1 k l2 ((t1137.length : Int) != (l1_3.length : Int)) l0_0 l0_1 a1_0 a1_1 a1_2 l1_3 t1136 t1137 t1140) = some r := by first | with_reducible rfl | (rw [if_pos rfl] at H; exact H)
            clear H
            have H := H1
            clear H1
            have H' := Aside0.mk H
            clear H
            have hnb45 := NB1142_1132.out
            have hnc45 := NB1132_1142.out
            have hnb46 := NB1142_1133.out
            have hnc46 := NB1133_1142.out
            have hcz47_0 : w39.cell? ⟨gb1142, 0, none⟩ = some (.string (⟨#[]⟩ : ByteArray)) := (blk_cell BK1142.out 0).trans rfl
            have hcz47_1 : w39.cell? ⟨gb1142, 1, none⟩ = some (.slice none 0 0) := (blk_cell BK1142.out 1).trans rfl
            have hcz47_2 : w39.cell? ⟨gb1142, 2, none⟩ = some (.string (⟨#[]⟩ : ByteArray)) := (blk_cell BK1142.out 2).trans rfl
            have hfz47_0 := blk_frozen BK1142.out 0
            have hfz47_1 := blk_frozen BK1142.out 1
            have hfz47_2 := blk_frozen BK1142.out 2
            have hnb48 := NB1133_1132.out
            have hnc48 := NB1132_1133.out
            have hcz49_0 : w39.cell? ⟨gb1133, 0, none⟩ = some (.int .i64 a1_0) := (blk_cell BK1133.out 0).trans rfl
            have hcz49_1 : w39.cell? ⟨gb1133, 1, none⟩ = some (.int .i64 a1_1) := (blk_cell BK1133.out 1).trans rfl
            have hcz49_2 : w39.cell? ⟨gb1133, 2, none⟩ = some (.string a1_2) := (blk_cell BK1133.out 2).trans rfl
            have hcz49_3 : w39.cell? ⟨gb1133, 3, none⟩ = some (.slice A1_3 l1_3.length c1_3) := (blk_cell BK1133.out 3).trans rfl
            have hfz49_0 := blk_frozen BK1133.out 0
            have hfz49_1 := blk_frozen BK1133.out 1
            have hfz49_2 := blk_frozen BK1133.out 2
            have hfz49_3 := blk_frozen BK1133.out 3
            go_wp2
            go_meet
            case rel => exact ⟨_, (((t1137.length : Int) != (l1_3.length : Int))), (by first | rfl | (simp; done) | (simp [*]; done)), H', ⟨by first | omega | exact Nat.le_refl _⟩, ⟨by (with_reducible repeat (first | apply rA | apply rN | apply rD)); exact Kd.R_mono (Kd.R_far (p := ⟨gb1142, 2, none⟩) (Kd.R_far (p := ⟨gb1142, 1, none⟩) (Kd.R_far (p := ⟨gb1142, 0, none⟩) (Kd.R_types HO1139.out BK1142.out (by decide)) (fun _ hk => hk.2) (.string t1136)) (fun _ hk => hk.2) (.slice Ao43 t1137.length co43)) (fun _ hk => hk.2) (.string t1140)) (fun _ hk => trivial)⟩, ⟨by (with_reducible repeat (first | refine kN ?_ _ | refine kD ?_ | refine kA ?_ _)); refine blk_far ?_ NB1132_1142.out _; (with_reducible repeat (first | refine kN ?_ _ | refine kD ?_ | refine kA ?_ _)); refine blk_far ?_ NB1132_1142.out _; (with_reducible repeat (first | refine kN ?_ _ | refine kD ?_ | refine kA ?_ _)); refine blk_far ?_ NB1132_1142.out _; (with_reducible repeat (first | refine kN ?_ _ | refine kD ?_ | refine kA ?_ _)); exact BK1132.out⟩, ⟨by (with_reducible repeat (first | refine kN ?_ _ | refine kD ?_ | refine kA ?_ _)); refine blk_far ?_ NB1133_1142.out _; (with_reducible repeat (first | refine kN ?_ _ | refine kD ?_ | refine kA ?_ _)); refine blk_far ?_ NB1133_1142.out _; (with_reducible repeat (first | refine kN ?_ _ | refine kD ?_ | refine kA ?_ _)); refine blk_far ?_ NB1133_1142.out _; (with_reducible repeat (first | refine kN ?_ _ | refine kD ?_ | refine kA ?_ _)); exact BK1133.out⟩, ⟨by (with_reducible repeat (first | refine kN ?_ _ | refine kD ?_ | refine kA ?_ _)); refine blk_put (cs := #[.string t1136, .slice Ao43 t1137.length co43, .string (⟨#[]⟩ : ByteArray)]) ?_ 2 _ rfl; (with_reducible repeat (first | refine kN ?_ _ | refine kD ?_ | refine kA ?_ _)); refine blk_put (cs := #[.string t1136, .slice none 0 0, .string (⟨#[]⟩ : ByteArray)]) ?_ 1 _ rfl; (with_reducible repeat (first | refine kN ?_ _ | refine kD ?_ | refine kA ?_ _)); refine blk_put (cs := #[.string (⟨#[]⟩ : ByteArray), .slice none 0 0, .string (⟨#[]⟩ : ByteArray)]) ?_ 0 _ rfl; (with_reducible repeat (first | refine kN ?_ _ | refine kD ?_ | refine kA ?_ _)); exact BK1142.out⟩, ⟨by repeat (first | (with_reducible first | exact HB.out | apply bA | apply bN | apply bD | refine below_set ?_ GE1132.out | refine below_set ?_ GE1133.out | refine below_set ?_ GE1142.out) | exact HB.out)⟩⟩
          · replace c44 := Bool.eq_false_iff.mpr c44
            subst c44
            have H1 : (impl_SortOf.j1 k l2 true l0_0 l0_1 a1_0 a1_1 a1_2 l1_3 t1136 t1137 t1140) = some r := by rw [if_neg (show ¬ (false = true) by decide)] at H; exact H
            clear H
            have H := H1
            clear H1
            have H' := Aside0.mk H
            clear H
            go_wp2
            go_meet
            case rel => exact ⟨_, (true), (by first | rfl | (simp; done) | (simp [*]; done)), H', ⟨by first | omega | exact Nat.le_refl _⟩, ⟨by (with_reducible repeat (first | apply rA | apply rN | apply rD)); exact Kd.R_mono (Kd.R_far (p := ⟨gb1142, 2, none⟩) (Kd.R_far (p := ⟨gb1142, 1, none⟩) (Kd.R_far (p := ⟨gb1142, 0, none⟩) (Kd.R_types HO1139.out BK1142.out (by decide)) (fun _ hk => hk.2) (.string t1136)) (fun _ hk => hk.2) (.slice Ao43 t1137.length co43)) (fun _ hk => hk.2) (.string t1140)) (fun _ hk => trivial)⟩, ⟨by (with_reducible repeat (first | refine kN ?_ _ | refine kD ?_ | refine kA ?_ _)); refine blk_far ?_ NB1132_1142.out _; (with_reducible repeat (first | refine kN ?_ _ | refine kD ?_ | refine kA ?_ _)); refine blk_far ?_ NB1132_1142.out _; (with_reducible repeat (first | refine kN ?_ _ | refine kD ?_ | refine kA ?_ _)); refine blk_far ?_ NB1132_1142.out _; (with_reducible repeat (first | refine kN ?_ _ | refine kD ?_ | refine kA ?_ _)); exact BK1132.out⟩, ⟨by (with_reducible repeat (first | refine kN ?_ _ | refine kD ?_ | refine kA ?_ _)); refine blk_far ?_ NB1133_1142.out _; (with_reducible repeat (first | refine kN ?_ _ | refine kD ?_ | refine kA ?_ _)); refine blk_far ?_ NB1133_1142.out _; (with_reducible repeat (first | refine kN ?_ _ | refine kD ?_ | refine kA ?_ _)); refine blk_far ?_ NB1133_1142.out _; (with_reducible repeat (first | refine kN ?_ _ | refine kD ?_ | refine kA ?_ _)); exact BK1133.out⟩, ⟨by (with_reducible repeat (first | refine kN ?_ _ | refine kD ?_ | refine kA ?_ _)); refine blk_put (cs := #[.string t1136, .slice Ao43 t1137.length co43, .string (⟨#[]⟩ : ByteArray)]) ?_ 2 _ rfl; (with_reducible repeat (first | refine kN ?_ _ | refine kD ?_ | refine kA ?_ _)); refine blk_put (cs := #[.string t1136, .slice none 0 0, .string (⟨#[]⟩ : ByteArray)]) ?_ 1 _ rfl; (with_reducible repeat (first | refine kN ?_ _ | refine kD ?_ | refine kA ?_ _)); refine blk_put (cs := #[.string (⟨#[]⟩ : ByteArray), .slice none 0 0, .string (⟨#[]⟩ : ByteArray)]) ?_ 0 _ rfl; (with_reducible repeat (first | refine kN ?_ _ | refine kD ?_ | refine kA ?_ _)); exact BK1142.out⟩, ⟨by repeat (first | (with_reducible first | exact HB.out | apply bA | apply bN | apply bD | refine below_set ?_ GE1132.out | refine below_set ?_ GE1133.out | refine below_set ?_ GE1142.out) | exact HB.out)⟩⟩
        case rest =>
          clear HC32
          obtain ⟨kq, x53_31, rfl, HA, HJ31, HO_1143001, BK1132, BK1133, BK1142, HB⟩ := hcut
          cases kq with
          | zero => exact absurd HA.out (by simp [impl_SortOf.j1])
          | succ kj31 =>
            have H := HA.out
            clear HA
            simp only [impl_SortOf.j1] at H
            by_cases c50 : x53_31 = true
            · subst c50
              have H1 : (some (⟨#[]⟩ : ByteArray)) = some r := by first | with_reducible rfl | (rw [if_pos rfl] at H; exact H)
              clear H
              have H := H1
              clear H1
              obtain rfl := Option.some.inj H
              go_wp2
              go_ret
              exact ⟨by first | rfl | (simp [errW_none, errW_some] <;> rfl) | (simp [*, errW_none, errW_some] <;> rfl), by repeat (first | (with_reducible first | exact HB.out | apply bA | apply bN | apply bD | refine below_set ?_ GE1132.out | refine below_set ?_ GE1133.out | refine below_set ?_ GE1142.out) | exact HB.out)⟩
            · replace c50 := Bool.eq_false_iff.mpr c50
              subst c50
              have H1 : (impl_SortOf.l1 kj31 l2 l1_3 (l1_3.length : Int) 0 l0_0 l0_1 t1136 t1137 t1140) = some r := by rw [if_neg (show ¬ (false = true) by decide)] at H; exact H
              clear H
              have H := H1
              clear H1
              have H' := Aside0.mk H
              clear H
              have hnb51 := NB1133_1132.out
              have hnc51 := NB1132_1133.out
              have hnb52 := NB1133_1142.out
              have hnc52 := NB1142_1133.out
              have hcz53_0 : wc.cell? ⟨gb1133, 0, none⟩ = some (.int .i64 a1_0) := (blk_cell BK1133.out 0).trans rfl
              have hcz53_1 : wc.cell? ⟨gb1133, 1, none⟩ = some (.int .i64 a1_1) := (blk_cell BK1133.out 1).trans rfl
              have hcz53_2 : wc.cell? ⟨gb1133, 2, none⟩ = some (.string a1_2) := (blk_cell BK1133.out 2).trans rfl
              have hcz53_3 : wc.cell? ⟨gb1133, 3, none⟩ = some (.slice A1_3 l1_3.length c1_3) := (blk_cell BK1133.out 3).trans rfl
              have hfz53_0 := blk_frozen BK1133.out 0
              have hfz53_1 := blk_frozen BK1133.out 1
              have hfz53_2 := blk_frozen BK1133.out 2
              have hfz53_3 := blk_frozen BK1133.out 3
              go_wp2
              go_loopg [57] kj31 (fun kq v57 w' => ∃ (x57_2 : Int), v57 = .int .i64 x57_2 ∧ Aside0 (impl_SortOf.l1 kq l2 l1_3 (l1_3.length : Int) x57_2 l0_0 l0_1 t1136 t1137 t1140 = some r) ∧ Aside0 (kq ≤ kj31) ∧ Aside0 (Kd.R Kd.string 9 w' w.heap.size (fun _ => True) (.slice Ao43 t1137.length co43) t1137) ∧ Aside0 (w'.heap[gb1132]? = some (.cells #[(.slice A0_0 l0_0.length c0_0), (.slice A0_1 l0_1.length c0_1)] 73 (0, 0))) ∧ Aside0 (w'.heap[gb1133]? = some (.cells #[.int .i64 a1_0, .int .i64 a1_1, .string a1_2, (.slice A1_3 l1_3.length c1_3)] 29 (0, 0))) ∧ Aside0 (w'.heap[gb1142]? = some (.cells #[.string t1136, (.slice Ao43 t1137.length co43), .string t1140] 116 (0, 0))) ∧ Aside0 (Below w.heap.size w w'))
              case atStart => exact ⟨(0), (by first | rfl | (simp; done) | (simp [*]; done)), H', ⟨Nat.le_refl _⟩, ⟨by (with_reducible repeat (first | apply rA | apply rN | apply rD)); exact HO_1143001.out⟩, ⟨by (with_reducible repeat (first | refine kN ?_ _ | refine kD ?_ | refine kA ?_ _)); exact BK1132.out⟩, ⟨by (with_reducible repeat (first | refine kN ?_ _ | refine kD ?_ | refine kA ?_ _)); exact BK1133.out⟩, ⟨by (with_reducible repeat (first | refine kN ?_ _ | refine kD ?_ | refine kA ?_ _)); exact BK1142.out⟩, ⟨by repeat (first | (with_reducible first | exact HB.out | apply bA | apply bN | apply bD | refine below_set ?_ GE1132.out | refine below_set ?_ GE1133.out | refine below_set ?_ GE1142.out) | exact HB.out)⟩⟩
              case round =>
                clear H'
                obtain ⟨x57_2, rfl, HA, HK2, HO_1143001, BK1132, BK1133, BK1142, HB⟩ := hrel
                cases gk with
                | zero => exact absurd HA.out (by simp [impl_SortOf.l1])
                | succ k2 =>
                  have H := HA.out
                  clear HA
                  simp only [impl_SortOf.l1] at H
                  by_cases c54 : x57_2 < (l1_3.length : Int)
                  · rw [if_pos c54] at H
                    have c54b0 : decide (x57_2 < (l1_3.length : Int)) = true := decide_eq_true c54
                    clear c54
                    by_cases c55 : 0 ≤ x57_2
                    · rw [if_pos c55] at H
                      have c55b0 : decide (0 ≤ x57_2) = true := decide_eq_true c55
                      clear c55
                      by_cases c56 : x57_2 < (l1_3.length : Int)
                      · rw [if_pos c56] at H
                        have c56b0 : decide (x57_2 < (l1_3.length : Int)) = true := decide_eq_true c56
                        clear c56
                        replace H := Option.bind_eq_some_iff.mp H
                        obtain ⟨t1145, A570, H⟩ := H
                        try dsimp only at H
                        have A57 := Aside0.mk A570
                        clear A570
                        by_cases c58 : t1145.toList = ([] : List UInt8)
                        · rw [if_pos c58] at H
                          have c58b0 : (t1145.toList == ([] : List UInt8)) = true := beq_iff_eq.mpr c58
                          have c58b1 : (t1145.toList != ([] : List UInt8)) = false := bne_eq_false_iff_eq.mpr c58
                          clear c58
                          obtain rfl := Option.some.inj H
                          have p1143 : 0 ≤ (x57_2 : Int) := of_decide_eq_true (by assumption)
                          have q1143 : x57_2 < (l1_3.length : Int) := of_decide_eq_true (by assumption)
                          obtain ⟨ad1143, A1143_3, c1143_3, e1143, hx1143_0, hx1143_1, hx1143_2, hx1143_3, hl1143_3, hi1143_3⟩ := at_T29 HR1_3.out x57_2 p1143 q1143
                          cases e1143
                          replace hx1143_0 := (HB.out.cell (World.block_lt_of_cell? w _ hx1143_0)).trans hx1143_0
                          replace hx1143_1 := (HB.out.cell (World.block_lt_of_cell? w _ hx1143_1)).trans hx1143_1
                          replace hx1143_2 := (HB.out.cell (World.block_lt_of_cell? w _ hx1143_2)).trans hx1143_2
                          replace hx1143_3 := (HB.out.cell (World.block_lt_of_cell? w _ hx1143_3)).trans hx1143_3
                          have HR1143_3 := Aside0.mk hi1143_3
                          have HC1143_3 := Aside0.mk hl1143_3
                          clear hi1143_3 hl1143_3
                          replace p1143 := eq_true p1143
                          replace q1143 := eq_true q1143
                          go_wp2_with (first | ((with_reducible refine gate_dst (N := 12) rfl ?_); (try (refine gate_guard (by rfl) ?_; dsimp only)); refine box_event ?hg (N := 12) ?hd (cs := #[.int .i64 0, .int .i64 0, .string (⟨#[]⟩ : ByteArray), .slice none 0 0]) (t := 29) ?hr ?_; (case hd => rfl); (case hg => rfl); (case hr => first | (go_simp; done) | (go_simp; rfl)); intro gb1144 hg w59 hbox hb; have n0_ := am (Kd.R_below (by (with_reducible repeat (first | apply rA | apply rN | apply rD)); exact HO_1143001.out) hb); have n1_ := am (blk_below (g := gb1132) (o := .cells #[.slice A0_0 l0_0.length c0_0, .slice A0_1 l0_1.length c0_1] 73 (0, 0)) (by (with_reducible repeat (first | refine kN ?_ _ | refine kD ?_ | refine kA ?_ _)); exact BK1132.out) hb); have n2_ := am (blk_below (g := gb1133) (o := .cells #[.int .i64 a1_0, .int .i64 a1_1, .string a1_2, .slice (some ad1143) l1_3.length c1_3] 29 (0, 0)) (by (with_reducible repeat (first | refine kN ?_ _ | refine kD ?_ | refine kA ?_ _)); exact BK1133.out) hb); have n3_ := am (blk_below (g := gb1142) (o := .cells #[.string t1136, .slice Ao43 t1137.length co43, .string t1140] 116 (0, 0)) (by (with_reducible repeat (first | refine kN ?_ _ | refine kD ?_ | refine kA ?_ _)); exact BK1142.out) hb); have n4_ := am (below_step (by repeat (first | (with_reducible first | exact HB.out | apply bA | apply bN | apply bD | refine below_set ?_ GE1132.out | refine below_set ?_ GE1133.out | refine below_set ?_ GE1142.out) | exact HB.out)) hb); have n5_ := am (hbox); have n6_ := am ((by rw [hg]; exact (below_size (by repeat (first | (with_reducible first | exact HB.out | apply bA | apply bN | apply bD | refine below_set ?_ GE1132.out | refine below_set ?_ GE1133.out | refine below_set ?_ GE1142.out) | exact HB.out))) : w.heap.size ≤ gb1144)); have n7_ := am ((by rw [hg]; exact (below_size (by repeat (first | (with_reducible first | exact HB.out | apply bA | apply bN | apply bD | refine below_set ?_ GE1132.out | refine below_set ?_ GE1133.out | refine below_set ?_ GE1142.out) | exact HB.out))) : w.heap.size ≤ gb1144)); have n8_ := am ((by rw [hg]; exact Nat.ne_of_lt (blk_lt (g := gb1132) (o := .cells #[.slice A0_0 l0_0.length c0_0, .slice A0_1 l0_1.length c0_1] 73 (0, 0)) (by (with_reducible repeat (first | refine kN ?_ _ | refine kD ?_ | refine kA ?_ _)); exact BK1132.out)) : gb1132 ≠ gb1144)); have n9_ := am ((by rw [hg]; exact Nat.ne_of_gt (blk_lt (g := gb1132) (o := .cells #[.slice A0_0 l0_0.length c0_0, .slice A0_1 l0_1.length c0_1] 73 (0, 0)) (by (with_reducible repeat (first | refine kN ?_ _ | refine kD ?_ | refine kA ?_ _)); exact BK1132.out)) : gb1144 ≠ gb1132)); have n10_ := am ((by rw [hg]; exact Nat.ne_of_lt (blk_lt (g := gb1133) (o := .cells #[.int .i64 a1_0, .int .i64 a1_1, .string a1_2, .slice (some ad1143) l1_3.length c1_3] 29 (0, 0)) (by (with_reducible repeat (first | refine kN ?_ _ | refine kD ?_ | refine kA ?_ _)); exact BK1133.out)) : gb1133 ≠ gb1144)); have n11_ := am ((by rw [hg]; exact Nat.ne_of_gt (blk_lt (g := gb1133) (o := .cells #[.int .i64 a1_0, .int .i64 a1_1, .string a1_2, .slice (some ad1143) l1_3.length c1_3] 29 (0, 0)) (by (with_reducible repeat (first | refine kN ?_ _ | refine kD ?_ | refine kA ?_ _)); exact BK1133.out)) : gb1144 ≠ gb1133)); have n12_ := am ((by rw [hg]; exact Nat.ne_of_lt (blk_lt (g := gb1142) (o := .cells #[.string t1136, .slice Ao43 t1137.length co43, .string t1140] 116 (0, 0)) (by (with_reducible repeat (first | refine kN ?_ _ | refine kD ?_ | refine kA ?_ _)); exact BK1142.out)) : gb1142 ≠ gb1144)); have n13_ := am ((by rw [hg]; exact Nat.ne_of_gt (blk_lt (g := gb1142) (o := .cells #[.string t1136, .slice Ao43 t1137.length co43, .string t1140] 116 (0, 0)) (by (with_reducible repeat (first | refine kN ?_ _ | refine kD ?_ | refine kA ?_ _)); exact BK1142.out)) : gb1144 ≠ gb1142)); clear HO_1143001; clear BK1132; clear BK1133; clear BK1142; clear HB; have HO_1143001 := n0_; have BK1132 := n1_; have BK1133 := n2_; have BK1142 := n3_; have HB := n4_; have BK1144 := n5_; have GW1144 := n6_; have GE1144 := n7_; have NB1132_1144 := n8_; have NB1144_1132 := n9_; have NB1133_1144 := n10_; have NB1144_1133 := n11_; have NB1142_1144 := n12_; have NB1144_1142 := n13_; clear n0_ n1_ n2_ n3_ n4_ n5_ n6_ n7_ n8_ n9_ n10_ n11_ n12_ n13_; clear hb hbox hg; have hnb60 := NB1144_1132.out; have hnc60 := NB1132_1144.out; have hnb61 := NB1144_1133.out; have hnc61 := NB1133_1144.out; have hnb62 := NB1144_1142.out; have hnc62 := NB1142_1144.out; have hcz63_0 : w59.cell? ⟨gb1144, 0, none⟩ = some (.int .i64 0) := (blk_cell BK1144.out 0).trans rfl; have hcz63_1 : w59.cell? ⟨gb1144, 1, none⟩ = some (.int .i64 0) := (blk_cell BK1144.out 1).trans rfl; have hcz63_2 : w59.cell? ⟨gb1144, 2, none⟩ = some (.string (⟨#[]⟩ : ByteArray)) := (blk_cell BK1144.out 2).trans rfl; have hcz63_3 : w59.cell? ⟨gb1144, 3, none⟩ = some (.slice none 0 0) := (blk_cell BK1144.out 3).trans rfl; have hfz63_0 := blk_frozen BK1144.out 0; have hfz63_1 := blk_frozen BK1144.out 1; have hfz63_2 := blk_frozen BK1144.out 2; have hfz63_3 := blk_frozen BK1144.out 3; have hnb64 := NB1132_1133.out; have hnc64 := NB1133_1132.out; have hnb65 := NB1132_1142.out; have hnc65 := NB1142_1132.out; have hcz66_0 : w59.cell? ⟨gb1132, 0, none⟩ = some (.slice A0_0 l0_0.length c0_0) := (blk_cell BK1132.out 0).trans rfl; have hcz66_1 : w59.cell? ⟨gb1132, 1, none⟩ = some (.slice A0_1 l0_1.length c0_1) := (blk_cell BK1132.out 1).trans rfl; have hfz66_0 := blk_frozen BK1132.out 0; have hfz66_1 := blk_frozen BK1132.out 1) | ((with_reducible refine gate_callee (f := 51) rfl ?_); refine goesL_ (some 65) rfl rfl Try.func51 (by kernel_rfl) rfl #[.agg #[.slice A0_0 l0_0.length c0_0, .slice A0_1 l0_1.length c0_1], .agg #[.int .i64 ((rd_T29 l1_3 x57_2).f0), .int .i64 ((rd_T29 l1_3 x57_2).f1), .string ((rd_T29 l1_3 x57_2).f2), .slice A1143_3 ((rd_T29 l1_3 x57_2).f3).length c1143_3], .slice A2 l2.length c2] rfl (by (try simp only [List.map_toArray, List.map_cons, List.map_nil]); first | done | rfl | (simp only [List.length_drop, List.length_take]; rfl)) ?_; (with_reducible refine (ih k2 (by have := HJ31.out; have := HK2.out; omega) _ _ l0_0 _ _ l0_1 ((rd_T29 l1_3 x57_2).f0) ((rd_T29 l1_3 x57_2).f1) ((rd_T29 l1_3 x57_2).f2) _ _ ((rd_T29 l1_3 x57_2).f3) _ _ l2 t1145 _ ?side1 ?side2 ?side3 ?side4 ?side5 ?side6 ?side7 ?side8 A57.out).mono ?_); (case side1 => exact Kd.C_below HR0_0.out (by repeat (first | (with_reducible first | exact HB.out | apply bA | apply bN | apply bD | refine below_set ?_ GE1132.out | refine below_set ?_ GE1133.out | refine below_set ?_ GE1142.out | refine below_set ?_ GE1144.out) | exact HB.out))); (case side2 => exact HC0_0.out); (case side3 => exact Kd.C_below HR0_1.out (by repeat (first | (with_reducible first | exact HB.out | apply bA | apply bN | apply bD | refine below_set ?_ GE1132.out | refine below_set ?_ GE1133.out | refine below_set ?_ GE1142.out | refine below_set ?_ GE1144.out) | exact HB.out))); (case side4 => exact HC0_1.out); (case side5 => exact Kd.C_below HR1143_3.out (by repeat (first | (with_reducible first | exact HB.out | apply bA | apply bN | apply bD | refine below_set ?_ GE1132.out | refine below_set ?_ GE1133.out | refine below_set ?_ GE1142.out | refine below_set ?_ GE1144.out) | exact HB.out))); (case side6 => exact HC1143_3.out); (case side7 => exact Kd.C_below HR2.out (by repeat (first | (with_reducible first | exact HB.out | apply bA | apply bN | apply bD | refine below_set ?_ GE1132.out | refine below_set ?_ GE1133.out | refine below_set ?_ GE1142.out | refine below_set ?_ GE1144.out) | exact HB.out))); (case side8 => exact HC2.out); rintro e w67 ⟨rfl, hb⟩; refine ⟨_, rfl, ?_⟩; have n0_ := am (Kd.R_below (by (with_reducible repeat (first | apply rA | apply rN | apply rD)); exact (Kd.R_mono (Kd.R_far (p := ⟨gb1144, 3, none⟩) (Kd.R_far (p := ⟨gb1144, 2, none⟩) (Kd.R_far (p := ⟨gb1144, 1, none⟩) (Kd.R_far (p := ⟨gb1144, 0, none⟩) (Kd.R_types HO_1143001.out BK1144.out (by decide)) (fun _ hk => hk.2) (.int .i64 ((rd_T29 l1_3 x57_2).f0))) (fun _ hk => hk.2) (.int .i64 ((rd_T29 l1_3 x57_2).f1))) (fun _ hk => hk.2) (.string ((rd_T29 l1_3 x57_2).f2))) (fun _ hk => hk.2) (.slice A1143_3 ((rd_T29 l1_3 x57_2).f3).length c1143_3)) (fun _ h_ => h_.1))) hb); have n1_ := am (blk_below (g := gb1132) (o := .cells #[.slice A0_0 l0_0.length c0_0, .slice A0_1 l0_1.length c0_1] 73 (0, 0)) (by (with_reducible repeat (first | refine kN ?_ _ | refine kD ?_ | refine kA ?_ _)); refine blk_far ?_ NB1132_1144.out _; (with_reducible repeat (first | refine kN ?_ _ | refine kD ?_ | refine kA ?_ _)); refine blk_far ?_ NB1132_1144.out _; (with_reducible repeat (first | refine kN ?_ _ | refine kD ?_ | refine kA ?_ _)); refine blk_far ?_ NB1132_1144.out _; (with_reducible repeat (first | refine kN ?_ _ | refine kD ?_ | refine kA ?_ _)); refine blk_far ?_ NB1132_1144.out _; (with_reducible repeat (first | refine kN ?_ _ | refine kD ?_ | refine kA ?_ _)); exact BK1132.out) hb); have n2_ := am (blk_below (g := gb1133) (o := .cells #[.int .i64 a1_0, .int .i64 a1_1, .string a1_2, .slice (some ad1143) l1_3.length c1_3] 29 (0, 0)) (by (with_reducible repeat (first | refine kN ?_ _ | refine kD ?_ | refine kA ?_ _)); refine blk_far ?_ NB1133_1144.out _; (with_reducible repeat (first | refine kN ?_ _ | refine kD ?_ | refine kA ?_ _)); refine blk_far ?_ NB1133_1144.out _; (with_reducible repeat (first | refine kN ?_ _ | refine kD ?_ | refine kA ?_ _)); refine blk_far ?_ NB1133_1144.out _; (with_reducible repeat (first | refine kN ?_ _ | refine kD ?_ | refine kA ?_ _)); refine blk_far ?_ NB1133_1144.out _; (with_reducible repeat (first | refine kN ?_ _ | refine kD ?_ | refine kA ?_ _)); exact BK1133.out) hb); have n3_ := am (blk_below (g := gb1142) (o := .cells #[.string t1136, .slice Ao43 t1137.length co43, .string t1140] 116 (0, 0)) (by (with_reducible repeat (first | refine kN ?_ _ | refine kD ?_ | refine kA ?_ _)); refine blk_far ?_ NB1142_1144.out _; (with_reducible repeat (first | refine kN ?_ _ | refine kD ?_ | refine kA ?_ _)); refine blk_far ?_ NB1142_1144.out _; (with_reducible repeat (first | refine kN ?_ _ | refine kD ?_ | refine kA ?_ _)); refine blk_far ?_ NB1142_1144.out _; (with_reducible repeat (first | refine kN ?_ _ | refine kD ?_ | refine kA ?_ _)); refine blk_far ?_ NB1142_1144.out _; (with_reducible repeat (first | refine kN ?_ _ | refine kD ?_ | refine kA ?_ _)); exact BK1142.out) hb); have n4_ := am (blk_below (g := gb1144) (o := .cells #[.int .i64 ((rd_T29 l1_3 x57_2).f0), .int .i64 ((rd_T29 l1_3 x57_2).f1), .string ((rd_T29 l1_3 x57_2).f2), .slice A1143_3 ((rd_T29 l1_3 x57_2).f3).length c1143_3] 29 (0, 0)) (by (with_reducible repeat (first | refine kN ?_ _ | refine kD ?_ | refine kA ?_ _)); refine blk_put (cs := #[.int .i64 ((rd_T29 l1_3 x57_2).f0), .int .i64 ((rd_T29 l1_3 x57_2).f1), .string ((rd_T29 l1_3 x57_2).f2), .slice none 0 0]) ?_ 3 _ rfl; (with_reducible repeat (first | refine kN ?_ _ | refine kD ?_ | refine kA ?_ _)); refine blk_put (cs := #[.int .i64 ((rd_T29 l1_3 x57_2).f0), .int .i64 ((rd_T29 l1_3 x57_2).f1), .string (⟨#[]⟩ : ByteArray), .slice none 0 0]) ?_ 2 _ rfl; (with_reducible repeat (first | refine kN ?_ _ | refine kD ?_ | refine kA ?_ _)); refine blk_put (cs := #[.int .i64 ((rd_T29 l1_3 x57_2).f0), .int .i64 0, .string (⟨#[]⟩ : ByteArray), .slice none 0 0]) ?_ 1 _ rfl; (with_reducible repeat (first | refine kN ?_ _ | refine kD ?_ | refine kA ?_ _)); refine blk_put (cs := #[.int .i64 0, .int .i64 0, .string (⟨#[]⟩ : ByteArray), .slice none 0 0]) ?_ 0 _ rfl; (with_reducible repeat (first | refine kN ?_ _ | refine kD ?_ | refine kA ?_ _)); exact BK1144.out) hb); have n5_ := am (below_step (by repeat (first | (with_reducible first | exact HB.out | apply bA | apply bN | apply bD | refine below_set ?_ GE1132.out | refine below_set ?_ GE1133.out | refine below_set ?_ GE1142.out | refine below_set ?_ GE1144.out) | exact HB.out)) hb); clear HO_1143001; clear BK1132; clear BK1133; clear BK1142; clear BK1144; clear HB; have HO_1143001 := n0_; have BK1132 := n1_; have BK1133 := n2_; have BK1142 := n3_; have BK1144 := n4_; have HB := n5_; clear n0_ n1_ n2_ n3_ n4_ n5_))
                          go_ret
                          exact ⟨by first | rfl | (simp [errW_none, errW_some] <;> rfl) | (simp [*, errW_none, errW_some] <;> rfl), by repeat (first | (with_reducible first | exact HB.out | apply bA | apply bN | apply bD | refine below_set ?_ GE1132.out | refine below_set ?_ GE1133.out | refine below_set ?_ GE1142.out | refine below_set ?_ GE1144.out) | exact HB.out)⟩
                        · rw [if_neg c58] at H
                          have c58b0 : (t1145.toList == ([] : List UInt8)) = false := beq_eq_false_iff_ne.mpr c58
                          have c58b1 : (t1145.toList != ([] : List UInt8)) = true := bne_iff_ne.mpr c58
                          by_cases c68 : x57_2 < (t1137.length : Int)
                          · rw [if_pos c68] at H
                            have c68b0 : decide (x57_2 < (t1137.length : Int)) = true := decide_eq_true c68
                            clear c68
                            by_cases c69 : t1145.toList = (rdOf ByteArray.empty t1137 x57_2).toList
                            · rw [if_pos c69] at H
                              have c69b0 : (t1145.toList == (rdOf ByteArray.empty t1137 x57_2).toList) = true := beq_iff_eq.mpr c69
                              have c69b1 : (t1145.toList != (rdOf ByteArray.empty t1137 x57_2).toList) = false := bne_eq_false_iff_eq.mpr c69
                              clear c69
                              have H' := Aside0.mk H
                              clear H
                              have p1143 : 0 ≤ (x57_2 : Int) := of_decide_eq_true (by assumption)
                              have q1143 : x57_2 < (l1_3.length : Int) := of_decide_eq_true (by assumption)
                              obtain ⟨ad1143, A1143_3, c1143_3, e1143, hx1143_0, hx1143_1, hx1143_2, hx1143_3, hl1143_3, hi1143_3⟩ := at_T29 HR1_3.out x57_2 p1143 q1143
                              cases e1143
                              replace hx1143_0 := (HB.out.cell (World.block_lt_of_cell? w _ hx1143_0)).trans hx1143_0
                              replace hx1143_1 := (HB.out.cell (World.block_lt_of_cell? w _ hx1143_1)).trans hx1143_1
                              replace hx1143_2 := (HB.out.cell (World.block_lt_of_cell? w _ hx1143_2)).trans hx1143_2
                              replace hx1143_3 := (HB.out.cell (World.block_lt_of_cell? w _ hx1143_3)).trans hx1143_3
                              have HR1143_3 := Aside0.mk hi1143_3
                              have HC1143_3 := Aside0.mk hl1143_3
                              clear hi1143_3 hl1143_3
                              replace p1143 := eq_true p1143
                              replace q1143 := eq_true q1143
                              go_wp2_with (first | ((with_reducible refine gate_dst (N := 12) rfl ?_); (try (refine gate_guard (by rfl) ?_; dsimp only)); refine box_event ?hg (N := 12) ?hd (cs := #[.int .i64 0, .int .i64 0, .string (⟨#[]⟩ : ByteArray), .slice none 0 0]) (t := 29) ?hr ?_; (case hd => rfl); (case hg => rfl); (case hr => first | (go_simp; done) | (go_simp; rfl)); intro gb1144 hg w70 hbox hb; have n0_ := am (Kd.R_below (by (with_reducible repeat (first | apply rA | apply rN | apply rD)); exact HO_1143001.out) hb); have n1_ := am (blk_below (g := gb1132) (o := .cells #[.slice A0_0 l0_0.length c0_0, .slice A0_1 l0_1.length c0_1] 73 (0, 0)) (by (with_reducible repeat (first | refine kN ?_ _ | refine kD ?_ | refine kA ?_ _)); exact BK1132.out) hb); have n2_ := am (blk_below (g := gb1133) (o := .cells #[.int .i64 a1_0, .int .i64 a1_1, .string a1_2, .slice (some ad1143) l1_3.length c1_3] 29 (0, 0)) (by (with_reducible repeat (first | refine kN ?_ _ | refine kD ?_ | refine kA ?_ _)); exact BK1133.out) hb); have n3_ := am (blk_below (g := gb1142) (o := .cells #[.string t1136, .slice Ao43 t1137.length co43, .string t1140] 116 (0, 0)) (by (with_reducible repeat (first | refine kN ?_ _ | refine kD ?_ | refine kA ?_ _)); exact BK1142.out) hb); have n4_ := am (below_step (by repeat (first | (with_reducible first | exact HB.out | apply bA | apply bN | apply bD | refine below_set ?_ GE1132.out | refine below_set ?_ GE1133.out | refine below_set ?_ GE1142.out) | exact HB.out)) hb); have n5_ := am (hbox); have n6_ := am ((by rw [hg]; exact (below_size (by repeat (first | (with_reducible first | exact HB.out | apply bA | apply bN | apply bD | refine below_set ?_ GE1132.out | refine below_set ?_ GE1133.out | refine below_set ?_ GE1142.out) | exact HB.out))) : w.heap.size ≤ gb1144)); have n7_ := am ((by rw [hg]; exact (below_size (by repeat (first | (with_reducible first | exact HB.out | apply bA | apply bN | apply bD | refine below_set ?_ GE1132.out | refine below_set ?_ GE1133.out | refine below_set ?_ GE1142.out) | exact HB.out))) : w.heap.size ≤ gb1144)); have n8_ := am ((by rw [hg]; exact Nat.ne_of_lt (blk_lt (g := gb1132) (o := .cells #[.slice A0_0 l0_0.length c0_0, .slice A0_1 l0_1.length c0_1] 73 (0, 0)) (by (with_reducible repeat (first | refine kN ?_ _ | refine kD ?_ | refine kA ?_ _)); exact BK1132.out)) : gb1132 ≠ gb1144)); have n9_ := am ((by rw [hg]; exact Nat.ne_of_gt (blk_lt (g := gb1132) (o := .cells #[.slice A0_0 l0_0.length c0_0, .slice A0_1 l0_1.length c0_1] 73 (0, 0)) (by (with_reducible repeat (first | refine kN ?_ _ | refine kD ?_ | refine kA ?_ _)); exact BK1132.out)) : gb1144 ≠ gb1132)); have n10_ := am ((by rw [hg]; exact Nat.ne_of_lt (blk_lt (g := gb1133) (o := .cells #[.int .i64 a1_0, .int .i64 a1_1, .string a1_2, .slice (some ad1143) l1_3.length c1_3] 29 (0, 0)) (by (with_reducible repeat (first | refine kN ?_ _ | refine kD ?_ | refine kA ?_ _)); exact BK1133.out)) : gb1133 ≠ gb1144)); have n11_ := am ((by rw [hg]; exact Nat.ne_of_gt (blk_lt (g := gb1133) (o := .cells #[.int .i64 a1_0, .int .i64 a1_1, .string a1_2, .slice (some ad1143) l1_3.length c1_3] 29 (0, 0)) (by (with_reducible repeat (first | refine kN ?_ _ | refine kD ?_ | refine kA ?_ _)); exact BK1133.out)) : gb1144 ≠ gb1133)); have n12_ := am ((by rw [hg]; exact Nat.ne_of_lt (blk_lt (g := gb1142) (o := .cells #[.string t1136, .slice Ao43 t1137.length co43, .string t1140] 116 (0, 0)) (by (with_reducible repeat (first | refine kN ?_ _ | refine kD ?_ | refine kA ?_ _)); exact BK1142.out)) : gb1142 ≠ gb1144)); have n13_ := am ((by rw [hg]; exact Nat.ne_of_gt (blk_lt (g := gb1142) (o := .cells #[.string t1136, .slice Ao43 t1137.length co43, .string t1140] 116 (0, 0)) (by (with_reducible repeat (first | refine kN ?_ _ | refine kD ?_ | refine kA ?_ _)); exact BK1142.out)) : gb1144 ≠ gb1142)); clear HO_1143001; clear BK1132; clear BK1133; clear BK1142; clear HB; have HO_1143001 := n0_; have BK1132 := n1_; have BK1133 := n2_; have BK1142 := n3_; have HB := n4_; have BK1144 := n5_; have GW1144 := n6_; have GE1144 := n7_; have NB1132_1144 := n8_; have NB1144_1132 := n9_; have NB1133_1144 := n10_; have NB1144_1133 := n11_; have NB1142_1144 := n12_; have NB1144_1142 := n13_; clear n0_ n1_ n2_ n3_ n4_ n5_ n6_ n7_ n8_ n9_ n10_ n11_ n12_ n13_; clear hb hbox hg; have hnb71 := NB1144_1132.out; have hnc71 := NB1132_1144.out; have hnb72 := NB1144_1133.out; have hnc72 := NB1133_1144.out; have hnb73 := NB1144_1142.out; have hnc73 := NB1142_1144.out; have hcz74_0 : w70.cell? ⟨gb1144, 0, none⟩ = some (.int .i64 0) := (blk_cell BK1144.out 0).trans rfl; have hcz74_1 : w70.cell? ⟨gb1144, 1, none⟩ = some (.int .i64 0) := (blk_cell BK1144.out 1).trans rfl; have hcz74_2 : w70.cell? ⟨gb1144, 2, none⟩ = some (.string (⟨#[]⟩ : ByteArray)) := (blk_cell BK1144.out 2).trans rfl; have hcz74_3 : w70.cell? ⟨gb1144, 3, none⟩ = some (.slice none 0 0) := (blk_cell BK1144.out 3).trans rfl; have hfz74_0 := blk_frozen BK1144.out 0; have hfz74_1 := blk_frozen BK1144.out 1; have hfz74_2 := blk_frozen BK1144.out 2; have hfz74_3 := blk_frozen BK1144.out 3; have hnb75 := NB1132_1133.out; have hnc75 := NB1133_1132.out; have hnb76 := NB1132_1142.out; have hnc76 := NB1142_1132.out; have hcz77_0 : w70.cell? ⟨gb1132, 0, none⟩ = some (.slice A0_0 l0_0.length c0_0) := (blk_cell BK1132.out 0).trans rfl; have hcz77_1 : w70.cell? ⟨gb1132, 1, none⟩ = some (.slice A0_1 l0_1.length c0_1) := (blk_cell BK1132.out 1).trans rfl; have hfz77_0 := blk_frozen BK1132.out 0; have hfz77_1 := blk_frozen BK1132.out 1) | ((with_reducible refine gate_callee (f := 51) rfl ?_); refine goesL_ (some 65) rfl rfl Try.func51 (by kernel_rfl) rfl #[.agg #[.slice A0_0 l0_0.length c0_0, .slice A0_1 l0_1.length c0_1], .agg #[.int .i64 ((rd_T29 l1_3 x57_2).f0), .int .i64 ((rd_T29 l1_3 x57_2).f1), .string ((rd_T29 l1_3 x57_2).f2), .slice A1143_3 ((rd_T29 l1_3 x57_2).f3).length c1143_3], .slice A2 l2.length c2] rfl (by (try simp only [List.map_toArray, List.map_cons, List.map_nil]); first | done | rfl | (simp only [List.length_drop, List.length_take]; rfl)) ?_; (with_reducible refine (ih k2 (by have := HJ31.out; have := HK2.out; omega) _ _ l0_0 _ _ l0_1 ((rd_T29 l1_3 x57_2).f0) ((rd_T29 l1_3 x57_2).f1) ((rd_T29 l1_3 x57_2).f2) _ _ ((rd_T29 l1_3 x57_2).f3) _ _ l2 t1145 _ ?side1 ?side2 ?side3 ?side4 ?side5 ?side6 ?side7 ?side8 A57.out).mono ?_); (case side1 => exact Kd.C_below HR0_0.out (by repeat (first | (with_reducible first | exact HB.out | apply bA | apply bN | apply bD | refine below_set ?_ GE1132.out | refine below_set ?_ GE1133.out | refine below_set ?_ GE1142.out | refine below_set ?_ GE1144.out) | exact HB.out))); (case side2 => exact HC0_0.out); (case side3 => exact Kd.C_below HR0_1.out (by repeat (first | (with_reducible first | exact HB.out | apply bA | apply bN | apply bD | refine below_set ?_ GE1132.out | refine below_set ?_ GE1133.out | refine below_set ?_ GE1142.out | refine below_set ?_ GE1144.out) | exact HB.out))); (case side4 => exact HC0_1.out); (case side5 => exact Kd.C_below HR1143_3.out (by repeat (first | (with_reducible first | exact HB.out | apply bA | apply bN | apply bD | refine below_set ?_ GE1132.out | refine below_set ?_ GE1133.out | refine below_set ?_ GE1142.out | refine below_set ?_ GE1144.out) | exact HB.out))); (case side6 => exact HC1143_3.out); (case side7 => exact Kd.C_below HR2.out (by repeat (first | (with_reducible first | exact HB.out | apply bA | apply bN | apply bD | refine below_set ?_ GE1132.out | refine below_set ?_ GE1133.out | refine below_set ?_ GE1142.out | refine below_set ?_ GE1144.out) | exact HB.out))); (case side8 => exact HC2.out); rintro e w78 ⟨rfl, hb⟩; refine ⟨_, rfl, ?_⟩; have n0_ := am (Kd.R_below (by (with_reducible repeat (first | apply rA | apply rN | apply rD)); exact (Kd.R_mono (Kd.R_far (p := ⟨gb1144, 3, none⟩) (Kd.R_far (p := ⟨gb1144, 2, none⟩) (Kd.R_far (p := ⟨gb1144, 1, none⟩) (Kd.R_far (p := ⟨gb1144, 0, none⟩) (Kd.R_types HO_1143001.out BK1144.out (by decide)) (fun _ hk => hk.2) (.int .i64 ((rd_T29 l1_3 x57_2).f0))) (fun _ hk => hk.2) (.int .i64 ((rd_T29 l1_3 x57_2).f1))) (fun _ hk => hk.2) (.string ((rd_T29 l1_3 x57_2).f2))) (fun _ hk => hk.2) (.slice A1143_3 ((rd_T29 l1_3 x57_2).f3).length c1143_3)) (fun _ h_ => h_.1))) hb); have n1_ := am (blk_below (g := gb1132) (o := .cells #[.slice A0_0 l0_0.length c0_0, .slice A0_1 l0_1.length c0_1] 73 (0, 0)) (by (with_reducible repeat (first | refine kN ?_ _ | refine kD ?_ | refine kA ?_ _)); refine blk_far ?_ NB1132_1144.out _; (with_reducible repeat (first | refine kN ?_ _ | refine kD ?_ | refine kA ?_ _)); refine blk_far ?_ NB1132_1144.out _; (with_reducible repeat (first | refine kN ?_ _ | refine kD ?_ | refine kA ?_ _)); refine blk_far ?_ NB1132_1144.out _; (with_reducible repeat (first | refine kN ?_ _ | refine kD ?_ | refine kA ?_ _)); refine blk_far ?_ NB1132_1144.out _; (with_reducible repeat (first | refine kN ?_ _ | refine kD ?_ | refine kA ?_ _)); exact BK1132.out) hb); have n2_ := am (blk_below (g := gb1133) (o := .cells #[.int .i64 a1_0, .int .i64 a1_1, .string a1_2, .slice (some ad1143) l1_3.length c1_3] 29 (0, 0)) (by (with_reducible repeat (first | refine kN ?_ _ | refine kD ?_ | refine kA ?_ _)); refine blk_far ?_ NB1133_1144.out _; (with_reducible repeat (first | refine kN ?_ _ | refine kD ?_ | refine kA ?_ _)); refine blk_far ?_ NB1133_1144.out _; (with_reducible repeat (first | refine kN ?_ _ | refine kD ?_ | refine kA ?_ _)); refine blk_far ?_ NB1133_1144.out _; (with_reducible repeat (first | refine kN ?_ _ | refine kD ?_ | refine kA ?_ _)); refine blk_far ?_ NB1133_1144.out _; (with_reducible repeat (first | refine kN ?_ _ | refine kD ?_ | refine kA ?_ _)); exact BK1133.out) hb); have n3_ := am (blk_below (g := gb1142) (o := .cells #[.string t1136, .slice Ao43 t1137.length co43, .string t1140] 116 (0, 0)) (by (with_reducible repeat (first | refine kN ?_ _ | refine kD ?_ | refine kA ?_ _)); refine blk_far ?_ NB1142_1144.out _; (with_reducible repeat (first | refine kN ?_ _ | refine kD ?_ | refine kA ?_ _)); refine blk_far ?_ NB1142_1144.out _; (with_reducible repeat (first | refine kN ?_ _ | refine kD ?_ | refine kA ?_ _)); refine blk_far ?_ NB1142_1144.out _; (with_reducible repeat (first | refine kN ?_ _ | refine kD ?_ | refine kA ?_ _)); refine blk_far ?_ NB1142_1144.out _; (with_reducible repeat (first | refine kN ?_ _ | refine kD ?_ | refine kA ?_ _)); exact BK1142.out) hb); have n4_ := am (blk_below (g := gb1144) (o := .cells #[.int .i64 ((rd_T29 l1_3 x57_2).f0), .int .i64 ((rd_T29 l1_3 x57_2).f1), .string ((rd_T29 l1_3 x57_2).f2), .slice A1143_3 ((rd_T29 l1_3 x57_2).f3).length c1143_3] 29 (0, 0)) (by (with_reducible repeat (first | refine kN ?_ _ | refine kD ?_ | refine kA ?_ _)); refine blk_put (cs := #[.int .i64 ((rd_T29 l1_3 x57_2).f0), .int .i64 ((rd_T29 l1_3 x57_2).f1), .string ((rd_T29 l1_3 x57_2).f2), .slice none 0 0]) ?_ 3 _ rfl; (with_reducible repeat (first | refine kN ?_ _ | refine kD ?_ | refine kA ?_ _)); refine blk_put (cs := #[.int .i64 ((rd_T29 l1_3 x57_2).f0), .int .i64 ((rd_T29 l1_3 x57_2).f1), .string (⟨#[]⟩ : ByteArray), .slice none 0 0]) ?_ 2 _ rfl; (with_reducible repeat (first | refine kN ?_ _ | refine kD ?_ | refine kA ?_ _)); refine blk_put (cs := #[.int .i64 ((rd_T29 l1_3 x57_2).f0), .int .i64 0, .string (⟨#[]⟩ : ByteArray), .slice none 0 0]) ?_ 1 _ rfl; (with_reducible repeat (first | refine kN ?_ _ | refine kD ?_ | refine kA ?_ _)); refine blk_put (cs := #[.int .i64 0, .int .i64 0, .string (⟨#[]⟩ : ByteArray), .slice none 0 0]) ?_ 0 _ rfl; (with_reducible repeat (first | refine kN ?_ _ | refine kD ?_ | refine kA ?_ _)); exact BK1144.out) hb); have n5_ := am (below_step (by repeat (first | (with_reducible first | exact HB.out | apply bA | apply bN | apply bD | refine below_set ?_ GE1132.out | refine below_set ?_ GE1133.out | refine below_set ?_ GE1142.out | refine below_set ?_ GE1144.out) | exact HB.out)) hb); clear HO_1143001; clear BK1132; clear BK1133; clear BK1142; clear BK1144; clear HB; have HO_1143001 := n0_; have BK1132 := n1_; have BK1133 := n2_; have BK1142 := n3_; have BK1144 := n4_; have HB := n5_; clear n0_ n1_ n2_ n3_ n4_ n5_; have hnb79 := NB1142_1133.out; have hnc79 := NB1133_1142.out; have hcz80_0 : w78.cell? ⟨gb1142, 0, none⟩ = some (.string t1136) := (blk_cell BK1142.out 0).trans rfl; have hcz80_1 : w78.cell? ⟨gb1142, 1, none⟩ = some (.slice Ao43 t1137.length co43) := (blk_cell BK1142.out 1).trans rfl; have hcz80_2 : w78.cell? ⟨gb1142, 2, none⟩ = some (.string t1140) := (blk_cell BK1142.out 2).trans rfl; have hfz80_0 := blk_frozen BK1142.out 0; have hfz80_1 := blk_frozen BK1142.out 1; have hfz80_2 := blk_frozen BK1142.out 2; have p1146 : 0 ≤ (x57_2 : Int) := of_decide_eq_true (by assumption); have q1146 : x57_2 < (t1137.length : Int) := of_decide_eq_true (by assumption); obtain ⟨ad1146, e1146, hx1146_0⟩ := Kd.at_string (Kd.R_reads' HO_1143001.out).2.2 x57_2 p1146 q1146; cases e1146; replace p1146 := eq_true p1146; replace q1146 := eq_true q1146))
                              go_roundg k2
                              case measure => have := HJ31.out; have := HK2.out; omega
                              case rel => exact ⟨(wrap64 (x57_2 + 1)), (by first | rfl | (simp; done) | (simp [*]; done)), H', ⟨by have := HJ31.out; have := HK2.out; omega⟩, ⟨by (with_reducible repeat (first | apply rA | apply rN | apply rD)); exact HO_1143001.out⟩, ⟨by (with_reducible repeat (first | refine kN ?_ _ | refine kD ?_ | refine kA ?_ _)); exact BK1132.out⟩, ⟨by (with_reducible repeat (first | refine kN ?_ _ | refine kD ?_ | refine kA ?_ _)); exact BK1133.out⟩, ⟨by (with_reducible repeat (first | refine kN ?_ _ | refine kD ?_ | refine kA ?_ _)); exact BK1142.out⟩, ⟨by repeat (first | (with_reducible first | exact HB.out | apply bA | apply bN | apply bD | refine below_set ?_ GE1132.out | refine below_set ?_ GE1133.out | refine below_set ?_ GE1142.out | refine below_set ?_ GE1144.out) | exact HB.out)⟩⟩
                            · rw [if_neg c69] at H
                              have c69b0 : (t1145.toList == (rdOf ByteArray.empty t1137 x57_2).toList) = false := beq_eq_false_iff_ne.mpr c69
                              have c69b1 : (t1145.toList != (rdOf ByteArray.empty t1137 x57_2).toList) = true := bne_iff_ne.mpr c69
                              obtain rfl := Option.some.inj H
                              have p1143 : 0 ≤ (x57_2 : Int) := of_decide_eq_true (by assumption)
                              have q1143 : x57_2 < (l1_3.length : Int) := of_decide_eq_true (by assumption)
                              obtain ⟨ad1143, A1143_3, c1143_3, e1143, hx1143_0, hx1143_1, hx1143_2, hx1143_3, hl1143_3, hi1143_3⟩ := at_T29 HR1_3.out x57_2 p1143 q1143
                              cases e1143
                              replace hx1143_0 := (HB.out.cell (World.block_lt_of_cell? w _ hx1143_0)).trans hx1143_0
                              replace hx1143_1 := (HB.out.cell (World.block_lt_of_cell? w _ hx1143_1)).trans hx1143_1
                              replace hx1143_2 := (HB.out.cell (World.block_lt_of_cell? w _ hx1143_2)).trans hx1143_2
                              replace hx1143_3 := (HB.out.cell (World.block_lt_of_cell? w _ hx1143_3)).trans hx1143_3
                              have HR1143_3 := Aside0.mk hi1143_3
                              have HC1143_3 := Aside0.mk hl1143_3
                              clear hi1143_3 hl1143_3
                              replace p1143 := eq_true p1143
                              replace q1143 := eq_true q1143
                              go_wp2_with (first | ((with_reducible refine gate_dst (N := 12) rfl ?_); (try (refine gate_guard (by rfl) ?_; dsimp only)); refine box_event ?hg (N := 12) ?hd (cs := #[.int .i64 0, .int .i64 0, .string (⟨#[]⟩ : ByteArray), .slice none 0 0]) (t := 29) ?hr ?_; (case hd => rfl); (case hg => rfl); (case hr => first | (go_simp; done) | (go_simp; rfl)); intro gb1144 hg w81 hbox hb; have n0_ := am (Kd.R_below (by (with_reducible repeat (first | apply rA | apply rN | apply rD)); exact HO_1143001.out) hb); have n1_ := am (blk_below (g := gb1132) (o := .cells #[.slice A0_0 l0_0.length c0_0, .slice A0_1 l0_1.length c0_1] 73 (0, 0)) (by (with_reducible repeat (first | refine kN ?_ _ | refine kD ?_ | refine kA ?_ _)); exact BK1132.out) hb); have n2_ := am (blk_below (g := gb1133) (o := .cells #[.int .i64 a1_0, .int .i64 a1_1, .string a1_2, .slice (some ad1143) l1_3.length c1_3] 29 (0, 0)) (by (with_reducible repeat (first | refine kN ?_ _ | refine kD ?_ | refine kA ?_ _)); exact BK1133.out) hb); have n3_ := am (blk_below (g := gb1142) (o := .cells #[.string t1136, .slice Ao43 t1137.length co43, .string t1140] 116 (0, 0)) (by (with_reducible repeat (first | refine kN ?_ _ | refine kD ?_ | refine kA ?_ _)); exact BK1142.out) hb); have n4_ := am (below_step (by repeat (first | (with_reducible first | exact HB.out | apply bA | apply bN | apply bD | refine below_set ?_ GE1132.out | refine below_set ?_ GE1133.out | refine below_set ?_ GE1142.out) | exact HB.out)) hb); have n5_ := am (hbox); have n6_ := am ((by rw [hg]; exact (below_size (by repeat (first | (with_reducible first | exact HB.out | apply bA | apply bN | apply bD | refine below_set ?_ GE1132.out | refine below_set ?_ GE1133.out | refine below_set ?_ GE1142.out) | exact HB.out))) : w.heap.size ≤ gb1144)); have n7_ := am ((by rw [hg]; exact (below_size (by repeat (first | (with_reducible first | exact HB.out | apply bA | apply bN | apply bD | refine below_set ?_ GE1132.out | refine below_set ?_ GE1133.out | refine below_set ?_ GE1142.out) | exact HB.out))) : w.heap.size ≤ gb1144)); have n8_ := am ((by rw [hg]; exact Nat.ne_of_lt (blk_lt (g := gb1132) (o := .cells #[.slice A0_0 l0_0.length c0_0, .slice A0_1 l0_1.length c0_1] 73 (0, 0)) (by (with_reducible repeat (first | refine kN ?_ _ | refine kD ?_ | refine kA ?_ _)); exact BK1132.out)) : gb1132 ≠ gb1144)); have n9_ := am ((by rw [hg]; exact Nat.ne_of_gt (blk_lt (g := gb1132) (o := .cells #[.slice A0_0 l0_0.length c0_0, .slice A0_1 l0_1.length c0_1] 73 (0, 0)) (by (with_reducible repeat (first | refine kN ?_ _ | refine kD ?_ | refine kA ?_ _)); exact BK1132.out)) : gb1144 ≠ gb1132)); have n10_ := am ((by rw [hg]; exact Nat.ne_of_lt (blk_lt (g := gb1133) (o := .cells #[.int .i64 a1_0, .int .i64 a1_1, .string a1_2, .slice (some ad1143) l1_3.length c1_3] 29 (0, 0)) (by (with_reducible repeat (first | refine kN ?_ _ | refine kD ?_ | refine kA ?_ _)); exact BK1133.out)) : gb1133 ≠ gb1144)); have n11_ := am ((by rw [hg]; exact Nat.ne_of_gt (blk_lt (g := gb1133) (o := .cells #[.int .i64 a1_0, .int .i64 a1_1, .string a1_2, .slice (some ad1143) l1_3.length c1_3] 29 (0, 0)) (by (with_reducible repeat (first | refine kN ?_ _ | refine kD ?_ | refine kA ?_ _)); exact BK1133.out)) : gb1144 ≠ gb1133)); have n12_ := am ((by rw [hg]; exact Nat.ne_of_lt (blk_lt (g := gb1142) (o := .cells #[.string t1136, .slice Ao43 t1137.length co43, .string t1140] 116 (0, 0)) (by (with_reducible repeat (first | refine kN ?_ _ | refine kD ?_ | refine kA ?_ _)); exact BK1142.out)) : gb1142 ≠ gb1144)); have n13_ := am ((by rw [hg]; exact Nat.ne_of_gt (blk_lt (g := gb1142) (o := .cells #[.string t1136, .slice Ao43 t1137.length co43, .string t1140] 116 (0, 0)) (by (with_reducible repeat (first | refine kN ?_ _ | refine kD ?_ | refine kA ?_ _)); exact BK1142.out)) : gb1144 ≠ gb1142)); clear HO_1143001; clear BK1132; clear BK1133; clear BK1142; clear HB; have HO_1143001 := n0_; have BK1132 := n1_; have BK1133 := n2_; have BK1142 := n3_; have HB := n4_; have BK1144 := n5_; have GW1144 := n6_; have GE1144 := n7_; have NB1132_1144 := n8_; have NB1144_1132 := n9_; have NB1133_1144 := n10_; have NB1144_1133 := n11_; have NB1142_1144 := n12_; have NB1144_1142 := n13_; clear n0_ n1_ n2_ n3_ n4_ n5_ n6_ n7_ n8_ n9_ n10_ n11_ n12_ n13_; clear hb hbox hg; have hnb82 := NB1144_1132.out; have hnc82 := NB1132_1144.out; have hnb83 := NB1144_1133.out; have hnc83 := NB1133_1144.out; have hnb84 := NB1144_1142.out; have hnc84 := NB1142_1144.out; have hcz85_0 : w81.cell? ⟨gb1144, 0, none⟩ = some (.int .i64 0) := (blk_cell BK1144.out 0).trans rfl; have hcz85_1 : w81.cell? ⟨gb1144, 1, none⟩ = some (.int .i64 0) := (blk_cell BK1144.out 1).trans rfl; have hcz85_2 : w81.cell? ⟨gb1144, 2, none⟩ = some (.string (⟨#[]⟩ : ByteArray)) := (blk_cell BK1144.out 2).trans rfl; have hcz85_3 : w81.cell? ⟨gb1144, 3, none⟩ = some (.slice none 0 0) := (blk_cell BK1144.out 3).trans rfl; have hfz85_0 := blk_frozen BK1144.out 0; have hfz85_1 := blk_frozen BK1144.out 1; have hfz85_2 := blk_frozen BK1144.out 2; have hfz85_3 := blk_frozen BK1144.out 3; have hnb86 := NB1132_1133.out; have hnc86 := NB1133_1132.out; have hnb87 := NB1132_1142.out; have hnc87 := NB1142_1132.out; have hcz88_0 : w81.cell? ⟨gb1132, 0, none⟩ = some (.slice A0_0 l0_0.length c0_0) := (blk_cell BK1132.out 0).trans rfl; have hcz88_1 : w81.cell? ⟨gb1132, 1, none⟩ = some (.slice A0_1 l0_1.length c0_1) := (blk_cell BK1132.out 1).trans rfl; have hfz88_0 := blk_frozen BK1132.out 0; have hfz88_1 := blk_frozen BK1132.out 1) | ((with_reducible refine gate_callee (f := 51) rfl ?_); refine goesL_ (some 65) rfl rfl Try.func51 (by kernel_rfl) rfl #[.agg #[.slice A0_0 l0_0.length c0_0, .slice A0_1 l0_1.length c0_1], .agg #[.int .i64 ((rd_T29 l1_3 x57_2).f0), .int .i64 ((rd_T29 l1_3 x57_2).f1), .string ((rd_T29 l1_3 x57_2).f2), .slice A1143_3 ((rd_T29 l1_3 x57_2).f3).length c1143_3], .slice A2 l2.length c2] rfl (by (try simp only [List.map_toArray, List.map_cons, List.map_nil]); first | done | rfl | (simp only [List.length_drop, List.length_take]; rfl)) ?_; (with_reducible refine (ih k2 (by have := HJ31.out; have := HK2.out; omega) _ _ l0_0 _ _ l0_1 ((rd_T29 l1_3 x57_2).f0) ((rd_T29 l1_3 x57_2).f1) ((rd_T29 l1_3 x57_2).f2) _ _ ((rd_T29 l1_3 x57_2).f3) _ _ l2 t1145 _ ?side1 ?side2 ?side3 ?side4 ?side5 ?side6 ?side7 ?side8 A57.out).mono ?_); (case side1 => exact Kd.C_below HR0_0.out (by repeat (first | (with_reducible first | exact HB.out | apply bA | apply bN | apply bD | refine below_set ?_ GE1132.out | refine below_set ?_ GE1133.out | refine below_set ?_ GE1142.out | refine below_set ?_ GE1144.out) | exact HB.out))); (case side2 => exact HC0_0.out); (case side3 => exact Kd.C_below HR0_1.out (by repeat (first | (with_reducible first | exact HB.out | apply bA | apply bN | apply bD | refine below_set ?_ GE1132.out | refine below_set ?_ GE1133.out | refine below_set ?_ GE1142.out | refine below_set ?_ GE1144.out) | exact HB.out))); (case side4 => exact HC0_1.out); (case side5 => exact Kd.C_below HR1143_3.out (by repeat (first | (with_reducible first | exact HB.out | apply bA | apply bN | apply bD | refine below_set ?_ GE1132.out | refine below_set ?_ GE1133.out | refine below_set ?_ GE1142.out | refine below_set ?_ GE1144.out) | exact HB.out))); (case side6 => exact HC1143_3.out); (case side7 => exact Kd.C_below HR2.out (by repeat (first | (with_reducible first | exact HB.out | apply bA | apply bN | apply bD | refine below_set ?_ GE1132.out | refine below_set ?_ GE1133.out | refine below_set ?_ GE1142.out | refine below_set ?_ GE1144.out) | exact HB.out))); (case side8 => exact HC2.out); rintro e w89 ⟨rfl, hb⟩; refine ⟨_, rfl, ?_⟩; have n0_ := am (Kd.R_below (by (with_reducible repeat (first | apply rA | apply rN | apply rD)); exact (Kd.R_mono (Kd.R_far (p := ⟨gb1144, 3, none⟩) (Kd.R_far (p := ⟨gb1144, 2, none⟩) (Kd.R_far (p := ⟨gb1144, 1, none⟩) (Kd.R_far (p := ⟨gb1144, 0, none⟩) (Kd.R_types HO_1143001.out BK1144.out (by decide)) (fun _ hk => hk.2) (.int .i64 ((rd_T29 l1_3 x57_2).f0))) (fun _ hk => hk.2) (.int .i64 ((rd_T29 l1_3 x57_2).f1))) (fun _ hk => hk.2) (.string ((rd_T29 l1_3 x57_2).f2))) (fun _ hk => hk.2) (.slice A1143_3 ((rd_T29 l1_3 x57_2).f3).length c1143_3)) (fun _ h_ => h_.1))) hb); have n1_ := am (blk_below (g := gb1132) (o := .cells #[.slice A0_0 l0_0.length c0_0, .slice A0_1 l0_1.length c0_1] 73 (0, 0)) (by (with_reducible repeat (first | refine kN ?_ _ | refine kD ?_ | refine kA ?_ _)); refine blk_far ?_ NB1132_1144.out _; (with_reducible repeat (first | refine kN ?_ _ | refine kD ?_ | refine kA ?_ _)); refine blk_far ?_ NB1132_1144.out _; (with_reducible repeat (first | refine kN ?_ _ | refine kD ?_ | refine kA ?_ _)); refine blk_far ?_ NB1132_1144.out _; (with_reducible repeat (first | refine kN ?_ _ | refine kD ?_ | refine kA ?_ _)); refine blk_far ?_ NB1132_1144.out _; (with_reducible repeat (first | refine kN ?_ _ | refine kD ?_ | refine kA ?_ _)); exact BK1132.out) hb); have n2_ := am (blk_below (g := gb1133) (o := .cells #[.int .i64 a1_0, .int .i64 a1_1, .string a1_2, .slice (some ad1143) l1_3.length c1_3] 29 (0, 0)) (by (with_reducible repeat (first | refine kN ?_ _ | refine kD ?_ | refine kA ?_ _)); refine blk_far ?_ NB1133_1144.out _; (with_reducible repeat (first | refine kN ?_ _ | refine kD ?_ | refine kA ?_ _)); refine blk_far ?_ NB1133_1144.out _; (with_reducible repeat (first | refine kN ?_ _ | refine kD ?_ | refine kA ?_ _)); refine blk_far ?_ NB1133_1144.out _; (with_reducible repeat (first | refine kN ?_ _ | refine kD ?_ | refine kA ?_ _)); refine blk_far ?_ NB1133_1144.out _; (with_reducible repeat (first | refine kN ?_ _ | refine kD ?_ | refine kA ?_ _)); exact BK1133.out) hb); have n3_ := am (blk_below (g := gb1142) (o := .cells #[.string t1136, .slice Ao43 t1137.length co43, .string t1140] 116 (0, 0)) (by (with_reducible repeat (first | refine kN ?_ _ | refine kD ?_ | refine kA ?_ _)); refine blk_far ?_ NB1142_1144.out _; (with_reducible repeat (first | refine kN ?_ _ | refine kD ?_ | refine kA ?_ _)); refine blk_far ?_ NB1142_1144.out _; (with_reducible repeat (first | refine kN ?_ _ | refine kD ?_ | refine kA ?_ _)); refine blk_far ?_ NB1142_1144.out _; (with_reducible repeat (first | refine kN ?_ _ | refine kD ?_ | refine kA ?_ _)); refine blk_far ?_ NB1142_1144.out _; (with_reducible repeat (first | refine kN ?_ _ | refine kD ?_ | refine kA ?_ _)); exact BK1142.out) hb); have n4_ := am (blk_below (g := gb1144) (o := .cells #[.int .i64 ((rd_T29 l1_3 x57_2).f0), .int .i64 ((rd_T29 l1_3 x57_2).f1), .string ((rd_T29 l1_3 x57_2).f2), .slice A1143_3 ((rd_T29 l1_3 x57_2).f3).length c1143_3] 29 (0, 0)) (by (with_reducible repeat (first | refine kN ?_ _ | refine kD ?_ | refine kA ?_ _)); refine blk_put (cs := #[.int .i64 ((rd_T29 l1_3 x57_2).f0), .int .i64 ((rd_T29 l1_3 x57_2).f1), .string ((rd_T29 l1_3 x57_2).f2), .slice none 0 0]) ?_ 3 _ rfl; (with_reducible repeat (first | refine kN ?_ _ | refine kD ?_ | refine kA ?_ _)); refine blk_put (cs := #[.int .i64 ((rd_T29 l1_3 x57_2).f0), .int .i64 ((rd_T29 l1_3 x57_2).f1), .string (⟨#[]⟩ : ByteArray), .slice none 0 0]) ?_ 2 _ rfl; (with_reducible repeat (first | refine kN ?_ _ | refine kD ?_ | refine kA ?_ _)); refine blk_put (cs := #[.int .i64 ((rd_T29 l1_3 x57_2).f0), .int .i64 0, .string (⟨#[]⟩ : ByteArray), .slice none 0 0]) ?_ 1 _ rfl; (with_reducible repeat (first | refine kN ?_ _ | refine kD ?_ | refine kA ?_ _)); refine blk_put (cs := #[.int .i64 0, .int .i64 0, .string (⟨#[]⟩ : ByteArray), .slice none 0 0]) ?_ 0 _ rfl; (with_reducible repeat (first | refine kN ?_ _ | refine kD ?_ | refine kA ?_ _)); exact BK1144.out) hb); have n5_ := am (below_step (by repeat (first | (with_reducible first | exact HB.out | apply bA | apply bN | apply bD | refine below_set ?_ GE1132.out | refine below_set ?_ GE1133.out | refine below_set ?_ GE1142.out | refine below_set ?_ GE1144.out) | exact HB.out)) hb); clear HO_1143001; clear BK1132; clear BK1133; clear BK1142; clear BK1144; clear HB; have HO_1143001 := n0_; have BK1132 := n1_; have BK1133 := n2_; have BK1142 := n3_; have BK1144 := n4_; have HB := n5_; clear n0_ n1_ n2_ n3_ n4_ n5_; have hnb90 := NB1142_1133.out; have hnc90 := NB1133_1142.out; have hcz91_0 : w89.cell? ⟨gb1142, 0, none⟩ = some (.string t1136) := (blk_cell BK1142.out 0).trans rfl; have hcz91_1 : w89.cell? ⟨gb1142, 1, none⟩ = some (.slice Ao43 t1137.length co43) := (blk_cell BK1142.out 1).trans rfl; have hcz91_2 : w89.cell? ⟨gb1142, 2, none⟩ = some (.string t1140) := (blk_cell BK1142.out 2).trans rfl; have hfz91_0 := blk_frozen BK1142.out 0; have hfz91_1 := blk_frozen BK1142.out 1; have hfz91_2 := blk_frozen BK1142.out 2; have p1146 : 0 ≤ (x57_2 : Int) := of_decide_eq_true (by assumption); have q1146 : x57_2 < (t1137.length : Int) := of_decide_eq_true (by assumption); obtain ⟨ad1146, e1146, hx1146_0⟩ := Kd.at_string (Kd.R_reads' HO_1143001.out).2.2 x57_2 p1146 q1146; cases e1146; replace p1146 := eq_true p1146; replace q1146 := eq_true q1146))
                              go_ret
                              exact ⟨by first | rfl | (simp [errW_none, errW_some] <;> rfl) | (simp [*, errW_none, errW_some] <;> rfl), by repeat (first | (with_reducible first | exact HB.out | apply bA | apply bN | apply bD | refine below_set ?_ GE1132.out | refine below_set ?_ GE1133.out | refine below_set ?_ GE1142.out | refine below_set ?_ GE1144.out) | exact HB.out)⟩
                          · rw [if_neg c68] at H
                            exact absurd H (by simp)
                      · rw [if_neg c56] at H
                        exact absurd H (by simp)
                    · rw [if_neg c55] at H
                      exact absurd H (by simp)
                  · rw [if_neg c54] at H
                    have c54b0 : decide (x57_2 < (l1_3.length : Int)) = false := decide_eq_false c54
                    clear c54
                    obtain rfl := Option.some.inj H
                    have hnb92 := NB1142_1132.out
                    have hnc92 := NB1132_1142.out
                    have hnb93 := NB1142_1133.out
                    have hnc93 := NB1133_1142.out
                    have hcz94_0 : wr.cell? ⟨gb1142, 0, none⟩ = some (.string t1136) := (blk_cell BK1142.out 0).trans rfl
                    have hcz94_1 : wr.cell? ⟨gb1142, 1, none⟩ = some (.slice Ao43 t1137.length co43) := (blk_cell BK1142.out 1).trans rfl
                    have hcz94_2 : wr.cell? ⟨gb1142, 2, none⟩ = some (.string t1140) := (blk_cell BK1142.out 2).trans rfl
                    have hfz94_0 := blk_frozen BK1142.out 0
                    have hfz94_1 := blk_frozen BK1142.out 1
                    have hfz94_2 := blk_frozen BK1142.out 2
                    go_wp2
                    go_ret
                    exact ⟨by first | rfl | (simp [errW_none, errW_some] <;> rfl) | (simp [*, errW_none, errW_some] <;> rfl), by repeat (first | (with_reducible first | exact HB.out | apply bA | apply bN | apply bD | refine below_set ?_ GE1132.out | refine below_set ?_ GE1133.out | refine below_set ?_ GE1142.out) | exact HB.out)⟩
      · rw [if_neg c30] at H
        have c30b0 : (a1_0 == 2) = false := beq_eq_false_iff_ne.mpr c30
        have c30b1 : (a1_0 != 2) = true := bne_iff_ne.mpr c30
        obtain rfl := Option.some.inj H
        go_enter Try.func51, Try.ntmps51
        go_wp2_with (first | ((with_reducible refine gate_dst (N := 3) rfl ?_); (try (refine gate_guard (by rfl) ?_; dsimp only)); refine box_event ?hg (N := 3) ?hd (cs := #[.slice A0_0 l0_0.length c0_0, .slice A0_1 l0_1.length c0_1]) (t := 73) ?hr ?_; (case hd => rfl); (case hg => rfl); (case hr => first | (go_simp; done) | (go_simp; rfl)); intro gb1132 hg w95 hbox hb; have n0_ := am (below_step (by repeat (first | (with_reducible first | exact HB.out | apply bA | apply bN | apply bD) | exact HB.out)) hb); have n1_ := am (hbox); have n2_ := am ((by rw [hg]; exact (below_size (by repeat (first | (with_reducible first | exact HB.out | apply bA | apply bN | apply bD) | exact HB.out))) : w.heap.size ≤ gb1132)); have n3_ := am ((by rw [hg]; exact (below_size (by repeat (first | (with_reducible first | exact HB.out | apply bA | apply bN | apply bD) | exact HB.out))) : w.heap.size ≤ gb1132)); clear HB; have HB := n0_; have BK1132 := n1_; have GW1132 := n2_; have GE1132 := n3_; clear n0_ n1_ n2_ n3_; clear hb hbox hg) | ((with_reducible refine gate_dst (N := 4) rfl ?_); (try (refine gate_guard (by rfl) ?_; dsimp only)); refine box_event ?hg (N := 4) ?hd (cs := #[.int .i64 a1_0, .int .i64 a1_1, .string a1_2, .slice A1_3 l1_3.length c1_3]) (t := 29) ?hr ?_; (case hd => rfl); (case hg => rfl); (case hr => first | (go_simp; done) | (go_simp; rfl)); intro gb1133 hg w96 hbox hb; have n0_ := am (blk_below (g := gb1132) (o := .cells #[.slice A0_0 l0_0.length c0_0, .slice A0_1 l0_1.length c0_1] 73 (0, 0)) (by (with_reducible repeat (first | refine kN ?_ _ | refine kD ?_ | refine kA ?_ _)); exact BK1132.out) hb); have n1_ := am (below_step (by repeat (first | (with_reducible first | exact HB.out | apply bA | apply bN | apply bD | refine below_set ?_ GE1132.out) | exact HB.out)) hb); have n2_ := am (hbox); have n3_ := am ((by rw [hg]; exact (below_size (by repeat (first | (with_reducible first | exact HB.out | apply bA | apply bN | apply bD | refine below_set ?_ GE1132.out) | exact HB.out))) : w.heap.size ≤ gb1133)); have n4_ := am ((by rw [hg]; exact (below_size (by repeat (first | (with_reducible first | exact HB.out | apply bA | apply bN | apply bD | refine below_set ?_ GE1132.out) | exact HB.out))) : w.heap.size ≤ gb1133)); have n5_ := am ((by rw [hg]; exact Nat.ne_of_lt (blk_lt (g := gb1132) (o := .cells #[.slice A0_0 l0_0.length c0_0, .slice A0_1 l0_1.length c0_1] 73 (0, 0)) (by (with_reducible repeat (first | refine kN ?_ _ | refine kD ?_ | refine kA ?_ _)); exact BK1132.out)) : gb1132 ≠ gb1133)); have n6_ := am ((by rw [hg]; exact Nat.ne_of_gt (blk_lt (g := gb1132) (o := .cells #[.slice A0_0 l0_0.length c0_0, .slice A0_1 l0_1.length c0_1] 73 (0, 0)) (by (with_reducible repeat (first | refine kN ?_ _ | refine kD ?_ | refine kA ?_ _)); exact BK1132.out)) : gb1133 ≠ gb1132)); clear BK1132; clear HB; have BK1132 := n0_; have HB := n1_; have BK1133 := n2_; have GW1133 := n3_; have GE1133 := n4_; have NB1132_1133 := n5_; have NB1133_1132 := n6_; clear n0_ n1_ n2_ n3_ n4_ n5_ n6_; clear hb hbox hg; have hnb97 := NB1133_1132.out; have hnc97 := NB1132_1133.out; have hcz98_0 : w96.cell? ⟨gb1133, 0, none⟩ = some (.int .i64 a1_0) := (blk_cell BK1133.out 0).trans rfl; have hcz98_1 : w96.cell? ⟨gb1133, 1, none⟩ = some (.int .i64 a1_1) := (blk_cell BK1133.out 1).trans rfl; have hcz98_2 : w96.cell? ⟨gb1133, 2, none⟩ = some (.string a1_2) := (blk_cell BK1133.out 2).trans rfl; have hcz98_3 : w96.cell? ⟨gb1133, 3, none⟩ = some (.slice A1_3 l1_3.length c1_3) := (blk_cell BK1133.out 3).trans rfl; have hfz98_0 := blk_frozen BK1133.out 0; have hfz98_1 := blk_frozen BK1133.out 1; have hfz98_2 := blk_frozen BK1133.out 2; have hfz98_3 := blk_frozen BK1133.out 3))
        go_ret
        exact ⟨by first | rfl | (simp [errW_none, errW_some] <;> rfl) | (simp [*, errW_none, errW_some] <;> rfl), by repeat (first | (with_reducible first | exact HB.out | apply bA | apply bN | apply bD | refine below_set ?_ GE1132.out | refine below_set ?_ GE1133.out) | exact HB.out)⟩

end Go.Proofs.Ytdgjddkibiffnaa.F
namespace Go.Proofs.Ytdgjddkibiffnaa.F
open Go.RowKit Go.Proofs.YtdgjddkibiffnaaW.PrintWords Go.Proofs.YtdgjddkibiffnaaW.PrintLast Go.Proofs.YtdgjddkibiffnaaW.PrintMore
attribute [local go_sem] binOp_string_gtr_ binOp_string_geq_ binOp_string_leq_ max2_int min2_int max_two min_two max_three min_three max_four min_four   -- for this text's walks alone
set_option linter.unusedVariables false
set_option linter.unusedSimpArgs false

/-! ### laws_eqStringS: function 58 -/
def laws_eqStringS.l0 : Nat → List ByteArray → List ByteArray → Int → Option (Bool)
  | 0, _, _, _ => none
  | k + 1, x0, x1, x5 => if x5 < (x0.length : Int) then (if 0 ≤ x5 then (if x5 < (x1.length : Int) then (if (rdOf ByteArray.empty x0 x5).toList = (rdOf ByteArray.empty x1 x5).toList then (laws_eqStringS.l0 k x0 x1 (wrap64 (x5 + 1))) else (some false)) else (none)) else (none)) else (some true)
def laws_eqStringS.f (k : Nat) (l0 : List ByteArray) (l1 : List ByteArray) : Option (Bool) := if (l0.length : Int) = (l1.length : Int) then (laws_eqStringS.l0 k l0 l1 0) else (some false)
set_option maxHeartbeats 8000000 in
set_option maxRecDepth 100000 in
theorem laws_eqStringS.calls (k : Nat) (A0 : Option Addr) (c0 : Nat) (l0 : List ByteArray) (A1 : Option Addr) (c1 : Nat) (l1 : List ByteArray) (r : Bool) (w : World) (hr0 : Kd.C Kd.string w A0 l0.length l0) (hc0 : l0.length ≤ c0) (hr1 : Kd.C Kd.string w A1 l1.length l1) (hc1 : l1.length ≤ c1) (h : laws_eqStringS.f k l0 l1 = some r) :
    Calls Try.prog 58 #[.slice A0 l0.length c0, .slice A1 l1.length c1] w fun e w' => e = .returned (.bool r) ∧ Drawn0 w w' := by
  have HR0 := Aside0.mk hr0
  have HC0 := Aside0.mk hc0
  clear hr0 hc0
  have HR1 := Aside0.mk hr1
  have HC1 := Aside0.mk hc1
  clear hr1 hc1
  have H : (if (l0.length : Int) = (l1.length : Int) then (laws_eqStringS.l0 k l0 l1 0) else (some false)) = some r := h
  clear h
  by_cases c3 : (l0.length : Int) = (l1.length : Int)
  · rw [if_pos c3] at H
    have c3b0 : ((l0.length : Int) == (l1.length : Int)) = true := beq_iff_eq.mpr c3
    have c3b1 : ((l0.length : Int) != (l1.length : Int)) = false := bne_eq_false_iff_eq.mpr c3
    have c3b2 : (l0.length == l1.length) = true := by first | simpa using c3 | (simp at c3 ⊢; omega)
    clear c3
    have H' := Aside0.mk H
    clear H
    go_enter Try.func58, Try.ntmps58
    go_wp2
    repeat (go_quiet (fail); try go_wp2)
    go_loopg [5] k (fun kq v5 w' => ∃ (x5_1 : Int), v5 = .int .i64 x5_1 ∧ Aside0 (laws_eqStringS.l0 kq l0 l1 x5_1 = some r) ∧ Aside0 (kq ≤ k) ∧ Drawn0 w w')
    case atStart => exact ⟨(0), (by first | rfl | (simp; done) | (simp [*]; done)), H', ⟨Nat.le_refl _⟩, by repeat (first | exact Drawn0.refl _ | apply Drawn0.step)⟩
    case round =>
      clear H'
      obtain ⟨x5_1, rfl, HA, HK1, ⟨m1, rfl⟩⟩ := hrel
      cases gk with
      | zero => exact absurd HA.out (by simp [laws_eqStringS.l0])
      | succ k1 =>
        have H := HA.out
        clear HA
        simp only [laws_eqStringS.l0] at H
        by_cases c4 : x5_1 < (l0.length : Int)
        · rw [if_pos c4] at H
          have c4b0 : decide (x5_1 < (l0.length : Int)) = true := decide_eq_true c4
          clear c4
          by_cases c5 : 0 ≤ x5_1
          · rw [if_pos c5] at H
            have c5b0 : decide (0 ≤ x5_1) = true := decide_eq_true c5
            clear c5
            by_cases c6 : x5_1 < (l1.length : Int)
            · rw [if_pos c6] at H
              have c6b0 : decide (x5_1 < (l1.length : Int)) = true := decide_eq_true c6
              clear c6
              by_cases c7 : (rdOf ByteArray.empty l0 x5_1).toList = (rdOf ByteArray.empty l1 x5_1).toList
              · rw [if_pos c7] at H
                have c7b0 : ((rdOf ByteArray.empty l0 x5_1).toList == (rdOf ByteArray.empty l1 x5_1).toList) = true := beq_iff_eq.mpr c7
                have c7b1 : ((rdOf ByteArray.empty l0 x5_1).toList != (rdOf ByteArray.empty l1 x5_1).toList) = false := bne_eq_false_iff_eq.mpr c7
                clear c7
                have H' := Aside0.mk H
                clear H
                have p1147 : 0 ≤ (x5_1 : Int) := of_decide_eq_true (by assumption)
                have q1147 : x5_1 < (l0.length : Int) := of_decide_eq_true (by assumption)
                obtain ⟨ad1147, e1147, hx1147_0⟩ := Kd.at_string HR0.out x5_1 p1147 q1147
                cases e1147
                replace p1147 := eq_true p1147
                replace q1147 := eq_true q1147
                have p1148 : 0 ≤ (x5_1 : Int) := of_decide_eq_true (by assumption)
                have q1148 : x5_1 < (l1.length : Int) := of_decide_eq_true (by assumption)
                obtain ⟨ad1148, e1148, hx1148_0⟩ := Kd.at_string HR1.out x5_1 p1148 q1148
                cases e1148
                replace p1148 := eq_true p1148
                replace q1148 := eq_true q1148
                go_wp2
                repeat (go_quiet (fail); try go_wp2)
                go_roundg k1
                case measure => have := HK1.out; omega
                case rel => exact ⟨(wrap64 (x5_1 + 1)), (by first | rfl | (simp; done) | (simp [*]; done)), H', ⟨by have := HK1.out; omega⟩, by repeat (first | exact Drawn0.refl _ | apply Drawn0.step)⟩
              · rw [if_neg c7] at H
                have c7b0 : ((rdOf ByteArray.empty l0 x5_1).toList == (rdOf ByteArray.empty l1 x5_1).toList) = false := beq_eq_false_iff_ne.mpr c7
                have c7b1 : ((rdOf ByteArray.empty l0 x5_1).toList != (rdOf ByteArray.empty l1 x5_1).toList) = true := bne_iff_ne.mpr c7
                obtain rfl := Option.some.inj H
                have p1147 : 0 ≤ (x5_1 : Int) := of_decide_eq_true (by assumption)
                have q1147 : x5_1 < (l0.length : Int) := of_decide_eq_true (by assumption)
                obtain ⟨ad1147, e1147, hx1147_0⟩ := Kd.at_string HR0.out x5_1 p1147 q1147
                cases e1147
                replace p1147 := eq_true p1147
                replace q1147 := eq_true q1147
                have p1148 : 0 ≤ (x5_1 : Int) := of_decide_eq_true (by assumption)
                have q1148 : x5_1 < (l1.length : Int) := of_decide_eq_true (by assumption)
                obtain ⟨ad1148, e1148, hx1148_0⟩ := Kd.at_string HR1.out x5_1 p1148 q1148
                cases e1148
                replace p1148 := eq_true p1148
                replace q1148 := eq_true q1148
                go_wp2
                repeat (go_quiet (fail); try go_wp2)
                go_ret
                exact ⟨by first | rfl | (simp; done) | (simp [*]; done), by repeat (first | exact Drawn0.refl _ | apply Drawn0.step)⟩
            · rw [if_neg c6] at H
              exact absurd H (by simp)
          · rw [if_neg c5] at H
            exact absurd H (by simp)
        · rw [if_neg c4] at H
          have c4b0 : decide (x5_1 < (l0.length : Int)) = false := decide_eq_false c4
          clear c4
          obtain rfl := Option.some.inj H
          go_wp2
          repeat (go_quiet (fail); try go_wp2)
          go_ret
          exact ⟨by first | rfl | (simp; done) | (simp [*]; done), by repeat (first | exact Drawn0.refl _ | apply Drawn0.step)⟩
  · rw [if_neg c3] at H
    have c3b0 : ((l0.length : Int) == (l1.length : Int)) = false := beq_eq_false_iff_ne.mpr c3
    have c3b1 : ((l0.length : Int) != (l1.length : Int)) = true := bne_iff_ne.mpr c3
    have c3b2 : (l0.length == l1.length) = false := by first | simpa using c3 | (simp at c3 ⊢; omega)
    obtain rfl := Option.some.inj H
    go_enter Try.func58, Try.ntmps58
    go_wp2
    repeat (go_quiet (fail); try go_wp2)
    go_ret
    exact ⟨by first | rfl | (simp; done) | (simp [*]; done), by repeat (first | exact Drawn0.refl _ | apply Drawn0.step)⟩

end Go.Proofs.Ytdgjddkibiffnaa.F
namespace Go.Proofs.Ytdgjddkibiffnaa.F
open Go.RowKit Go.Proofs.YtdgjddkibiffnaaW.PrintWords Go.Proofs.YtdgjddkibiffnaaW.PrintLast Go.Proofs.YtdgjddkibiffnaaW.PrintMore
attribute [local go_sem] binOp_string_gtr_ binOp_string_geq_ binOp_string_leq_ max2_int min2_int max_two min_two max_three min_three max_four min_four   -- for this text's walks alone
set_option linter.unusedVariables false
set_option linter.unusedSimpArgs false

/-! ### laws_eqOp: function 127 -/
def laws_eqOp.f (k : Nat) (a0_0 : ByteArray) (l0_1 : List ByteArray) (a0_2 : ByteArray) (a1_0 : ByteArray) (l1_1 : List ByteArray) (a1_2 : ByteArray) : Option (Bool) := if a0_0.toList = a1_0.toList then ((laws_eqStringS.f k l0_1 l1_1).bind fun t1151 => (if t1151 = true then (if a0_2.toList = a1_2.toList then (some true) else (some false)) else (some false))) else (some false)
set_option maxHeartbeats 8000000 in
set_option maxRecDepth 100000 in
theorem laws_eqOp.calls (k : Nat) (a0_0 : ByteArray) (A0_1 : Option Addr) (c0_1 : Nat) (l0_1 : List ByteArray) (a0_2 : ByteArray) (a1_0 : ByteArray) (A1_1 : Option Addr) (c1_1 : Nat) (l1_1 : List ByteArray) (a1_2 : ByteArray) (r : Bool) (w : World) (hr0_1 : Kd.C Kd.string w A0_1 l0_1.length l0_1) (hc0_1 : l0_1.length ≤ c0_1) (hr1_1 : Kd.C Kd.string w A1_1 l1_1.length l1_1) (hc1_1 : l1_1.length ≤ c1_1) (h : laws_eqOp.f k a0_0 l0_1 a0_2 a1_0 l1_1 a1_2 = some r) :
    Calls Try.prog 127 #[.agg #[.string a0_0, .slice A0_1 l0_1.length c0_1, .string a0_2], .agg #[.string a1_0, .slice A1_1 l1_1.length c1_1, .string a1_2]] w fun e w' => e = .returned (.bool r) ∧ Below w.heap.size w w' := by
  have hu116 := Try.underlying116
  have HR0_1 := Aside0.mk hr0_1
  have HC0_1 := Aside0.mk hc0_1
  clear hr0_1 hc0_1
  have HR1_1 := Aside0.mk hr1_1
  have HC1_1 := Aside0.mk hc1_1
  clear hr1_1 hc1_1
  have HB := am (Below.refl w.heap.size w)
  have H : (if a0_0.toList = a1_0.toList then ((laws_eqStringS.f k l0_1 l1_1).bind fun t1151 => (if t1151 = true then (if a0_2.toList = a1_2.toList then (some true) else (some false)) else (some false))) else (some false)) = some r := h
  clear h
  by_cases c3 : a0_0.toList = a1_0.toList
  · rw [if_pos c3] at H
    have c3b0 : (a0_0.toList == a1_0.toList) = true := beq_iff_eq.mpr c3
    have c3b1 : (a0_0.toList != a1_0.toList) = false := bne_eq_false_iff_eq.mpr c3
    clear c3
    replace H := Option.bind_eq_some_iff.mp H
    obtain ⟨t1151, A40, H⟩ := H
    try dsimp only at H
    have A4 := Aside0.mk A40
    clear A40
    by_cases c5 : t1151 = true
    · subst c5
      have H1 : (if a0_2.toList = a1_2.toList then (some true) else (some false)) = some r := by first | with_reducible rfl | (rw [if_pos rfl] at H; exact H)
      clear H
      have H := H1
      clear H1
      by_cases c6 : a0_2.toList = a1_2.toList
      · rw [if_pos c6] at H
        have c6b0 : (a0_2.toList == a1_2.toList) = true := beq_iff_eq.mpr c6
        have c6b1 : (a0_2.toList != a1_2.toList) = false := bne_eq_false_iff_eq.mpr c6
        clear c6
        obtain rfl := Option.some.inj H
        go_enter Try.func127, Try.ntmps127
        go_wp2_with (first | ((with_reducible refine gate_dst (N := 2) rfl ?_); refine box_event ?hg (N := 2) ?hd (cs := #[.string a0_0, .slice A0_1 l0_1.length c0_1, .string a0_2]) (t := 116) ?hr ?_; (case hd => rfl); (case hg => rfl); (case hr => first | (go_simp; done) | (go_simp; rfl)); intro gb1149 hg w7 hbox hb; have n0_ := am (below_step (by repeat (first | (with_reducible first | exact HB.out | apply bA | apply bN | apply bD) | exact HB.out)) hb); have n1_ := am (hbox); have n2_ := am ((by rw [hg]; exact (below_size (by repeat (first | (with_reducible first | exact HB.out | apply bA | apply bN | apply bD) | exact HB.out))) : w.heap.size ≤ gb1149)); have n3_ := am ((by rw [hg]; exact (below_size (by repeat (first | (with_reducible first | exact HB.out | apply bA | apply bN | apply bD) | exact HB.out))) : w.heap.size ≤ gb1149)); clear HB; have HB := n0_; have BK1149 := n1_; have GW1149 := n2_; have GE1149 := n3_; clear n0_ n1_ n2_ n3_; clear hb hbox hg) | ((with_reducible refine gate_dst (N := 3) rfl ?_); refine box_event ?hg (N := 3) ?hd (cs := #[.string a1_0, .slice A1_1 l1_1.length c1_1, .string a1_2]) (t := 116) ?hr ?_; (case hd => rfl); (case hg => rfl); (case hr => first | (go_simp; done) | (go_simp; rfl)); intro gb1150 hg w8 hbox hb; have n0_ := am (blk_below (g := gb1149) (o := .cells #[.string a0_0, .slice A0_1 l0_1.length c0_1, .string a0_2] 116 (0, 0)) (by (with_reducible repeat (first | refine kN ?_ _ | refine kD ?_ | refine kA ?_ _)); exact BK1149.out) hb); have n1_ := am (below_step (by repeat (first | (with_reducible first | exact HB.out | apply bA | apply bN | apply bD | refine below_set ?_ GE1149.out) | exact HB.out)) hb); have n2_ := am (hbox); have n3_ := am ((by rw [hg]; exact (below_size (by repeat (first | (with_reducible first | exact HB.out | apply bA | apply bN | apply bD | refine below_set ?_ GE1149.out) | exact HB.out))) : w.heap.size ≤ gb1150)); have n4_ := am ((by rw [hg]; exact (below_size (by repeat (first | (with_reducible first | exact HB.out | apply bA | apply bN | apply bD | refine below_set ?_ GE1149.out) | exact HB.out))) : w.heap.size ≤ gb1150)); have n5_ := am ((by rw [hg]; exact Nat.ne_of_lt (blk_lt (g := gb1149) (o := .cells #[.string a0_0, .slice A0_1 l0_1.length c0_1, .string a0_2] 116 (0, 0)) (by (with_reducible repeat (first | refine kN ?_ _ | refine kD ?_ | refine kA ?_ _)); exact BK1149.out)) : gb1149 ≠ gb1150)); have n6_ := am ((by rw [hg]; exact Nat.ne_of_gt (blk_lt (g := gb1149) (o := .cells #[.string a0_0, .slice A0_1 l0_1.length c0_1, .string a0_2] 116 (0, 0)) (by (with_reducible repeat (first | refine kN ?_ _ | refine kD ?_ | refine kA ?_ _)); exact BK1149.out)) : gb1150 ≠ gb1149)); clear BK1149; clear HB; have BK1149 := n0_; have HB := n1_; have BK1150 := n2_; have GW1150 := n3_; have GE1150 := n4_; have NB1149_1150 := n5_; have NB1150_1149 := n6_; clear n0_ n1_ n2_ n3_ n4_ n5_ n6_; clear hb hbox hg; have hnb9 := NB1149_1150.out; have hnc9 := NB1150_1149.out; have hcz10_0 : w8.cell? ⟨gb1149, 0, none⟩ = some (.string a0_0) := (blk_cell BK1149.out 0).trans rfl; have hcz10_1 : w8.cell? ⟨gb1149, 1, none⟩ = some (.slice A0_1 l0_1.length c0_1) := (blk_cell BK1149.out 1).trans rfl; have hcz10_2 : w8.cell? ⟨gb1149, 2, none⟩ = some (.string a0_2) := (blk_cell BK1149.out 2).trans rfl; have hfz10_0 := blk_frozen BK1149.out 0; have hfz10_1 := blk_frozen BK1149.out 1; have hfz10_2 := blk_frozen BK1149.out 2; have hcz11_0 : w8.cell? ⟨gb1150, 0, none⟩ = some (.string a1_0) := (blk_cell BK1150.out 0).trans rfl; have hcz11_1 : w8.cell? ⟨gb1150, 1, none⟩ = some (.slice A1_1 l1_1.length c1_1) := (blk_cell BK1150.out 1).trans rfl; have hcz11_2 : w8.cell? ⟨gb1150, 2, none⟩ = some (.string a1_2) := (blk_cell BK1150.out 2).trans rfl; have hfz11_0 := blk_frozen BK1150.out 0; have hfz11_1 := blk_frozen BK1150.out 1; have hfz11_2 := blk_frozen BK1150.out 2) | ((with_reducible refine gate_callee (f := 58) rfl ?_); refine goesL_ (some 14) rfl rfl Try.func58 (by kernel_rfl) rfl #[.slice A0_1 l0_1.length c0_1, .slice A1_1 l1_1.length c1_1] rfl (by (try simp only [List.map_toArray, List.map_cons, List.map_nil]); first | done | rfl | (simp only [List.length_drop, List.length_take]; rfl)) ?_; (with_reducible refine (laws_eqStringS.calls k _ _ l0_1 _ _ l1_1 true _ ?side1 ?side2 ?side3 ?side4 A4.out).mono ?_); (case side1 => repeat (first | exact (Kd.C_below HR0_1.out HB.out) | (with_reducible refine cA ?_ _) | (with_reducible refine cN ?_ _) | (with_reducible refine cD ?_))); (case side2 => exact HC0_1.out); (case side3 => repeat (first | exact (Kd.C_below HR1_1.out HB.out) | (with_reducible refine cA ?_ _) | (with_reducible refine cN ?_ _) | (with_reducible refine cD ?_))); (case side4 => exact HC1_1.out); rintro e w' ⟨rfl, ⟨nd, rfl⟩⟩; refine ⟨_, rfl, ?_⟩))
        go_ret
        exact ⟨by first | rfl | (simp [errW_none, errW_some] <;> rfl) | (simp [*, errW_none, errW_some] <;> rfl), by repeat (first | (with_reducible first | exact HB.out | apply bA | apply bN | apply bD | refine below_set ?_ GE1149.out | refine below_set ?_ GE1150.out) | exact HB.out)⟩
      · rw [if_neg c6] at H
        have c6b0 : (a0_2.toList == a1_2.toList) = false := beq_eq_false_iff_ne.mpr c6
        have c6b1 : (a0_2.toList != a1_2.toList) = true := bne_iff_ne.mpr c6
        obtain rfl := Option.some.inj H
        go_enter Try.func127, Try.ntmps127
        go_wp2_with (first | ((with_reducible refine gate_dst (N := 2) rfl ?_); refine box_event ?hg (N := 2) ?hd (cs := #[.string a0_0, .slice A0_1 l0_1.length c0_1, .string a0_2]) (t := 116) ?hr ?_; (case hd => rfl); (case hg => rfl); (case hr => first | (go_simp; done) | (go_simp; rfl)); intro gb1149 hg w12 hbox hb; have n0_ := am (below_step (by repeat (first | (with_reducible first | exact HB.out | apply bA | apply bN | apply bD) | exact HB.out)) hb); have n1_ := am (hbox); have n2_ := am ((by rw [hg]; exact (below_size (by repeat (first | (with_reducible first | exact HB.out | apply bA | apply bN | apply bD) | exact HB.out))) : w.heap.size ≤ gb1149)); have n3_ := am ((by rw [hg]; exact (below_size (by repeat (first | (with_reducible first | exact HB.out | apply bA | apply bN | apply bD) | exact HB.out))) : w.heap.size ≤ gb1149)); clear HB; have HB := n0_; have BK1149 := n1_; have GW1149 := n2_; have GE1149 := n3_; clear n0_ n1_ n2_ n3_; clear hb hbox hg) | ((with_reducible refine gate_dst (N := 3) rfl ?_); refine box_event ?hg (N := 3) ?hd (cs := #[.string a1_0, .slice A1_1 l1_1.length c1_1, .string a1_2]) (t := 116) ?hr ?_; (case hd => rfl); (case hg => rfl); (case hr => first | (go_simp; done) | (go_simp; rfl)); intro gb1150 hg w13 hbox hb; have n0_ := am (blk_below (g := gb1149) (o := .cells #[.string a0_0, .slice A0_1 l0_1.length c0_1, .string a0_2] 116 (0, 0)) (by (with_reducible repeat (first | refine kN ?_ _ | refine kD ?_ | refine kA ?_ _)); exact BK1149.out) hb); have n1_ := am (below_step (by repeat (first | (with_reducible first | exact HB.out | apply bA | apply bN | apply bD | refine below_set ?_ GE1149.out) | exact HB.out)) hb); have n2_ := am (hbox); have n3_ := am ((by rw [hg]; exact (below_size (by repeat (first | (with_reducible first | exact HB.out | apply bA | apply bN | apply bD | refine below_set ?_ GE1149.out) | exact HB.out))) : w.heap.size ≤ gb1150)); have n4_ := am ((by rw [hg]; exact (below_size (by repeat (first | (with_reducible first | exact HB.out | apply bA | apply bN | apply bD | refine below_set ?_ GE1149.out) | exact HB.out))) : w.heap.size ≤ gb1150)); have n5_ := am ((by rw [hg]; exact Nat.ne_of_lt (blk_lt (g := gb1149) (o := .cells #[.string a0_0, .slice A0_1 l0_1.length c0_1, .string a0_2] 116 (0, 0)) (by (with_reducible repeat (first | refine kN ?_ _ | refine kD ?_ | refine kA ?_ _)); exact BK1149.out)) : gb1149 ≠ gb1150)); have n6_ := am ((by rw [hg]; exact Nat.ne_of_gt (blk_lt (g := gb1149) (o := .cells #[.string a0_0, .slice A0_1 l0_1.length c0_1, .string a0_2] 116 (0, 0)) (by (with_reducible repeat (first | refine kN ?_ _ | refine kD ?_ | refine kA ?_ _)); exact BK1149.out)) : gb1150 ≠ gb1149)); clear BK1149; clear HB; have BK1149 := n0_; have HB := n1_; have BK1150 := n2_; have GW1150 := n3_; have GE1150 := n4_; have NB1149_1150 := n5_; have NB1150_1149 := n6_; clear n0_ n1_ n2_ n3_ n4_ n5_ n6_; clear hb hbox hg; have hnb14 := NB1149_1150.out; have hnc14 := NB1150_1149.out; have hcz15_0 : w13.cell? ⟨gb1149, 0, none⟩ = some (.string a0_0) := (blk_cell BK1149.out 0).trans rfl; have hcz15_1 : w13.cell? ⟨gb1149, 1, none⟩ = some (.slice A0_1 l0_1.length c0_1) := (blk_cell BK1149.out 1).trans rfl; have hcz15_2 : w13.cell? ⟨gb1149, 2, none⟩ = some (.string a0_2) := (blk_cell BK1149.out 2).trans rfl; have hfz15_0 := blk_frozen BK1149.out 0; have hfz15_1 := blk_frozen BK1149.out 1; have hfz15_2 := blk_frozen BK1149.out 2; have hcz16_0 : w13.cell? ⟨gb1150, 0, none⟩ = some (.string a1_0) := (blk_cell BK1150.out 0).trans rfl; have hcz16_1 : w13.cell? ⟨gb1150, 1, none⟩ = some (.slice A1_1 l1_1.length c1_1) := (blk_cell BK1150.out 1).trans rfl; have hcz16_2 : w13.cell? ⟨gb1150, 2, none⟩ = some (.string a1_2) := (blk_cell BK1150.out 2).trans rfl; have hfz16_0 := blk_frozen BK1150.out 0; have hfz16_1 := blk_frozen BK1150.out 1; have hfz16_2 := blk_frozen BK1150.out 2) | ((with_reducible refine gate_callee (f := 58) rfl ?_); refine goesL_ (some 14) rfl rfl Try.func58 (by kernel_rfl) rfl #[.slice A0_1 l0_1.length c0_1, .slice A1_1 l1_1.length c1_1] rfl (by (try simp only [List.map_toArray, List.map_cons, List.map_nil]); first | done | rfl | (simp only [List.length_drop, List.length_take]; rfl)) ?_; (with_reducible refine (laws_eqStringS.calls k _ _ l0_1 _ _ l1_1 true _ ?side1 ?side2 ?side3 ?side4 A4.out).mono ?_); (case side1 => repeat (first | exact (Kd.C_below HR0_1.out HB.out) | (with_reducible refine cA ?_ _) | (with_reducible refine cN ?_ _) | (with_reducible refine cD ?_))); (case side2 => exact HC0_1.out); (case side3 => repeat (first | exact (Kd.C_below HR1_1.out HB.out) | (with_reducible refine cA ?_ _) | (with_reducible refine cN ?_ _) | (with_reducible refine cD ?_))); (case side4 => exact HC1_1.out); rintro e w' ⟨rfl, ⟨nd, rfl⟩⟩; refine ⟨_, rfl, ?_⟩))
        go_ret
        exact ⟨by first | rfl | (simp [errW_none, errW_some] <;> rfl) | (simp [*, errW_none, errW_some] <;> rfl), by repeat (first | (with_reducible first | exact HB.out | apply bA | apply bN | apply bD | refine below_set ?_ GE1149.out | refine below_set ?_ GE1150.out) | exact HB.out)⟩
    · replace c5 := Bool.eq_false_iff.mpr c5
      subst c5
      have H1 : (some false) = some r := by rw [if_neg (show ¬ (false = true) by decide)] at H; exact H
      clear H
      have H := H1
      clear H1
      obtain rfl := Option.some.inj H
      go_enter Try.func127, Try.ntmps127
      go_wp2_with (first | ((with_reducible refine gate_dst (N := 2) rfl ?_); refine box_event ?hg (N := 2) ?hd (cs := #[.string a0_0, .slice A0_1 l0_1.length c0_1, .string a0_2]) (t := 116) ?hr ?_; (case hd => rfl); (case hg => rfl); (case hr => first | (go_simp; done) | (go_simp; rfl)); intro gb1149 hg w17 hbox hb; have n0_ := am (below_step (by repeat (first | (with_reducible first | exact HB.out | apply bA | apply bN | apply bD) | exact HB.out)) hb); have n1_ := am (hbox); have n2_ := am ((by rw [hg]; exact (below_size (by repeat (first | (with_reducible first | exact HB.out | apply bA | apply bN | apply bD) | exact HB.out))) : w.heap.size ≤ gb1149)); have n3_ := am ((by rw [hg]; exact (below_size (by repeat (first | (with_reducible first | exact HB.out | apply bA | apply bN | apply bD) | exact HB.out))) : w.heap.size ≤ gb1149)); clear HB; have HB := n0_; have BK1149 := n1_; have GW1149 := n2_; have GE1149 := n3_; clear n0_ n1_ n2_ n3_; clear hb hbox hg) | ((with_reducible refine gate_dst (N := 3) rfl ?_); refine box_event ?hg (N := 3) ?hd (cs := #[.string a1_0, .slice A1_1 l1_1.length c1_1, .string a1_2]) (t := 116) ?hr ?_; (case hd => rfl); (case hg => rfl); (case hr => first | (go_simp; done) | (go_simp; rfl)); intro gb1150 hg w18 hbox hb; have n0_ := am (blk_below (g := gb1149) (o := .cells #[.string a0_0, .slice A0_1 l0_1.length c0_1, .string a0_2] 116 (0, 0)) (by (with_reducible repeat (first | refine kN ?_ _ | refine kD ?_ | refine kA ?_ _)); exact BK1149.out) hb); have n1_ := am (below_step (by repeat (first | (with_reducible first | exact HB.out | apply bA | apply bN | apply bD | refine below_set ?_ GE1149.out) | exact HB.out)) hb); have n2_ := am (hbox); have n3_ := am ((by rw [hg]; exact (below_size (by repeat (first | (with_reducible first | exact HB.out | apply bA | apply bN | apply bD | refine below_set ?_ GE1149.out) | exact HB.out))) : w.heap.size ≤ gb1150)); have n4_ := am ((by rw [hg]; exact (below_size (by repeat (first | (with_reducible first | exact HB.out | apply bA | apply bN | apply bD | refine below_set ?_ GE1149.out) | exact HB.out))) : w.heap.size ≤ gb1150)); have n5_ := am ((by rw [hg]; exact Nat.ne_of_lt (blk_lt (g := gb1149) (o := .cells #[.string a0_0, .slice A0_1 l0_1.length c0_1, .string a0_2] 116 (0, 0)) (by (with_reducible repeat (first | refine kN ?_ _ | refine kD ?_ | refine kA ?_ _)); exact BK1149.out)) : gb1149 ≠ gb1150)); have n6_ := am ((by rw [hg]; exact Nat.ne_of_gt (blk_lt (g := gb1149) (o := .cells #[.string a0_0, .slice A0_1 l0_1.length c0_1, .string a0_2] 116 (0, 0)) (by (with_reducible repeat (first | refine kN ?_ _ | refine kD ?_ | refine kA ?_ _)); exact BK1149.out)) : gb1150 ≠ gb1149)); clear BK1149; clear HB; have BK1149 := n0_; have HB := n1_; have BK1150 := n2_; have GW1150 := n3_; have GE1150 := n4_; have NB1149_1150 := n5_; have NB1150_1149 := n6_; clear n0_ n1_ n2_ n3_ n4_ n5_ n6_; clear hb hbox hg; have hnb19 := NB1149_1150.out; have hnc19 := NB1150_1149.out; have hcz20_0 : w18.cell? ⟨gb1149, 0, none⟩ = some (.string a0_0) := (blk_cell BK1149.out 0).trans rfl; have hcz20_1 : w18.cell? ⟨gb1149, 1, none⟩ = some (.slice A0_1 l0_1.length c0_1) := (blk_cell BK1149.out 1).trans rfl; have hcz20_2 : w18.cell? ⟨gb1149, 2, none⟩ = some (.string a0_2) := (blk_cell BK1149.out 2).trans rfl; have hfz20_0 := blk_frozen BK1149.out 0; have hfz20_1 := blk_frozen BK1149.out 1; have hfz20_2 := blk_frozen BK1149.out 2; have hcz21_0 : w18.cell? ⟨gb1150, 0, none⟩ = some (.string a1_0) := (blk_cell BK1150.out 0).trans rfl; have hcz21_1 : w18.cell? ⟨gb1150, 1, none⟩ = some (.slice A1_1 l1_1.length c1_1) := (blk_cell BK1150.out 1).trans rfl; have hcz21_2 : w18.cell? ⟨gb1150, 2, none⟩ = some (.string a1_2) := (blk_cell BK1150.out 2).trans rfl; have hfz21_0 := blk_frozen BK1150.out 0; have hfz21_1 := blk_frozen BK1150.out 1; have hfz21_2 := blk_frozen BK1150.out 2) | ((with_reducible refine gate_callee (f := 58) rfl ?_); refine goesL_ (some 14) rfl rfl Try.func58 (by kernel_rfl) rfl #[.slice A0_1 l0_1.length c0_1, .slice A1_1 l1_1.length c1_1] rfl (by (try simp only [List.map_toArray, List.map_cons, List.map_nil]); first | done | rfl | (simp only [List.length_drop, List.length_take]; rfl)) ?_; (with_reducible refine (laws_eqStringS.calls k _ _ l0_1 _ _ l1_1 false _ ?side1 ?side2 ?side3 ?side4 A4.out).mono ?_); (case side1 => repeat (first | exact (Kd.C_below HR0_1.out HB.out) | (with_reducible refine cA ?_ _) | (with_reducible refine cN ?_ _) | (with_reducible refine cD ?_))); (case side2 => exact HC0_1.out); (case side3 => repeat (first | exact (Kd.C_below HR1_1.out HB.out) | (with_reducible refine cA ?_ _) | (with_reducible refine cN ?_ _) | (with_reducible refine cD ?_))); (case side4 => exact HC1_1.out); rintro e w' ⟨rfl, ⟨nd, rfl⟩⟩; refine ⟨_, rfl, ?_⟩))
      go_ret
      exact ⟨by first | rfl | (simp [errW_none, errW_some] <;> rfl) | (simp [*, errW_none, errW_some] <;> rfl), by repeat (first | (with_reducible first | exact HB.out | apply bA | apply bN | apply bD | refine below_set ?_ GE1149.out | refine below_set ?_ GE1150.out) | exact HB.out)⟩
  · rw [if_neg c3] at H
    have c3b0 : (a0_0.toList == a1_0.toList) = false := beq_eq_false_iff_ne.mpr c3
    have c3b1 : (a0_0.toList != a1_0.toList) = true := bne_iff_ne.mpr c3
    obtain rfl := Option.some.inj H
    go_enter Try.func127, Try.ntmps127
    go_wp2_with (first | ((with_reducible refine gate_dst (N := 2) rfl ?_); refine box_event ?hg (N := 2) ?hd (cs := #[.string a0_0, .slice A0_1 l0_1.length c0_1, .string a0_2]) (t := 116) ?hr ?_; (case hd => rfl); (case hg => rfl); (case hr => first | (go_simp; done) | (go_simp; rfl)); intro gb1149 hg w22 hbox hb; have n0_ := am (below_step (by repeat (first | (with_reducible first | exact HB.out | apply bA | apply bN | apply bD) | exact HB.out)) hb); have n1_ := am (hbox); have n2_ := am ((by rw [hg]; exact (below_size (by repeat (first | (with_reducible first | exact HB.out | apply bA | apply bN | apply bD) | exact HB.out))) : w.heap.size ≤ gb1149)); have n3_ := am ((by rw [hg]; exact (below_size (by repeat (first | (with_reducible first | exact HB.out | apply bA | apply bN | apply bD) | exact HB.out))) : w.heap.size ≤ gb1149)); clear HB; have HB := n0_; have BK1149 := n1_; have GW1149 := n2_; have GE1149 := n3_; clear n0_ n1_ n2_ n3_; clear hb hbox hg) | ((with_reducible refine gate_dst (N := 3) rfl ?_); refine box_event ?hg (N := 3) ?hd (cs := #[.string a1_0, .slice A1_1 l1_1.length c1_1, .string a1_2]) (t := 116) ?hr ?_; (case hd => rfl); (case hg => rfl); (case hr => first | (go_simp; done) | (go_simp; rfl)); intro gb1150 hg w23 hbox hb; have n0_ := am (blk_below (g := gb1149) (o := .cells #[.string a0_0, .slice A0_1 l0_1.length c0_1, .string a0_2] 116 (0, 0)) (by (with_reducible repeat (first | refine kN ?_ _ | refine kD ?_ | refine kA ?_ _)); exact BK1149.out) hb); have n1_ := am (below_step (by repeat (first | (with_reducible first | exact HB.out | apply bA | apply bN | apply bD | refine below_set ?_ GE1149.out) | exact HB.out)) hb); have n2_ := am (hbox); have n3_ := am ((by rw [hg]; exact (below_size (by repeat (first | (with_reducible first | exact HB.out | apply bA | apply bN | apply bD | refine below_set ?_ GE1149.out) | exact HB.out))) : w.heap.size ≤ gb1150)); have n4_ := am ((by rw [hg]; exact (below_size (by repeat (first | (with_reducible first | exact HB.out | apply bA | apply bN | apply bD | refine below_set ?_ GE1149.out) | exact HB.out))) : w.heap.size ≤ gb1150)); have n5_ := am ((by rw [hg]; exact Nat.ne_of_lt (blk_lt (g := gb1149) (o := .cells #[.string a0_0, .slice A0_1 l0_1.length c0_1, .string a0_2] 116 (0, 0)) (by (with_reducible repeat (first | refine kN ?_ _ | refine kD ?_ | refine kA ?_ _)); exact BK1149.out)) : gb1149 ≠ gb1150)); have n6_ := am ((by rw [hg]; exact Nat.ne_of_gt (blk_lt (g := gb1149) (o := .cells #[.string a0_0, .slice A0_1 l0_1.length c0_1, .string a0_2] 116 (0, 0)) (by (with_reducible repeat (first | refine kN ?_ _ | refine kD ?_ | refine kA ?_ _)); exact BK1149.out)) : gb1150 ≠ gb1149)); clear BK1149; clear HB; have BK1149 := n0_; have HB := n1_; have BK1150 := n2_; have GW1150 := n3_; have GE1150 := n4_; have NB1149_1150 := n5_; have NB1150_1149 := n6_; clear n0_ n1_ n2_ n3_ n4_ n5_ n6_; clear hb hbox hg; have hnb24 := NB1149_1150.out; have hnc24 := NB1150_1149.out; have hcz25_0 : w23.cell? ⟨gb1149, 0, none⟩ = some (.string a0_0) := (blk_cell BK1149.out 0).trans rfl; have hcz25_1 : w23.cell? ⟨gb1149, 1, none⟩ = some (.slice A0_1 l0_1.length c0_1) := (blk_cell BK1149.out 1).trans rfl; have hcz25_2 : w23.cell? ⟨gb1149, 2, none⟩ = some (.string a0_2) := (blk_cell BK1149.out 2).trans rfl; have hfz25_0 := blk_frozen BK1149.out 0; have hfz25_1 := blk_frozen BK1149.out 1; have hfz25_2 := blk_frozen BK1149.out 2; have hcz26_0 : w23.cell? ⟨gb1150, 0, none⟩ = some (.string a1_0) := (blk_cell BK1150.out 0).trans rfl; have hcz26_1 : w23.cell? ⟨gb1150, 1, none⟩ = some (.slice A1_1 l1_1.length c1_1) := (blk_cell BK1150.out 1).trans rfl; have hcz26_2 : w23.cell? ⟨gb1150, 2, none⟩ = some (.string a1_2) := (blk_cell BK1150.out 2).trans rfl; have hfz26_0 := blk_frozen BK1150.out 0; have hfz26_1 := blk_frozen BK1150.out 1; have hfz26_2 := blk_frozen BK1150.out 2))
    go_ret
    exact ⟨by first | rfl | (simp [errW_none, errW_some] <;> rfl) | (simp [*, errW_none, errW_some] <;> rfl), by repeat (first | (with_reducible first | exact HB.out | apply bA | apply bN | apply bD | refine below_set ?_ GE1149.out | refine below_set ?_ GE1150.out) | exact HB.out)⟩

end Go.Proofs.Ytdgjddkibiffnaa.F
