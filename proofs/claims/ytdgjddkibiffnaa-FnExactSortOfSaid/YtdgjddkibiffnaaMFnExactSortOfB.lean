-- Written by this session's own programs for this claim.
import Derived.Test.YtdgjddkibiffnaaMFnExactSortOfA
namespace Go.Proofs.Ytdgjddkibiffnaa.F
open Go.RowKit Go.Proofs.YtdgjddkibiffnaaW.PrintWords Go.Proofs.YtdgjddkibiffnaaW.PrintLast Go.Proofs.YtdgjddkibiffnaaW.PrintMore
attribute [local go_sem] binOp_string_gtr_ binOp_string_geq_ binOp_string_leq_ max2_int min2_int max_two min_two max_three min_three max_four min_four   -- for this text's walks alone
set_option linter.unusedVariables false
set_option linter.unusedSimpArgs false

/-! ### spec_FindOp: function 100 -/
def spec_FindOp.l0 : Nat → ByteArray → Int → List ByteArray → List (S116) → Option (ByteArray × List ByteArray × ByteArray × Bool)
  | 0, _, _, _, _ => none
  | k + 1, x1, x6, x1040000, x1040001 => if x6 < (x1040001.length : Int) then (if 0 ≤ x6 then (if ((rd_T116 x1040001 x6).f0).toList = x1.toList then ((some (([] : List ByteArray) : List ByteArray)).bind fun y1048 => (if y1048.length + ((rd_T116 x1040001 x6).f1).length < 8796093022208 then (some ((rd_T116 x1040001 x6).f0, (y1048 ++ ((rd_T116 x1040001 x6).f1)), (rd_T116 x1040001 x6).f2, true)) else (none))) else (spec_FindOp.l0 k x1 (wrap64 (x6 + 1)) x1040000 x1040001)) else (none)) else (some ((⟨#[]⟩ : ByteArray), ([] : List ByteArray), (⟨#[]⟩ : ByteArray), false))
def spec_FindOp.f (k : Nat) (l0_0 : List ByteArray) (l0_1 : List (S116)) (a1 : ByteArray) : Option (ByteArray × List ByteArray × ByteArray × Bool) := (spec_IsBuiltin.f a1).bind fun t1041 => (if t1041 = true then (some (a1, (([(⟨#[119, 111, 114, 100]⟩ : ByteArray), (⟨#[119, 111, 114, 100]⟩ : ByteArray)] : List ByteArray)), (⟨#[119, 111, 114, 100]⟩ : ByteArray), true)) else (spec_FindOp.l0 k a1 0 l0_0 l0_1))
set_option maxHeartbeats 8000000 in
set_option maxRecDepth 100000 in
theorem spec_FindOp.calls (k : Nat) (A0_0 : Option Addr) (c0_0 : Nat) (l0_0 : List ByteArray) (A0_1 : Option Addr) (c0_1 : Nat) (l0_1 : List (S116)) (a1 : ByteArray) (r1 : ByteArray) (r2 : List ByteArray) (r3 : ByteArray) (r4 : Bool) (w : World) (hr0_0 : Kd.C Kd.string w A0_0 l0_0.length l0_0) (hc0_0 : l0_0.length ≤ c0_0) (hr0_1 : Kd.C k116 w A0_1 l0_1.length l0_1) (hc0_1 : l0_1.length ≤ c0_1) (h : spec_FindOp.f k l0_0 l0_1 a1 = some (r1, r2, r3, r4)) :
    Calls Try.prog 100 #[.agg #[.slice A0_0 l0_0.length c0_0, .slice A0_1 l0_1.length c0_1], .string a1] w fun e w' => ∃ v1_ : Value, e = .returned (.tuple #[.agg #[.string r1, v1_, .string r3], .bool r4]) ∧ Kd.R Kd.string 9 w' w.heap.size (fun _ => True) v1_ r2 ∧ Below w.heap.size w w' := by
  have hu73 := Try.underlying73
  have hu116 := Try.underlying116
  have HR0_0 := Aside0.mk hr0_0
  have HC0_0 := Aside0.mk hc0_0
  clear hr0_0 hc0_0
  have HR0_1 := Aside0.mk hr0_1
  have HC0_1 := Aside0.mk hc0_1
  clear hr0_1 hc0_1
  have HB := am (Below.refl w.heap.size w)
  have H : ((spec_IsBuiltin.f a1).bind fun t1041 => (if t1041 = true then (some (a1, (([(⟨#[119, 111, 114, 100]⟩ : ByteArray), (⟨#[119, 111, 114, 100]⟩ : ByteArray)] : List ByteArray)), (⟨#[119, 111, 114, 100]⟩ : ByteArray), true)) else (spec_FindOp.l0 k a1 0 l0_0 l0_1))) = some (r1, r2, r3, r4) := h
  clear h
  replace H := Option.bind_eq_some_iff.mp H
  obtain ⟨t1041, A30, H⟩ := H
  try dsimp only at H
  have A3 := Aside0.mk A30
  clear A30
  by_cases c4 : t1041 = true
  · subst c4
    have H1 : (some (a1, (([(⟨#[119, 111, 114, 100]⟩ : ByteArray), (⟨#[119, 111, 114, 100]⟩ : ByteArray)] : List ByteArray)), (⟨#[119, 111, 114, 100]⟩ : ByteArray), true)) = some (r1, r2, r3, r4) := by first | with_reducible rfl | (rw [if_pos rfl] at H; exact H)
    clear H
    have H := H1
    clear H1
    obtain ⟨y1042, hy1042⟩ : ∃ y_ : List ByteArray, y_ = (([(⟨#[119, 111, 114, 100]⟩ : ByteArray), (⟨#[119, 111, 114, 100]⟩ : ByteArray)] : List ByteArray)) := ⟨_, rfl⟩
    replace H : (some (a1, y1042, (⟨#[119, 111, 114, 100]⟩ : ByteArray), true)) = some (r1, r2, r3, r4) := by first | (rw [hy1042]; with_reducible exact H) | (have H2_ := (Option.bind_some _ _).symm.trans H; rw [hy1042]; with_reducible exact H2_) | (have H2_ := (Option.bind_some _ _).symm.trans H; with_reducible exact H2_) | with_reducible exact H | (rw [hy1042]; exact H) | exact H
    have Ny1042 := Aside0.mk hy1042
    clear hy1042
    simp only [Option.some.injEq, Prod.mk.injEq] at H
    obtain ⟨rfl, rfl, rfl, rfl⟩ := H
    go_enter Try.func100, Try.ntmps100
    go_wp2_with (first | ((with_reducible refine gate_dst (N := 2) rfl ?_); refine box_event ?hg (N := 2) ?hd (cs := #[.slice A0_0 l0_0.length c0_0, .slice A0_1 l0_1.length c0_1]) (t := 73) ?hr ?_; (case hd => rfl); (case hg => rfl); (case hr => first | (go_simp; done) | (go_simp; rfl)); intro gb1039 hg w5 hbox hb; have n0_ := am (below_step (by repeat (first | (with_reducible first | exact HB.out | apply bA | apply bN | apply bD) | exact HB.out)) hb); have n1_ := am (hbox); have n2_ := am ((by rw [hg]; exact (below_size (by repeat (first | (with_reducible first | exact HB.out | apply bA | apply bN | apply bD) | exact HB.out))) : w.heap.size ≤ gb1039)); have n3_ := am ((by rw [hg]; exact (below_size (by repeat (first | (with_reducible first | exact HB.out | apply bA | apply bN | apply bD) | exact HB.out))) : w.heap.size ≤ gb1039)); clear HB; have HB := n0_; have BK1039 := n1_; have GW1039 := n2_; have GE1039 := n3_; clear n0_ n1_ n2_ n3_; clear hb hbox hg) | ((with_reducible refine gate_dst (N := 4) rfl ?_); refine box_event ?hg (N := 4) ?hd (cs := #[.string (⟨#[]⟩ : ByteArray), .slice none 0 0, .string (⟨#[]⟩ : ByteArray)]) (t := 116) ?hr ?_; (case hd => rfl); (case hg => rfl); (case hr => first | (go_simp; done) | (go_simp; rfl)); intro gb1040 hg w6 hbox hb; have n0_ := am (blk_below (g := gb1039) (o := .cells #[.slice A0_0 l0_0.length c0_0, .slice A0_1 l0_1.length c0_1] 73 (0, 0)) (by (with_reducible repeat (first | refine kN ?_ _ | refine kD ?_ | refine kA ?_ _)); exact BK1039.out) hb); have n1_ := am (below_step (by repeat (first | (with_reducible first | exact HB.out | apply bA | apply bN | apply bD | refine below_set ?_ GE1039.out) | exact HB.out)) hb); have n2_ := am (hbox); have n3_ := am ((by rw [hg]; exact (below_size (by repeat (first | (with_reducible first | exact HB.out | apply bA | apply bN | apply bD | refine below_set ?_ GE1039.out) | exact HB.out))) : w.heap.size ≤ gb1040)); have n4_ := am ((by rw [hg]; exact (below_size (by repeat (first | (with_reducible first | exact HB.out | apply bA | apply bN | apply bD | refine below_set ?_ GE1039.out) | exact HB.out))) : w.heap.size ≤ gb1040)); have n5_ := am ((by rw [hg]; exact Nat.ne_of_lt (blk_lt (g := gb1039) (o := .cells #[.slice A0_0 l0_0.length c0_0, .slice A0_1 l0_1.length c0_1] 73 (0, 0)) (by (with_reducible repeat (first | refine kN ?_ _ | refine kD ?_ | refine kA ?_ _)); exact BK1039.out)) : gb1039 ≠ gb1040)); have n6_ := am ((by rw [hg]; exact Nat.ne_of_gt (blk_lt (g := gb1039) (o := .cells #[.slice A0_0 l0_0.length c0_0, .slice A0_1 l0_1.length c0_1] 73 (0, 0)) (by (with_reducible repeat (first | refine kN ?_ _ | refine kD ?_ | refine kA ?_ _)); exact BK1039.out)) : gb1040 ≠ gb1039)); clear BK1039; clear HB; have BK1039 := n0_; have HB := n1_; have BK1040 := n2_; have GW1040 := n3_; have GE1040 := n4_; have NB1039_1040 := n5_; have NB1040_1039 := n6_; clear n0_ n1_ n2_ n3_ n4_ n5_ n6_; clear hb hbox hg) | ((with_reducible refine gate_callee (f := 115) rfl ?_); refine goesL_ (some 9) rfl rfl Try.func115 (by kernel_rfl) rfl #[.string a1] rfl (by (try simp only [List.map_toArray, List.map_cons, List.map_nil]); first | done | rfl | (simp only [List.length_drop, List.length_take]; rfl)) ?_; (with_reducible refine (spec_IsBuiltin.calls a1 true _ A3.out).mono ?_); rintro e w' ⟨rfl, ⟨nd, rfl⟩⟩; refine ⟨_, rfl, ?_⟩; (try (rw [drewN_self w6]; generalize hq_ : World.drewN w6 _ = w6; have n0_ : Aside0 (w6.heap[gb1039]? = some (.cells #[.slice A0_0 l0_0.length c0_0, .slice A0_1 l0_1.length c0_1] 73 (0, 0))) := ⟨by rw [← hq_]; exact (by (with_reducible repeat (first | refine kN ?_ _ | refine kD ?_ | refine kA ?_ _)); exact BK1039.out)⟩; have n1_ : Aside0 (w6.heap[gb1040]? = some (.cells #[.string (⟨#[]⟩ : ByteArray), .slice none 0 0, .string (⟨#[]⟩ : ByteArray)] 116 (0, 0))) := ⟨by rw [← hq_]; exact (by (with_reducible repeat (first | refine kN ?_ _ | refine kD ?_ | refine kA ?_ _)); exact BK1040.out)⟩; have n2_ : Aside0 (Below w.heap.size w w6) := ⟨by rw [← hq_]; exact (by repeat (first | (with_reducible first | exact HB.out | apply bA | apply bN | apply bD | refine below_set ?_ GE1039.out | refine below_set ?_ GE1040.out) | exact HB.out))⟩; clear BK1039 BK1040 HB hq_; have BK1039 := n0_; have BK1040 := n1_; have HB := n2_; clear n0_ n1_ n2_))) | ((with_reducible refine gate_dst (N := 11) rfl ?_); refine Kd.R_lit Kd.string _ 9 ?hg (N := 11) ?hd (xs := ([(⟨#[119, 111, 114, 100]⟩ : ByteArray), (⟨#[119, 111, 114, 100]⟩ : ByteArray)] : List ByteArray)) (inner := [.string (⟨#[119, 111, 114, 100]⟩ : ByteArray), .string (⟨#[119, 111, 114, 100]⟩ : ByteArray)]) (ok := fun _ => True) (okp := fun _ => True) ?hr ?hp (fun _ hk => hk) trivial (Below.refl _ _) (Nat.le_refl _) (by simp) ?_; (case hd => rfl); (case hg => rfl); (case hr => first | (go_simp; done) | (go_simp; rfl)); (case hp => exact (Reps.one (show Kd.M Kd.string _ _ _ (⟨#[119, 111, 114, 100]⟩ : ByteArray) [.string (⟨#[119, 111, 114, 100]⟩ : ByteArray)] from rfl) (Reps.one (show Kd.M Kd.string _ _ _ (⟨#[119, 111, 114, 100]⟩ : ByteArray) [.string (⟨#[119, 111, 114, 100]⟩ : ByteArray)] from rfl) (Reps.none _ _)))); intro v1043 w7 ho8 hb hg_ hnew_; clear hg_ hnew_; (first | rw [← Ny1042.out] at ho8 | (simp only [Int.reduceToNat] at ho8; rw [← Ny1042.out] at ho8)); have n0_ := am (Kd.R_lower ho8 (below_size (by repeat (first | (with_reducible first | exact HB.out | apply bA | apply bN | apply bD | refine below_set ?_ GE1039.out | refine below_set ?_ GE1040.out) | exact HB.out)))); have n1_ := am (blk_below (g := gb1039) (o := .cells #[.slice A0_0 l0_0.length c0_0, .slice A0_1 l0_1.length c0_1] 73 (0, 0)) (by (with_reducible repeat (first | refine kN ?_ _ | refine kD ?_ | refine kA ?_ _)); exact BK1039.out) hb); have n2_ := am (blk_below (g := gb1040) (o := .cells #[.string (⟨#[]⟩ : ByteArray), .slice none 0 0, .string (⟨#[]⟩ : ByteArray)] 116 (0, 0)) (by (with_reducible repeat (first | refine kN ?_ _ | refine kD ?_ | refine kA ?_ _)); exact BK1040.out) hb); have n3_ := am (below_step (by repeat (first | (with_reducible first | exact HB.out | apply bA | apply bN | apply bD | refine below_set ?_ GE1039.out | refine below_set ?_ GE1040.out) | exact HB.out)) hb); clear BK1039; clear BK1040; clear HB; have HO1044 := n0_; have BK1039 := n1_; have BK1040 := n2_; have HB := n3_; clear n0_ n1_ n2_ n3_; clear hb ho8; obtain ⟨Ao9, co9, eo9⟩ := Kd.R_slice HO1044.out; subst eo9; have hnb10 := NB1040_1039.out; have hnc10 := NB1039_1040.out; have hcz11_0 : w7.cell? ⟨gb1040, 0, none⟩ = some (.string (⟨#[]⟩ : ByteArray)) := (blk_cell BK1040.out 0).trans rfl; have hcz11_1 : w7.cell? ⟨gb1040, 1, none⟩ = some (.slice none 0 0) := (blk_cell BK1040.out 1).trans rfl; have hcz11_2 : w7.cell? ⟨gb1040, 2, none⟩ = some (.string (⟨#[]⟩ : ByteArray)) := (blk_cell BK1040.out 2).trans rfl; have hfz11_0 := blk_frozen BK1040.out 0; have hfz11_1 := blk_frozen BK1040.out 1; have hfz11_2 := blk_frozen BK1040.out 2))
    refine bodyPost_ret (results_ct rfl _ _ gb1040 116 #[.string a1, .slice Ao9 y1042.length co9, .string (⟨#[119, 111, 114, 100]⟩ : ByteArray)] (0, 0) _ rfl (by (with_reducible repeat (first | refine kN ?_ _ | refine kD ?_ | refine kA ?_ _)); refine blk_put (cs := #[.string a1, .slice Ao9 y1042.length co9, .string (⟨#[]⟩ : ByteArray)]) ?_ 2 _ rfl; (with_reducible repeat (first | refine kN ?_ _ | refine kD ?_ | refine kA ?_ _)); refine blk_put (cs := #[.string a1, .slice none 0 0, .string (⟨#[]⟩ : ByteArray)]) ?_ 1 _ rfl; (with_reducible repeat (first | refine kN ?_ _ | refine kD ?_ | refine kA ?_ _)); refine blk_put (cs := #[.string (⟨#[]⟩ : ByteArray), .slice none 0 0, .string (⟨#[]⟩ : ByteArray)]) ?_ 0 _ rfl; (with_reducible repeat (first | refine kN ?_ _ | refine kD ?_ | refine kA ?_ _)); exact BK1040.out) Try.underlying116 rfl (by kernel_rfl)) rfl ?_
    exact ⟨_, by first | rfl | (simp [errW_none, errW_some] <;> rfl) | (simp [*, errW_none, errW_some] <;> rfl), by (with_reducible repeat (first | apply rA | apply rN | apply rD)); exact Kd.R_mono (Kd.R_far (p := ⟨gb1040, 2, none⟩) (Kd.R_far (p := ⟨gb1040, 1, none⟩) (Kd.R_far (p := ⟨gb1040, 0, none⟩) (Kd.R_types HO1044.out BK1040.out (by decide)) (fun _ hk => hk.2) (.string a1)) (fun _ hk => hk.2) (.slice Ao9 y1042.length co9)) (fun _ hk => hk.2) (.string (⟨#[119, 111, 114, 100]⟩ : ByteArray))) (fun _ hk => trivial), by repeat (first | (with_reducible first | exact HB.out | apply bA | apply bN | apply bD | refine below_set ?_ GE1039.out | refine below_set ?_ GE1040.out) | exact HB.out)⟩
  · replace c4 := Bool.eq_false_iff.mpr c4
    subst c4
    have H1 : (spec_FindOp.l0 k a1 0 l0_0 l0_1) = some (r1, r2, r3, r4) := by rw [if_neg (show ¬ (false = true) by decide)] at H; exact H
    clear H
    have H := H1
    clear H1
    have H' := Aside0.mk H
    clear H
    go_enter Try.func100, Try.ntmps100
    go_wp2_with (first | ((with_reducible refine gate_dst (N := 2) rfl ?_); refine box_event ?hg (N := 2) ?hd (cs := #[.slice A0_0 l0_0.length c0_0, .slice A0_1 l0_1.length c0_1]) (t := 73) ?hr ?_; (case hd => rfl); (case hg => rfl); (case hr => first | (go_simp; done) | (go_simp; rfl)); intro gb1039 hg w12 hbox hb; have n0_ := am (below_step (by repeat (first | (with_reducible first | exact HB.out | apply bA | apply bN | apply bD) | exact HB.out)) hb); have n1_ := am (hbox); have n2_ := am ((by rw [hg]; exact (below_size (by repeat (first | (with_reducible first | exact HB.out | apply bA | apply bN | apply bD) | exact HB.out))) : w.heap.size ≤ gb1039)); have n3_ := am ((by rw [hg]; exact (below_size (by repeat (first | (with_reducible first | exact HB.out | apply bA | apply bN | apply bD) | exact HB.out))) : w.heap.size ≤ gb1039)); clear HB; have HB := n0_; have BK1039 := n1_; have GW1039 := n2_; have GE1039 := n3_; clear n0_ n1_ n2_ n3_; clear hb hbox hg) | ((with_reducible refine gate_dst (N := 4) rfl ?_); refine box_event ?hg (N := 4) ?hd (cs := #[.string (⟨#[]⟩ : ByteArray), .slice none 0 0, .string (⟨#[]⟩ : ByteArray)]) (t := 116) ?hr ?_; (case hd => rfl); (case hg => rfl); (case hr => first | (go_simp; done) | (go_simp; rfl)); intro gb1040 hg w13 hbox hb; have n0_ := am (blk_below (g := gb1039) (o := .cells #[.slice A0_0 l0_0.length c0_0, .slice A0_1 l0_1.length c0_1] 73 (0, 0)) (by (with_reducible repeat (first | refine kN ?_ _ | refine kD ?_ | refine kA ?_ _)); exact BK1039.out) hb); have n1_ := am (below_step (by repeat (first | (with_reducible first | exact HB.out | apply bA | apply bN | apply bD | refine below_set ?_ GE1039.out) | exact HB.out)) hb); have n2_ := am (hbox); have n3_ := am ((by rw [hg]; exact (below_size (by repeat (first | (with_reducible first | exact HB.out | apply bA | apply bN | apply bD | refine below_set ?_ GE1039.out) | exact HB.out))) : w.heap.size ≤ gb1040)); have n4_ := am ((by rw [hg]; exact (below_size (by repeat (first | (with_reducible first | exact HB.out | apply bA | apply bN | apply bD | refine below_set ?_ GE1039.out) | exact HB.out))) : w.heap.size ≤ gb1040)); have n5_ := am ((by rw [hg]; exact Nat.ne_of_lt (blk_lt (g := gb1039) (o := .cells #[.slice A0_0 l0_0.length c0_0, .slice A0_1 l0_1.length c0_1] 73 (0, 0)) (by (with_reducible repeat (first | refine kN ?_ _ | refine kD ?_ | refine kA ?_ _)); exact BK1039.out)) : gb1039 ≠ gb1040)); have n6_ := am ((by rw [hg]; exact Nat.ne_of_gt (blk_lt (g := gb1039) (o := .cells #[.slice A0_0 l0_0.length c0_0, .slice A0_1 l0_1.length c0_1] 73 (0, 0)) (by (with_reducible repeat (first | refine kN ?_ _ | refine kD ?_ | refine kA ?_ _)); exact BK1039.out)) : gb1040 ≠ gb1039)); clear BK1039; clear HB; have BK1039 := n0_; have HB := n1_; have BK1040 := n2_; have GW1040 := n3_; have GE1040 := n4_; have NB1039_1040 := n5_; have NB1040_1039 := n6_; clear n0_ n1_ n2_ n3_ n4_ n5_ n6_; clear hb hbox hg) | ((with_reducible refine gate_callee (f := 115) rfl ?_); refine goesL_ (some 9) rfl rfl Try.func115 (by kernel_rfl) rfl #[.string a1] rfl (by (try simp only [List.map_toArray, List.map_cons, List.map_nil]); first | done | rfl | (simp only [List.length_drop, List.length_take]; rfl)) ?_; (with_reducible refine (spec_IsBuiltin.calls a1 false _ A3.out).mono ?_); rintro e w' ⟨rfl, ⟨nd, rfl⟩⟩; refine ⟨_, rfl, ?_⟩))
    go_loopg [6] k (fun kq v6 w' => ∃ (x6_1 : Int) (x1041000_1 : ByteArray) (x1041002_1 : ByteArray), v6 = .int .i64 x6_1 ∧ Aside0 (spec_FindOp.l0 kq a1 x6_1 l0_0 l0_1 = some (r1, r2, r3, r4)) ∧ Aside0 (kq ≤ k) ∧ Aside0 (w'.heap[gb1039]? = some (.cells #[(.slice A0_0 l0_0.length c0_0), (.slice A0_1 l0_1.length c0_1)] 73 (0, 0))) ∧ Aside0 (w'.heap[gb1040]? = some (.cells #[.string x1041000_1, (.slice none 0 0), .string x1041002_1] 116 (0, 0))) ∧ Aside0 (Below w.heap.size w w'))
    case atStart => exact ⟨(0), ((⟨#[]⟩ : ByteArray)), ((⟨#[]⟩ : ByteArray)), (by first | rfl | (simp; done) | (simp [*]; done)), H', ⟨Nat.le_refl _⟩, ⟨by (with_reducible repeat (first | refine kN ?_ _ | refine kD ?_ | refine kA ?_ _)); exact BK1039.out⟩, ⟨by (with_reducible repeat (first | refine kN ?_ _ | refine kD ?_ | refine kA ?_ _)); exact BK1040.out⟩, ⟨by repeat (first | (with_reducible first | exact HB.out | apply bA | apply bN | apply bD | refine below_set ?_ GE1039.out | refine below_set ?_ GE1040.out) | exact HB.out)⟩⟩
    case round =>
      clear H'
      obtain ⟨x6_1, x1041000_1, x1041002_1, rfl, HA, HK1, BK1039, BK1040, HB⟩ := hrel
      cases gk with
      | zero => exact absurd HA.out (by simp [spec_FindOp.l0])
      | succ k1 =>
        have H := HA.out
        clear HA
        simp only [spec_FindOp.l0] at H
        by_cases c14 : x6_1 < (l0_1.length : Int)
        · rw [if_pos c14] at H
          have c14b0 : decide (x6_1 < (l0_1.length : Int)) = true := decide_eq_true c14
          clear c14
          by_cases c15 : 0 ≤ x6_1
          · rw [if_pos c15] at H
            have c15b0 : decide (0 ≤ x6_1) = true := decide_eq_true c15
            clear c15
            by_cases c16 : ((rd_T116 l0_1 x6_1).f0).toList = a1.toList
            · rw [if_pos c16] at H
              have c16b0 : (((rd_T116 l0_1 x6_1).f0).toList == a1.toList) = true := beq_iff_eq.mpr c16
              have c16b1 : (((rd_T116 l0_1 x6_1).f0).toList != a1.toList) = false := bne_eq_false_iff_eq.mpr c16
              clear c16
              obtain ⟨y1048, hy1048⟩ : ∃ y_ : List ByteArray, y_ = (([] : List ByteArray)) := ⟨_, rfl⟩
              replace H : (if y1048.length + ((rd_T116 l0_1 x6_1).f1).length < 8796093022208 then (some ((rd_T116 l0_1 x6_1).f0, (y1048 ++ ((rd_T116 l0_1 x6_1).f1)), (rd_T116 l0_1 x6_1).f2, true)) else (none)) = some (r1, r2, r3, r4) := by first | (rw [hy1048]; with_reducible exact H) | (have H2_ := (Option.bind_some _ _).symm.trans H; rw [hy1048]; with_reducible exact H2_) | (have H2_ := (Option.bind_some _ _).symm.trans H; with_reducible exact H2_) | with_reducible exact H | (rw [hy1048]; exact H) | exact H
              have Ny1048 := Aside0.mk hy1048
              clear hy1048
              by_cases c17 : y1048.length + ((rd_T116 l0_1 x6_1).f1).length < 8796093022208
              · rw [if_pos c17] at H
                have LMc17 := Aside0.mk c17
                clear c17
                obtain ⟨y1051, hy1051⟩ : ∃ y_ : List ByteArray, y_ = (y1048 ++ ((rd_T116 l0_1 x6_1).f1)) := ⟨_, rfl⟩
                replace H : (some ((rd_T116 l0_1 x6_1).f0, y1051, (rd_T116 l0_1 x6_1).f2, true)) = some (r1, r2, r3, r4) := by first | (rw [hy1051]; with_reducible exact H) | (have H2_ := (Option.bind_some _ _).symm.trans H; rw [hy1051]; with_reducible exact H2_) | (have H2_ := (Option.bind_some _ _).symm.trans H; with_reducible exact H2_) | with_reducible exact H | (rw [hy1051]; exact H) | exact H
                have Ny1051 := Aside0.mk hy1051
                clear hy1051
                simp only [Option.some.injEq, Prod.mk.injEq] at H
                obtain ⟨rfl, rfl, rfl, rfl⟩ := H
                have hnb18 := NB1039_1040.out
                have hnc18 := NB1040_1039.out
                have hcz19_0 : wr.cell? ⟨gb1039, 0, none⟩ = some (.slice A0_0 l0_0.length c0_0) := (blk_cell BK1039.out 0).trans rfl
                have hcz19_1 : wr.cell? ⟨gb1039, 1, none⟩ = some (.slice A0_1 l0_1.length c0_1) := (blk_cell BK1039.out 1).trans rfl
                have hfz19_0 := blk_frozen BK1039.out 0
                have hfz19_1 := blk_frozen BK1039.out 1
                have p1045 : 0 ≤ (x6_1 : Int) := of_decide_eq_true (by assumption)
                have q1045 : x6_1 < (l0_1.length : Int) := of_decide_eq_true (by assumption)
                obtain ⟨ad1045, A1045_1, c1045_1, e1045, hx1045_0, hx1045_1, hx1045_2, hl1045_1, hi1045_1⟩ := at_T116 HR0_1.out x6_1 p1045 q1045
                cases e1045
                replace hx1045_0 := (HB.out.cell (World.block_lt_of_cell? w _ hx1045_0)).trans hx1045_0
                replace hx1045_1 := (HB.out.cell (World.block_lt_of_cell? w _ hx1045_1)).trans hx1045_1
                replace hx1045_2 := (HB.out.cell (World.block_lt_of_cell? w _ hx1045_2)).trans hx1045_2
                have HR1045_1 := Aside0.mk hi1045_1
                have HC1045_1 := Aside0.mk hl1045_1
                clear hi1045_1 hl1045_1
                replace p1045 := eq_true p1045
                replace q1045 := eq_true q1045
                have p1046 : 0 ≤ (x6_1 : Int) := of_decide_eq_true (by assumption)
                have q1046 : x6_1 < (l0_1.length : Int) := of_decide_eq_true (by assumption)
                obtain ⟨ad1046, A1046_1, c1046_1, e1046, hx1046_0, hx1046_1, hx1046_2, hl1046_1, hi1046_1⟩ := at_T116 HR0_1.out x6_1 p1046 q1046
                obtain rfl : ad1045 = ad1046 := (by injection e1046)
                replace hx1046_0 := (HB.out.cell (World.block_lt_of_cell? w _ hx1046_0)).trans hx1046_0
                replace hx1046_1 := (HB.out.cell (World.block_lt_of_cell? w _ hx1046_1)).trans hx1046_1
                replace hx1046_2 := (HB.out.cell (World.block_lt_of_cell? w _ hx1046_2)).trans hx1046_2
                have HR1046_1 := Aside0.mk hi1046_1
                have HC1046_1 := Aside0.mk hl1046_1
                clear hi1046_1 hl1046_1
                replace p1046 := eq_true p1046
                replace q1046 := eq_true q1046
                have ea_ := Option.some.inj (hx1045_1.symm.trans hx1046_1)
                injection ea_ with ea_ en_ ec_
                subst ea_
                subst ec_
                clear en_
                go_wp2_with (first | ((with_reducible refine gate_dst (N := 7) rfl ?_); refine box_event ?hg (N := 7) ?hd (cs := #[.string (⟨#[]⟩ : ByteArray), .slice none 0 0, .string (⟨#[]⟩ : ByteArray)]) (t := 116) ?hr ?_; (case hd => rfl); (case hg => rfl); (case hr => first | (go_simp; done) | (go_simp; rfl)); intro gb1047 hg w20 hbox hb; have n0_ := am (blk_below (g := gb1039) (o := .cells #[.slice A0_0 l0_0.length c0_0, .slice (some ad1045) l0_1.length c0_1] 73 (0, 0)) (by (with_reducible repeat (first | refine kN ?_ _ | refine kD ?_ | refine kA ?_ _)); exact BK1039.out) hb); have n1_ := am (blk_below (g := gb1040) (o := .cells #[.string x1041000_1, .slice none 0 0, .string x1041002_1] 116 (0, 0)) (by (with_reducible repeat (first | refine kN ?_ _ | refine kD ?_ | refine kA ?_ _)); exact BK1040.out) hb); have n2_ := am (below_step (by repeat (first | (with_reducible first | exact HB.out | apply bA | apply bN | apply bD | refine below_set ?_ GE1039.out | refine below_set ?_ GE1040.out) | exact HB.out)) hb); have n3_ := am (hbox); have n4_ := am ((by rw [hg]; exact (below_size (by repeat (first | (with_reducible first | exact HB.out | apply bA | apply bN | apply bD | refine below_set ?_ GE1039.out | refine below_set ?_ GE1040.out) | exact HB.out))) : w.heap.size ≤ gb1047)); have n5_ := am ((by rw [hg]; exact (below_size (by repeat (first | (with_reducible first | exact HB.out | apply bA | apply bN | apply bD | refine below_set ?_ GE1039.out | refine below_set ?_ GE1040.out) | exact HB.out))) : w.heap.size ≤ gb1047)); have n6_ := am ((by rw [hg]; exact Nat.ne_of_lt (blk_lt (g := gb1039) (o := .cells #[.slice A0_0 l0_0.length c0_0, .slice (some ad1045) l0_1.length c0_1] 73 (0, 0)) (by (with_reducible repeat (first | refine kN ?_ _ | refine kD ?_ | refine kA ?_ _)); exact BK1039.out)) : gb1039 ≠ gb1047)); have n7_ := am ((by rw [hg]; exact Nat.ne_of_gt (blk_lt (g := gb1039) (o := .cells #[.slice A0_0 l0_0.length c0_0, .slice (some ad1045) l0_1.length c0_1] 73 (0, 0)) (by (with_reducible repeat (first | refine kN ?_ _ | refine kD ?_ | refine kA ?_ _)); exact BK1039.out)) : gb1047 ≠ gb1039)); have n8_ := am ((by rw [hg]; exact Nat.ne_of_lt (blk_lt (g := gb1040) (o := .cells #[.string x1041000_1, .slice none 0 0, .string x1041002_1] 116 (0, 0)) (by (with_reducible repeat (first | refine kN ?_ _ | refine kD ?_ | refine kA ?_ _)); exact BK1040.out)) : gb1040 ≠ gb1047)); have n9_ := am ((by rw [hg]; exact Nat.ne_of_gt (blk_lt (g := gb1040) (o := .cells #[.string x1041000_1, .slice none 0 0, .string x1041002_1] 116 (0, 0)) (by (with_reducible repeat (first | refine kN ?_ _ | refine kD ?_ | refine kA ?_ _)); exact BK1040.out)) : gb1047 ≠ gb1040)); clear BK1039; clear BK1040; clear HB; have BK1039 := n0_; have BK1040 := n1_; have HB := n2_; have BK1047 := n3_; have GW1047 := n4_; have GE1047 := n5_; have NB1039_1047 := n6_; have NB1047_1039 := n7_; have NB1040_1047 := n8_; have NB1047_1040 := n9_; clear n0_ n1_ n2_ n3_ n4_ n5_ n6_ n7_ n8_ n9_; clear hb hbox hg; have hnb21 := NB1047_1039.out; have hnc21 := NB1039_1047.out; have hnb22 := NB1047_1040.out; have hnc22 := NB1040_1047.out; have hcz23_0 : w20.cell? ⟨gb1047, 0, none⟩ = some (.string (⟨#[]⟩ : ByteArray)) := (blk_cell BK1047.out 0).trans rfl; have hcz23_1 : w20.cell? ⟨gb1047, 1, none⟩ = some (.slice none 0 0) := (blk_cell BK1047.out 1).trans rfl; have hcz23_2 : w20.cell? ⟨gb1047, 2, none⟩ = some (.string (⟨#[]⟩ : ByteArray)) := (blk_cell BK1047.out 2).trans rfl; have hfz23_0 := blk_frozen BK1047.out 0; have hfz23_1 := blk_frozen BK1047.out 1; have hfz23_2 := blk_frozen BK1047.out 2) | ((with_reducible refine gate_dst (N := 33) rfl ?_); refine Kd.R_lit Kd.string _ 9 ?hg (N := 33) ?hd (xs := ([] : List ByteArray)) (inner := []) (ok := fun _ => True) (okp := fun _ => True) ?hr ?hp (fun _ hk => hk) trivial (Below.refl _ _) (Nat.le_refl _) (by simp) ?_; (case hd => rfl); (case hg => rfl); (case hr => first | (go_simp; done) | (go_simp; rfl)); (case hp => exact (Reps.none _ _)); intro v1049 w24 ho25 hb hg_ hnew_; clear hg_ hnew_; (first | rw [← Ny1048.out] at ho25 | (simp only [Int.reduceToNat] at ho25; rw [← Ny1048.out] at ho25)); have n0_ := am (Kd.R_lower ho25 (below_size (by repeat (first | (with_reducible first | exact HB.out | apply bA | apply bN | apply bD | refine below_set ?_ GE1039.out | refine below_set ?_ GE1040.out | refine below_set ?_ GE1047.out) | exact HB.out)))); have n1_ := am (blk_below (g := gb1039) (o := .cells #[.slice A0_0 l0_0.length c0_0, .slice (some ad1045) l0_1.length c0_1] 73 (0, 0)) (by (with_reducible repeat (first | refine kN ?_ _ | refine kD ?_ | refine kA ?_ _)); refine blk_far ?_ NB1039_1047.out _; (with_reducible repeat (first | refine kN ?_ _ | refine kD ?_ | refine kA ?_ _)); refine blk_far ?_ NB1039_1047.out _; (with_reducible repeat (first | refine kN ?_ _ | refine kD ?_ | refine kA ?_ _)); refine blk_far ?_ NB1039_1047.out _; (with_reducible repeat (first | refine kN ?_ _ | refine kD ?_ | refine kA ?_ _)); exact BK1039.out) hb); have n2_ := am (blk_below (g := gb1040) (o := .cells #[.string x1041000_1, .slice none 0 0, .string x1041002_1] 116 (0, 0)) (by (with_reducible repeat (first | refine kN ?_ _ | refine kD ?_ | refine kA ?_ _)); refine blk_far ?_ NB1040_1047.out _; (with_reducible repeat (first | refine kN ?_ _ | refine kD ?_ | refine kA ?_ _)); refine blk_far ?_ NB1040_1047.out _; (with_reducible repeat (first | refine kN ?_ _ | refine kD ?_ | refine kA ?_ _)); refine blk_far ?_ NB1040_1047.out _; (with_reducible repeat (first | refine kN ?_ _ | refine kD ?_ | refine kA ?_ _)); exact BK1040.out) hb); have n3_ := am (blk_below (g := gb1047) (o := .cells #[.string ((rd_T116 l0_1 x6_1).f0), .slice A1045_1 ((rd_T116 l0_1 x6_1).f1).length c1045_1, .string ((rd_T116 l0_1 x6_1).f2)] 116 (0, 0)) (by (with_reducible repeat (first | refine kN ?_ _ | refine kD ?_ | refine kA ?_ _)); refine blk_put (cs := #[.string ((rd_T116 l0_1 x6_1).f0), .slice A1045_1 ((rd_T116 l0_1 x6_1).f1).length c1045_1, .string (⟨#[]⟩ : ByteArray)]) ?_ 2 _ rfl; (with_reducible repeat (first | refine kN ?_ _ | refine kD ?_ | refine kA ?_ _)); refine blk_put (cs := #[.string ((rd_T116 l0_1 x6_1).f0), .slice none 0 0, .string (⟨#[]⟩ : ByteArray)]) ?_ 1 _ rfl; (with_reducible repeat (first | refine kN ?_ _ | refine kD ?_ | refine kA ?_ _)); refine blk_put (cs := #[.string (⟨#[]⟩ : ByteArray), .slice none 0 0, .string (⟨#[]⟩ : ByteArray)]) ?_ 0 _ rfl; (with_reducible repeat (first | refine kN ?_ _ | refine kD ?_ | refine kA ?_ _)); exact BK1047.out) hb); have n4_ := am (below_step (by repeat (first | (with_reducible first | exact HB.out | apply bA | apply bN | apply bD | refine below_set ?_ GE1039.out | refine below_set ?_ GE1040.out | refine below_set ?_ GE1047.out) | exact HB.out)) hb); clear BK1039; clear BK1040; clear BK1047; clear HB; have HO1050 := n0_; have BK1039 := n1_; have BK1040 := n2_; have BK1047 := n3_; have HB := n4_; clear n0_ n1_ n2_ n3_ n4_; clear hb ho25; have hcz26_0 : w24.cell? ⟨gb1047, 0, none⟩ = some (.string ((rd_T116 l0_1 x6_1).f0)) := (blk_cell BK1047.out 0).trans rfl; have hcz26_1 : w24.cell? ⟨gb1047, 1, none⟩ = some (.slice A1045_1 ((rd_T116 l0_1 x6_1).f1).length c1045_1) := (blk_cell BK1047.out 1).trans rfl; have hcz26_2 : w24.cell? ⟨gb1047, 2, none⟩ = some (.string ((rd_T116 l0_1 x6_1).f2)) := (blk_cell BK1047.out 2).trans rfl; have hfz26_0 := blk_frozen BK1047.out 0; have hfz26_1 := blk_frozen BK1047.out 1; have hfz26_2 := blk_frozen BK1047.out 2) | ((with_reducible refine gate_builtin (b := .append) (xs := #[.tmp 33, .tmp 35]) rfl ?_); at_builtin; refine Kd.R_append_rows Kd.string (w0 := w) w.heap.size rfl (.tmp 33) (.tmp 35) 63 9 (.string ⟨#[]⟩) 16 rfl Try.underlying63 info9 rfl (by decide) (by omega) v1049 y1048 ((rd_T116 l0_1 x6_1).f1) _ _ _ (fun _ => True) (fun _ => False) rfl rfl ?aO ?aR (fun _ _ h => h) (fun _ h => h.elim) ?aF ?aB ?aS ?aL ?_; (case aR => repeat (first | exact (Kd.C_below HR1046_1.out HB.out) | (with_reducible refine cA ?_ _) | (with_reducible refine cN ?_ _) | (with_reducible refine cD ?_))); (case aB => exact (by repeat (first | (with_reducible first | exact HB.out | apply bA | apply bN | apply bD | refine below_set ?_ GE1039.out | refine below_set ?_ GE1040.out | refine below_set ?_ GE1047.out) | exact HB.out))); (case aF => exact (fun _ _ => trivial)); (case aO => exact (by (with_reducible repeat (first | apply rA | apply rN | apply rD)); exact HO1050.out)); (case aS => exact (below_size (by repeat (first | (with_reducible first | exact HB.out | apply bA | apply bN | apply bD | refine below_set ?_ GE1039.out | refine below_set ?_ GE1040.out | refine below_set ?_ GE1047.out) | exact HB.out)))); (case aL => have := LMc17.out; omega); intro v1052 w27 ho hb hg hat; rw [← Ny1051.out] at ho; have n0_ := am (blk_grown (g := gb1039) (o := .cells #[.slice A0_0 l0_0.length c0_0, .slice (some ad1045) l0_1.length c0_1] 73 (0, 0)) (by (with_reducible repeat (first | refine kN ?_ _ | refine kD ?_ | refine kA ?_ _)); exact BK1039.out) hg (Kd.R_ne HO1050.out BK1039.out (by decide))); have n1_ := am (blk_grown (g := gb1040) (o := .cells #[.string x1041000_1, .slice none 0 0, .string x1041002_1] 116 (0, 0)) (by (with_reducible repeat (first | refine kN ?_ _ | refine kD ?_ | refine kA ?_ _)); exact BK1040.out) hg (Kd.R_ne HO1050.out BK1040.out (by decide))); have n2_ := am (blk_grown (g := gb1047) (o := .cells #[.string ((rd_T116 l0_1 x6_1).f0), .slice A1045_1 ((rd_T116 l0_1 x6_1).f1).length c1045_1, .string ((rd_T116 l0_1 x6_1).f2)] 116 (0, 0)) (by (with_reducible repeat (first | refine kN ?_ _ | refine kD ?_ | refine kA ?_ _)); exact BK1047.out) hg (Kd.R_ne HO1050.out BK1047.out (by decide))); have n3_ := am (hb); have n4_ := am (ho); clear BK1039; clear BK1040; clear BK1047; clear HB; clear HO1050; have BK1039 := n0_; have BK1040 := n1_; have BK1047 := n2_; have HB := n3_; have HO1053 := n4_; clear n0_ n1_ n2_ n3_ n4_; clear ho hb hg hat; obtain ⟨Ao28, co28, eo28⟩ := Kd.R_slice HO1053.out; subst eo28; have hcz29_0 : w27.cell? ⟨gb1047, 0, none⟩ = some (.string ((rd_T116 l0_1 x6_1).f0)) := (blk_cell BK1047.out 0).trans rfl; have hcz29_1 : w27.cell? ⟨gb1047, 1, none⟩ = some (.slice A1045_1 ((rd_T116 l0_1 x6_1).f1).length c1045_1) := (blk_cell BK1047.out 1).trans rfl; have hcz29_2 : w27.cell? ⟨gb1047, 2, none⟩ = some (.string ((rd_T116 l0_1 x6_1).f2)) := (blk_cell BK1047.out 2).trans rfl; have hfz29_0 := blk_frozen BK1047.out 0; have hfz29_1 := blk_frozen BK1047.out 1; have hfz29_2 := blk_frozen BK1047.out 2; have hcz30_0 : w27.cell? ⟨gb1040, 0, none⟩ = some (.string x1041000_1) := (blk_cell BK1040.out 0).trans rfl; have hcz30_1 : w27.cell? ⟨gb1040, 1, none⟩ = some (.slice none 0 0) := (blk_cell BK1040.out 1).trans rfl; have hcz30_2 : w27.cell? ⟨gb1040, 2, none⟩ = some (.string x1041002_1) := (blk_cell BK1040.out 2).trans rfl; have hfz30_0 := blk_frozen BK1040.out 0; have hfz30_1 := blk_frozen BK1040.out 1; have hfz30_2 := blk_frozen BK1040.out 2))
                refine bodyPost_ret (results_ct rfl _ _ gb1040 116 #[.string ((rd_T116 l0_1 x6_1).f0), .slice Ao28 y1051.length co28, .string ((rd_T116 l0_1 x6_1).f2)] (0, 0) _ rfl (by (with_reducible repeat (first | refine kN ?_ _ | refine kD ?_ | refine kA ?_ _)); refine blk_put (cs := #[.string ((rd_T116 l0_1 x6_1).f0), .slice Ao28 y1051.length co28, .string x1041002_1]) ?_ 2 _ rfl; (with_reducible repeat (first | refine kN ?_ _ | refine kD ?_ | refine kA ?_ _)); refine blk_put (cs := #[.string ((rd_T116 l0_1 x6_1).f0), .slice none 0 0, .string x1041002_1]) ?_ 1 _ rfl; (with_reducible repeat (first | refine kN ?_ _ | refine kD ?_ | refine kA ?_ _)); refine blk_put (cs := #[.string x1041000_1, .slice none 0 0, .string x1041002_1]) ?_ 0 _ rfl; (with_reducible repeat (first | refine kN ?_ _ | refine kD ?_ | refine kA ?_ _)); refine blk_far ?_ NB1040_1047.out _; (with_reducible repeat (first | refine kN ?_ _ | refine kD ?_ | refine kA ?_ _)); exact BK1040.out) Try.underlying116 rfl (by kernel_rfl)) rfl ?_
                exact ⟨_, by first | rfl | (simp [errW_none, errW_some] <;> rfl) | (simp [*, errW_none, errW_some] <;> rfl), by (with_reducible repeat (first | apply rA | apply rN | apply rD)); exact Kd.R_mono (Kd.R_far (p := ⟨gb1040, 2, none⟩) (Kd.R_far (p := ⟨gb1040, 1, none⟩) (Kd.R_far (p := ⟨gb1040, 0, none⟩) (Kd.R_far (p := ⟨gb1047, 1, none⟩) (Kd.R_types (Kd.R_types HO1053.out BK1047.out (by decide)) BK1040.out (by decide)) (fun _ hk => hk.1.2) (.slice Ao28 y1051.length co28)) (fun _ hk => hk.2) (.string ((rd_T116 l0_1 x6_1).f0))) (fun _ hk => hk.2) (.slice Ao28 y1051.length co28)) (fun _ hk => hk.2) (.string ((rd_T116 l0_1 x6_1).f2))) (fun _ hk => trivial), by repeat (first | (with_reducible first | exact HB.out | apply bA | apply bN | apply bD | refine below_set ?_ GE1039.out | refine below_set ?_ GE1040.out | refine below_set ?_ GE1047.out) | exact HB.out)⟩
              · rw [if_neg c17] at H
                exact absurd H (by simp)
            · rw [if_neg c16] at H
              have c16b0 : (((rd_T116 l0_1 x6_1).f0).toList == a1.toList) = false := beq_eq_false_iff_ne.mpr c16
              have c16b1 : (((rd_T116 l0_1 x6_1).f0).toList != a1.toList) = true := bne_iff_ne.mpr c16
              have H' := Aside0.mk H
              clear H
              have hnb31 := NB1039_1040.out
              have hnc31 := NB1040_1039.out
              have hcz32_0 : wr.cell? ⟨gb1039, 0, none⟩ = some (.slice A0_0 l0_0.length c0_0) := (blk_cell BK1039.out 0).trans rfl
              have hcz32_1 : wr.cell? ⟨gb1039, 1, none⟩ = some (.slice A0_1 l0_1.length c0_1) := (blk_cell BK1039.out 1).trans rfl
              have hfz32_0 := blk_frozen BK1039.out 0
              have hfz32_1 := blk_frozen BK1039.out 1
              have p1045 : 0 ≤ (x6_1 : Int) := of_decide_eq_true (by assumption)
              have q1045 : x6_1 < (l0_1.length : Int) := of_decide_eq_true (by assumption)
              obtain ⟨ad1045, A1045_1, c1045_1, e1045, hx1045_0, hx1045_1, hx1045_2, hl1045_1, hi1045_1⟩ := at_T116 HR0_1.out x6_1 p1045 q1045
              cases e1045
              replace hx1045_0 := (HB.out.cell (World.block_lt_of_cell? w _ hx1045_0)).trans hx1045_0
              replace hx1045_1 := (HB.out.cell (World.block_lt_of_cell? w _ hx1045_1)).trans hx1045_1
              replace hx1045_2 := (HB.out.cell (World.block_lt_of_cell? w _ hx1045_2)).trans hx1045_2
              have HR1045_1 := Aside0.mk hi1045_1
              have HC1045_1 := Aside0.mk hl1045_1
              clear hi1045_1 hl1045_1
              replace p1045 := eq_true p1045
              replace q1045 := eq_true q1045
              go_wp2
              go_roundg k1
              case measure => have := HK1.out; omega
              case rel => exact ⟨(wrap64 (x6_1 + 1)), (x1041000_1), (x1041002_1), (by first | rfl | (simp; done) | (simp [*]; done)), H', ⟨by have := HK1.out; omega⟩, ⟨by (with_reducible repeat (first | refine kN ?_ _ | refine kD ?_ | refine kA ?_ _)); exact BK1039.out⟩, ⟨by (with_reducible repeat (first | refine kN ?_ _ | refine kD ?_ | refine kA ?_ _)); exact BK1040.out⟩, ⟨by repeat (first | (with_reducible first | exact HB.out | apply bA | apply bN | apply bD | refine below_set ?_ GE1039.out | refine below_set ?_ GE1040.out) | exact HB.out)⟩⟩
          · rw [if_neg c15] at H
            exact absurd H (by simp)
        · rw [if_neg c14] at H
          have c14b0 : decide (x6_1 < (l0_1.length : Int)) = false := decide_eq_false c14
          clear c14
          simp only [Option.some.injEq, Prod.mk.injEq] at H
          obtain ⟨rfl, rfl, rfl, rfl⟩ := H
          have hnb33 := NB1039_1040.out
          have hnc33 := NB1040_1039.out
          have hcz34_0 : wr.cell? ⟨gb1039, 0, none⟩ = some (.slice A0_0 l0_0.length c0_0) := (blk_cell BK1039.out 0).trans rfl
          have hcz34_1 : wr.cell? ⟨gb1039, 1, none⟩ = some (.slice A0_1 l0_1.length c0_1) := (blk_cell BK1039.out 1).trans rfl
          have hfz34_0 := blk_frozen BK1039.out 0
          have hfz34_1 := blk_frozen BK1039.out 1
          have hcz35_0 : wr.cell? ⟨gb1040, 0, none⟩ = some (.string x1041000_1) := (blk_cell BK1040.out 0).trans rfl
          have hcz35_1 : wr.cell? ⟨gb1040, 1, none⟩ = some (.slice none 0 0) := (blk_cell BK1040.out 1).trans rfl
          have hcz35_2 : wr.cell? ⟨gb1040, 2, none⟩ = some (.string x1041002_1) := (blk_cell BK1040.out 2).trans rfl
          have hfz35_0 := blk_frozen BK1040.out 0
          have hfz35_1 := blk_frozen BK1040.out 1
          have hfz35_2 := blk_frozen BK1040.out 2
          go_wp2
          refine bodyPost_ret (results_ct rfl _ _ gb1040 116 #[.string (⟨#[]⟩ : ByteArray), .slice none 0 0, .string (⟨#[]⟩ : ByteArray)] (0, 0) _ rfl (by (with_reducible repeat (first | refine kN ?_ _ | refine kD ?_ | refine kA ?_ _)); refine blk_put (cs := #[.string (⟨#[]⟩ : ByteArray), .slice none 0 0, .string x1041002_1]) ?_ 2 _ rfl; (with_reducible repeat (first | refine kN ?_ _ | refine kD ?_ | refine kA ?_ _)); refine blk_put (cs := #[.string (⟨#[]⟩ : ByteArray), .slice none 0 0, .string x1041002_1]) ?_ 1 _ rfl; (with_reducible repeat (first | refine kN ?_ _ | refine kD ?_ | refine kA ?_ _)); refine blk_put (cs := #[.string x1041000_1, .slice none 0 0, .string x1041002_1]) ?_ 0 _ rfl; (with_reducible repeat (first | refine kN ?_ _ | refine kD ?_ | refine kA ?_ _)); exact BK1040.out) Try.underlying116 rfl (by kernel_rfl)) rfl ?_
          exact ⟨_, by first | rfl | (simp [errW_none, errW_some] <;> rfl) | (simp [*, errW_none, errW_some] <;> rfl), by first | exact Kd.R_nil _ _ _ _ _ | exact Kd.N_nil _ _ _ _ _ | exact Kd.V_nil _ _ _ _ _ | exact Kd.Q_nil _ _ _ _ _ | exact Kd.S_nil _ _ _ _ _, by repeat (first | (with_reducible first | exact HB.out | apply bA | apply bN | apply bD | refine below_set ?_ GE1039.out | refine below_set ?_ GE1040.out) | exact HB.out)⟩

end Go.Proofs.Ytdgjddkibiffnaa.F
namespace Go.Proofs.Ytdgjddkibiffnaa.F
open Go.RowKit Go.Proofs.YtdgjddkibiffnaaW.PrintWords Go.Proofs.YtdgjddkibiffnaaW.PrintLast Go.Proofs.YtdgjddkibiffnaaW.PrintMore
attribute [local go_sem] binOp_string_gtr_ binOp_string_geq_ binOp_string_leq_ max2_int min2_int max_two min_two max_three min_three max_four min_four   -- for this text's walks alone
set_option linter.unusedVariables false
set_option linter.unusedSimpArgs false

/-! ### spec_SortOf: function 48 -/
mutual
def spec_SortOf.j0 : Nat → List (S120) → Bool → List ByteArray → List (S116) → Int → Int → ByteArray → List (S29) → ByteArray → List ByteArray → ByteArray → Option (ByteArray)
  | 0, _, _, _, _, _, _, _, _, _, _, _ => none
  | k + 1, x2, x39, x1055000, x1055001, x1056000, x1056001, x1056002, x1056003, x1064000, x1064001, x1064002 => if x39 = true then (some (⟨#[]⟩ : ByteArray)) else (spec_SortOf.l0 k x2 0 x1055000 x1055001 x1056000 x1056001 x1056002 x1056003 x1064000 x1064001 x1064002)
def spec_SortOf.l0 : Nat → List (S120) → Int → List ByteArray → List (S116) → Int → Int → ByteArray → List (S29) → ByteArray → List ByteArray → ByteArray → Option (ByteArray)
  | 0, _, _, _, _, _, _, _, _, _, _, _ => none
  | k + 1, x2, x9, x1055000, x1055001, x1056000, x1056001, x1056002, x1056003, x1064000, x1064001, x1064002 => if x9 < (x1056003.length : Int) then (if 0 ≤ x9 then ((spec_SortOf.f k x1055000 x1055001 ((rd_T29 x1056003 x9).f0) ((rd_T29 x1056003 x9).f1) ((rd_T29 x1056003 x9).f2) ((rd_T29 x1056003 x9).f3) x2).bind fun t1065 => (if x9 < (x1064001.length : Int) then (if t1065.toList = (rdOf ByteArray.empty x1064001 x9).toList then (if (rdOf ByteArray.empty x1064001 x9).toList = ([] : List UInt8) then (some (⟨#[]⟩ : ByteArray)) else (spec_SortOf.l0 k x2 (wrap64 (x9 + 1)) x1055000 x1055001 x1056000 x1056001 x1056002 x1056003 x1064000 x1064001 x1064002)) else (some (⟨#[]⟩ : ByteArray))) else (none))) else (none)) else (some x1064002)
def spec_SortOf.f : Nat → List ByteArray → List (S116) → Int → Int → ByteArray → List (S29) → List (S120) → Option (ByteArray)
  | 0, _, _, _, _, _, _, _ => none
  | k + 1, l0_0, l0_1, a1_0, a1_1, a1_2, l1_3, l2 => if a1_0 = 3 then (some (⟨#[119, 111, 114, 100]⟩ : ByteArray)) else (if a1_0 = 1 then ((spec_l6Var.f k l2 a1_2).bind fun t1056 => (some t1056)) else (if a1_0 = 2 then ((spec_FindOp.f k l0_0 l0_1 a1_2).bind fun bt1057 => (if bt1057.2.2.2 = true then (spec_SortOf.j0 k l2 ((bt1057.2.1.length : Int) != (l1_3.length : Int)) l0_0 l0_1 a1_0 a1_1 a1_2 l1_3 bt1057.1 bt1057.2.1 bt1057.2.2.1) else (spec_SortOf.j0 k l2 true l0_0 l0_1 a1_0 a1_1 a1_2 l1_3 bt1057.1 bt1057.2.1 bt1057.2.2.1))) else (some (⟨#[]⟩ : ByteArray))))
end
def spec_SortOf.T13 : Bool × List (List Nat × List Nat) := (true, [([], []), ([], []), ([1], [1]), ([], []), ([2, 3], [2, 3]), ([4], [4]), ([], []), ([0, 5, 6], [0, 5, 6]), ([], []), ([8], [8]), ([], []), ([9, 10], [9, 10]), ([11], [11]), ([7, 12], [7, 12]), ([13, 7], [13]), ([14], [14]), ([15, 14], [14, 15]), ([14], [14]), ([16, 17, 14], [14, 16, 17]), ([18, 14], [14, 18]), ([19, 14], [14, 19]), ([14, 20], [14, 20])])
def spec_SortOf.B13 : List Nat := [0, 0, 2, 0, 14, 30, 0, 127, 0, 256, 0, 1792, 3840, 8191, 16383, 32767, 65535, 32767, 262143, 524287, 1048575, 2097151]
theorem spec_SortOf.tab13 : rtab .any (opsOf Try.f48 13) = spec_SortOf.T13 := by kernel_rfl
theorem spec_SortOf.bits13 : waitsOk spec_SortOf.T13.2 spec_SortOf.B13 = true := by kernel_rfl
set_option maxHeartbeats 8000000 in
set_option maxRecDepth 100000 in
theorem spec_SortOf.calls (k : Nat) : ∀ (A0_0 : Option Addr) (c0_0 : Nat) (l0_0 : List ByteArray) (A0_1 : Option Addr) (c0_1 : Nat) (l0_1 : List (S116)) (a1_0 : Int) (a1_1 : Int) (a1_2 : ByteArray) (A1_3 : Option Addr) (c1_3 : Nat) (l1_3 : List (S29)) (A2 : Option Addr) (c2 : Nat) (l2 : List (S120)) (r : ByteArray) (w : World) (hr0_0 : Kd.C Kd.string w A0_0 l0_0.length l0_0) (hc0_0 : l0_0.length ≤ c0_0) (hr0_1 : Kd.C k116 w A0_1 l0_1.length l0_1) (hc0_1 : l0_1.length ≤ c0_1) (hr1_3 : Kd.C k29 w A1_3 l1_3.length l1_3) (hc1_3 : l1_3.length ≤ c1_3) (hr2 : Kd.C k120 w A2 l2.length l2) (hc2 : l2.length ≤ c2) (h : spec_SortOf.f k l0_0 l0_1 a1_0 a1_1 a1_2 l1_3 l2 = some r),
    Calls Try.prog 48 #[.agg #[.slice A0_0 l0_0.length c0_0, .slice A0_1 l0_1.length c0_1], .agg #[.int .i64 a1_0, .int .i64 a1_1, .string a1_2, .slice A1_3 l1_3.length c1_3], .slice A2 l2.length c2] w fun e w' => e = .returned (.string r) ∧ Below w.heap.size w w' := by
  induction k using Nat.strongRecOn with
  | _ k ih =>
  intro A0_0 c0_0 l0_0 A0_1 c0_1 l0_1 a1_0 a1_1 a1_2 A1_3 c1_3 l1_3 A2 c2 l2 r w hr0_0 hc0_0 hr0_1 hc0_1 hr1_3 hc1_3 hr2 hc2 h
  cases k with
  | zero => exact absurd h (by simp [spec_SortOf.f])
  | succ k =>
  simp only [spec_SortOf.f] at h
  have hu73 := Try.underlying73
  have hu29 := Try.underlying29
  have hu116 := Try.underlying116
  have HR0_0 := Aside0.mk hr0_0
  have HC0_0 := Aside0.mk hc0_0
  clear hr0_0 hc0_0
  have HR0_1 := Aside0.mk hr0_1
  have HC0_1 := Aside0.mk hc0_1
  clear hr0_1 hc0_1
  have HR1_3 := Aside0.mk hr1_3
  have HC1_3 := Aside0.mk hc1_3
  clear hr1_3 hc1_3
  have HR2 := Aside0.mk hr2
  have HC2 := Aside0.mk hc2
  clear hr2 hc2
  have HB := am (Below.refl w.heap.size w)
  have H : (if a1_0 = 3 then (some (⟨#[119, 111, 114, 100]⟩ : ByteArray)) else (if a1_0 = 1 then ((spec_l6Var.f k l2 a1_2).bind fun t1056 => (some t1056)) else (if a1_0 = 2 then ((spec_FindOp.f k l0_0 l0_1 a1_2).bind fun bt1057 => (if bt1057.2.2.2 = true then (spec_SortOf.j0 k l2 ((bt1057.2.1.length : Int) != (l1_3.length : Int)) l0_0 l0_1 a1_0 a1_1 a1_2 l1_3 bt1057.1 bt1057.2.1 bt1057.2.2.1) else (spec_SortOf.j0 k l2 true l0_0 l0_1 a1_0 a1_1 a1_2 l1_3 bt1057.1 bt1057.2.1 bt1057.2.2.1))) else (some (⟨#[]⟩ : ByteArray))))) = some r := h
  clear h
  by_cases c4 : a1_0 = 3
  · rw [if_pos c4] at H
    have c4b0 : (a1_0 == 3) = true := beq_iff_eq.mpr c4
    have c4b1 : (a1_0 != 3) = false := bne_eq_false_iff_eq.mpr c4
    clear c4
    obtain rfl := Option.some.inj H
    go_enter Try.func48, Try.ntmps48
    go_wp2_with (first | ((with_reducible refine gate_dst (N := 3) rfl ?_); (try (refine gate_guard (by rfl) ?_; dsimp only)); refine box_event ?hg (N := 3) ?hd (cs := #[.slice A0_0 l0_0.length c0_0, .slice A0_1 l0_1.length c0_1]) (t := 73) ?hr ?_; (case hd => rfl); (case hg => rfl); (case hr => first | (go_simp; done) | (go_simp; rfl)); intro gb1054 hg w5 hbox hb; have n0_ := am (below_step (by repeat (first | (with_reducible first | exact HB.out | apply bA | apply bN | apply bD) | exact HB.out)) hb); have n1_ := am (hbox); have n2_ := am ((by rw [hg]; exact (below_size (by repeat (first | (with_reducible first | exact HB.out | apply bA | apply bN | apply bD) | exact HB.out))) : w.heap.size ≤ gb1054)); have n3_ := am ((by rw [hg]; exact (below_size (by repeat (first | (with_reducible first | exact HB.out | apply bA | apply bN | apply bD) | exact HB.out))) : w.heap.size ≤ gb1054)); clear HB; have HB := n0_; have BK1054 := n1_; have GW1054 := n2_; have GE1054 := n3_; clear n0_ n1_ n2_ n3_; clear hb hbox hg) | ((with_reducible refine gate_dst (N := 4) rfl ?_); (try (refine gate_guard (by rfl) ?_; dsimp only)); refine box_event ?hg (N := 4) ?hd (cs := #[.int .i64 a1_0, .int .i64 a1_1, .string a1_2, .slice A1_3 l1_3.length c1_3]) (t := 29) ?hr ?_; (case hd => rfl); (case hg => rfl); (case hr => first | (go_simp; done) | (go_simp; rfl)); intro gb1055 hg w6 hbox hb; have n0_ := am (blk_below (g := gb1054) (o := .cells #[.slice A0_0 l0_0.length c0_0, .slice A0_1 l0_1.length c0_1] 73 (0, 0)) (by (with_reducible repeat (first | refine kN ?_ _ | refine kD ?_ | refine kA ?_ _)); exact BK1054.out) hb); have n1_ := am (below_step (by repeat (first | (with_reducible first | exact HB.out | apply bA | apply bN | apply bD | refine below_set ?_ GE1054.out) | exact HB.out)) hb); have n2_ := am (hbox); have n3_ := am ((by rw [hg]; exact (below_size (by repeat (first | (with_reducible first | exact HB.out | apply bA | apply bN | apply bD | refine below_set ?_ GE1054.out) | exact HB.out))) : w.heap.size ≤ gb1055)); have n4_ := am ((by rw [hg]; exact (below_size (by repeat (first | (with_reducible first | exact HB.out | apply bA | apply bN | apply bD | refine below_set ?_ GE1054.out) | exact HB.out))) : w.heap.size ≤ gb1055)); have n5_ := am ((by rw [hg]; exact Nat.ne_of_lt (blk_lt (g := gb1054) (o := .cells #[.slice A0_0 l0_0.length c0_0, .slice A0_1 l0_1.length c0_1] 73 (0, 0)) (by (with_reducible repeat (first | refine kN ?_ _ | refine kD ?_ | refine kA ?_ _)); exact BK1054.out)) : gb1054 ≠ gb1055)); have n6_ := am ((by rw [hg]; exact Nat.ne_of_gt (blk_lt (g := gb1054) (o := .cells #[.slice A0_0 l0_0.length c0_0, .slice A0_1 l0_1.length c0_1] 73 (0, 0)) (by (with_reducible repeat (first | refine kN ?_ _ | refine kD ?_ | refine kA ?_ _)); exact BK1054.out)) : gb1055 ≠ gb1054)); clear BK1054; clear HB; have BK1054 := n0_; have HB := n1_; have BK1055 := n2_; have GW1055 := n3_; have GE1055 := n4_; have NB1054_1055 := n5_; have NB1055_1054 := n6_; clear n0_ n1_ n2_ n3_ n4_ n5_ n6_; clear hb hbox hg; have hnb7 := NB1055_1054.out; have hnc7 := NB1054_1055.out; have hcz8_0 : w6.cell? ⟨gb1055, 0, none⟩ = some (.int .i64 a1_0) := (blk_cell BK1055.out 0).trans rfl; have hcz8_1 : w6.cell? ⟨gb1055, 1, none⟩ = some (.int .i64 a1_1) := (blk_cell BK1055.out 1).trans rfl; have hcz8_2 : w6.cell? ⟨gb1055, 2, none⟩ = some (.string a1_2) := (blk_cell BK1055.out 2).trans rfl; have hcz8_3 : w6.cell? ⟨gb1055, 3, none⟩ = some (.slice A1_3 l1_3.length c1_3) := (blk_cell BK1055.out 3).trans rfl; have hfz8_0 := blk_frozen BK1055.out 0; have hfz8_1 := blk_frozen BK1055.out 1; have hfz8_2 := blk_frozen BK1055.out 2; have hfz8_3 := blk_frozen BK1055.out 3))
    go_ret
    exact ⟨by first | rfl | (simp [errW_none, errW_some] <;> rfl) | (simp [*, errW_none, errW_some] <;> rfl), by repeat (first | (with_reducible first | exact HB.out | apply bA | apply bN | apply bD | refine below_set ?_ GE1054.out | refine below_set ?_ GE1055.out) | exact HB.out)⟩
  · rw [if_neg c4] at H
    have c4b0 : (a1_0 == 3) = false := beq_eq_false_iff_ne.mpr c4
    have c4b1 : (a1_0 != 3) = true := bne_iff_ne.mpr c4
    by_cases c9 : a1_0 = 1
    · rw [if_pos c9] at H
      have c9b0 : (a1_0 == 1) = true := beq_iff_eq.mpr c9
      have c9b1 : (a1_0 != 1) = false := bne_eq_false_iff_eq.mpr c9
      clear c9
      replace H := Option.bind_eq_some_iff.mp H
      obtain ⟨t1056, A100, H⟩ := H
      try dsimp only at H
      have A10 := Aside0.mk A100
      clear A100
      obtain rfl := Option.some.inj H
      go_enter Try.func48, Try.ntmps48
      go_wp2_with (first | ((with_reducible refine gate_dst (N := 3) rfl ?_); (try (refine gate_guard (by rfl) ?_; dsimp only)); refine box_event ?hg (N := 3) ?hd (cs := #[.slice A0_0 l0_0.length c0_0, .slice A0_1 l0_1.length c0_1]) (t := 73) ?hr ?_; (case hd => rfl); (case hg => rfl); (case hr => first | (go_simp; done) | (go_simp; rfl)); intro gb1054 hg w11 hbox hb; have n0_ := am (below_step (by repeat (first | (with_reducible first | exact HB.out | apply bA | apply bN | apply bD) | exact HB.out)) hb); have n1_ := am (hbox); have n2_ := am ((by rw [hg]; exact (below_size (by repeat (first | (with_reducible first | exact HB.out | apply bA | apply bN | apply bD) | exact HB.out))) : w.heap.size ≤ gb1054)); have n3_ := am ((by rw [hg]; exact (below_size (by repeat (first | (with_reducible first | exact HB.out | apply bA | apply bN | apply bD) | exact HB.out))) : w.heap.size ≤ gb1054)); clear HB; have HB := n0_; have BK1054 := n1_; have GW1054 := n2_; have GE1054 := n3_; clear n0_ n1_ n2_ n3_; clear hb hbox hg) | ((with_reducible refine gate_dst (N := 4) rfl ?_); (try (refine gate_guard (by rfl) ?_; dsimp only)); refine box_event ?hg (N := 4) ?hd (cs := #[.int .i64 a1_0, .int .i64 a1_1, .string a1_2, .slice A1_3 l1_3.length c1_3]) (t := 29) ?hr ?_; (case hd => rfl); (case hg => rfl); (case hr => first | (go_simp; done) | (go_simp; rfl)); intro gb1055 hg w12 hbox hb; have n0_ := am (blk_below (g := gb1054) (o := .cells #[.slice A0_0 l0_0.length c0_0, .slice A0_1 l0_1.length c0_1] 73 (0, 0)) (by (with_reducible repeat (first | refine kN ?_ _ | refine kD ?_ | refine kA ?_ _)); exact BK1054.out) hb); have n1_ := am (below_step (by repeat (first | (with_reducible first | exact HB.out | apply bA | apply bN | apply bD | refine below_set ?_ GE1054.out) | exact HB.out)) hb); have n2_ := am (hbox); have n3_ := am ((by rw [hg]; exact (below_size (by repeat (first | (with_reducible first | exact HB.out | apply bA | apply bN | apply bD | refine below_set ?_ GE1054.out) | exact HB.out))) : w.heap.size ≤ gb1055)); have n4_ := am ((by rw [hg]; exact (below_size (by repeat (first | (with_reducible first | exact HB.out | apply bA | apply bN | apply bD | refine below_set ?_ GE1054.out) | exact HB.out))) : w.heap.size ≤ gb1055)); have n5_ := am ((by rw [hg]; exact Nat.ne_of_lt (blk_lt (g := gb1054) (o := .cells #[.slice A0_0 l0_0.length c0_0, .slice A0_1 l0_1.length c0_1] 73 (0, 0)) (by (with_reducible repeat (first | refine kN ?_ _ | refine kD ?_ | refine kA ?_ _)); exact BK1054.out)) : gb1054 ≠ gb1055)); have n6_ := am ((by rw [hg]; exact Nat.ne_of_gt (blk_lt (g := gb1054) (o := .cells #[.slice A0_0 l0_0.length c0_0, .slice A0_1 l0_1.length c0_1] 73 (0, 0)) (by (with_reducible repeat (first | refine kN ?_ _ | refine kD ?_ | refine kA ?_ _)); exact BK1054.out)) : gb1055 ≠ gb1054)); clear BK1054; clear HB; have BK1054 := n0_; have HB := n1_; have BK1055 := n2_; have GW1055 := n3_; have GE1055 := n4_; have NB1054_1055 := n5_; have NB1055_1054 := n6_; clear n0_ n1_ n2_ n3_ n4_ n5_ n6_; clear hb hbox hg; have hnb13 := NB1055_1054.out; have hnc13 := NB1054_1055.out; have hcz14_0 : w12.cell? ⟨gb1055, 0, none⟩ = some (.int .i64 a1_0) := (blk_cell BK1055.out 0).trans rfl; have hcz14_1 : w12.cell? ⟨gb1055, 1, none⟩ = some (.int .i64 a1_1) := (blk_cell BK1055.out 1).trans rfl; have hcz14_2 : w12.cell? ⟨gb1055, 2, none⟩ = some (.string a1_2) := (blk_cell BK1055.out 2).trans rfl; have hcz14_3 : w12.cell? ⟨gb1055, 3, none⟩ = some (.slice A1_3 l1_3.length c1_3) := (blk_cell BK1055.out 3).trans rfl; have hfz14_0 := blk_frozen BK1055.out 0; have hfz14_1 := blk_frozen BK1055.out 1; have hfz14_2 := blk_frozen BK1055.out 2; have hfz14_3 := blk_frozen BK1055.out 3) | ((with_reducible refine gate_callee (f := 99) rfl ?_); refine goesL_ (some 19) rfl rfl Try.func99 (by kernel_rfl) rfl #[.slice A2 l2.length c2, .string a1_2] rfl (by (try simp only [List.map_toArray, List.map_cons, List.map_nil]); first | done | rfl | (simp only [List.length_drop, List.length_take]; rfl)) ?_; (with_reducible refine (spec_l6Var.calls k _ _ l2 a1_2 t1056 _ ?side1 ?side2 A10.out).mono ?_); (case side1 => repeat (first | exact (Kd.C_below HR2.out HB.out) | (with_reducible refine cA ?_ _) | (with_reducible refine cN ?_ _) | (with_reducible refine cD ?_))); (case side2 => exact HC2.out); rintro e w' ⟨rfl, ⟨nd, rfl⟩⟩; refine ⟨_, rfl, ?_⟩))
      go_ret
      exact ⟨by first | rfl | (simp [errW_none, errW_some] <;> rfl) | (simp [*, errW_none, errW_some] <;> rfl), by repeat (first | (with_reducible first | exact HB.out | apply bA | apply bN | apply bD | refine below_set ?_ GE1054.out | refine below_set ?_ GE1055.out) | exact HB.out)⟩
    · rw [if_neg c9] at H
      have c9b0 : (a1_0 == 1) = false := beq_eq_false_iff_ne.mpr c9
      have c9b1 : (a1_0 != 1) = true := bne_iff_ne.mpr c9
      by_cases c15 : a1_0 = 2
      · rw [if_pos c15] at H
        have c15b0 : (a1_0 == 2) = true := beq_iff_eq.mpr c15
        have c15b1 : (a1_0 != 2) = false := bne_eq_false_iff_eq.mpr c15
        clear c15
        replace H := Option.bind_eq_some_iff.mp H
        obtain ⟨⟨t1057, t1058, t1061, t1062⟩, A160, H⟩ := H
        try dsimp only at H
        have A16 := Aside0.mk A160
        clear A160
        have HC17 := Aside0.mk H
        clear H
        go_enter Try.func48, Try.ntmps48
        go_upto_region 8 with (first | ((with_reducible refine gate_dst (N := 3) rfl ?_); (try (refine gate_guard (by rfl) ?_; dsimp only)); refine box_event ?hg (N := 3) ?hd (cs := #[.slice A0_0 l0_0.length c0_0, .slice A0_1 l0_1.length c0_1]) (t := 73) ?hr ?_; (case hd => rfl); (case hg => rfl); (case hr => first | (go_simp; done) | (go_simp; rfl)); intro gb1054 hg w18 hbox hb; have n0_ := am (below_step (by repeat (first | (with_reducible first | exact HB.out | apply bA | apply bN | apply bD) | exact HB.out)) hb); have n1_ := am (hbox); have n2_ := am ((by rw [hg]; exact (below_size (by repeat (first | (with_reducible first | exact HB.out | apply bA | apply bN | apply bD) | exact HB.out))) : w.heap.size ≤ gb1054)); have n3_ := am ((by rw [hg]; exact (below_size (by repeat (first | (with_reducible first | exact HB.out | apply bA | apply bN | apply bD) | exact HB.out))) : w.heap.size ≤ gb1054)); clear HB; have HB := n0_; have BK1054 := n1_; have GW1054 := n2_; have GE1054 := n3_; clear n0_ n1_ n2_ n3_; clear hb hbox hg) | ((with_reducible refine gate_dst (N := 4) rfl ?_); (try (refine gate_guard (by rfl) ?_; dsimp only)); refine box_event ?hg (N := 4) ?hd (cs := #[.int .i64 a1_0, .int .i64 a1_1, .string a1_2, .slice A1_3 l1_3.length c1_3]) (t := 29) ?hr ?_; (case hd => rfl); (case hg => rfl); (case hr => first | (go_simp; done) | (go_simp; rfl)); intro gb1055 hg w19 hbox hb; have n0_ := am (blk_below (g := gb1054) (o := .cells #[.slice A0_0 l0_0.length c0_0, .slice A0_1 l0_1.length c0_1] 73 (0, 0)) (by (with_reducible repeat (first | refine kN ?_ _ | refine kD ?_ | refine kA ?_ _)); exact BK1054.out) hb); have n1_ := am (below_step (by repeat (first | (with_reducible first | exact HB.out | apply bA | apply bN | apply bD | refine below_set ?_ GE1054.out) | exact HB.out)) hb); have n2_ := am (hbox); have n3_ := am ((by rw [hg]; exact (below_size (by repeat (first | (with_reducible first | exact HB.out | apply bA | apply bN | apply bD | refine below_set ?_ GE1054.out) | exact HB.out))) : w.heap.size ≤ gb1055)); have n4_ := am ((by rw [hg]; exact (below_size (by repeat (first | (with_reducible first | exact HB.out | apply bA | apply bN | apply bD | refine below_set ?_ GE1054.out) | exact HB.out))) : w.heap.size ≤ gb1055)); have n5_ := am ((by rw [hg]; exact Nat.ne_of_lt (blk_lt (g := gb1054) (o := .cells #[.slice A0_0 l0_0.length c0_0, .slice A0_1 l0_1.length c0_1] 73 (0, 0)) (by (with_reducible repeat (first | refine kN ?_ _ | refine kD ?_ | refine kA ?_ _)); exact BK1054.out)) : gb1054 ≠ gb1055)); have n6_ := am ((by rw [hg]; exact Nat.ne_of_gt (blk_lt (g := gb1054) (o := .cells #[.slice A0_0 l0_0.length c0_0, .slice A0_1 l0_1.length c0_1] 73 (0, 0)) (by (with_reducible repeat (first | refine kN ?_ _ | refine kD ?_ | refine kA ?_ _)); exact BK1054.out)) : gb1055 ≠ gb1054)); clear BK1054; clear HB; have BK1054 := n0_; have HB := n1_; have BK1055 := n2_; have GW1055 := n3_; have GE1055 := n4_; have NB1054_1055 := n5_; have NB1055_1054 := n6_; clear n0_ n1_ n2_ n3_ n4_ n5_ n6_; clear hb hbox hg; have hnb20 := NB1055_1054.out; have hnc20 := NB1054_1055.out; have hcz21_0 : w19.cell? ⟨gb1055, 0, none⟩ = some (.int .i64 a1_0) := (blk_cell BK1055.out 0).trans rfl; have hcz21_1 : w19.cell? ⟨gb1055, 1, none⟩ = some (.int .i64 a1_1) := (blk_cell BK1055.out 1).trans rfl; have hcz21_2 : w19.cell? ⟨gb1055, 2, none⟩ = some (.string a1_2) := (blk_cell BK1055.out 2).trans rfl; have hcz21_3 : w19.cell? ⟨gb1055, 3, none⟩ = some (.slice A1_3 l1_3.length c1_3) := (blk_cell BK1055.out 3).trans rfl; have hfz21_0 := blk_frozen BK1055.out 0; have hfz21_1 := blk_frozen BK1055.out 1; have hfz21_2 := blk_frozen BK1055.out 2; have hfz21_3 := blk_frozen BK1055.out 3; have hcz22_0 : w19.cell? ⟨gb1054, 0, none⟩ = some (.slice A0_0 l0_0.length c0_0) := (blk_cell BK1054.out 0).trans rfl; have hcz22_1 : w19.cell? ⟨gb1054, 1, none⟩ = some (.slice A0_1 l0_1.length c0_1) := (blk_cell BK1054.out 1).trans rfl; have hfz22_0 := blk_frozen BK1054.out 0; have hfz22_1 := blk_frozen BK1054.out 1) | ((with_reducible refine gate_callee (f := 100) rfl ?_); refine goesL_ (some 26) rfl rfl Try.func100 (by kernel_rfl) rfl #[.agg #[.slice A0_0 l0_0.length c0_0, .slice A0_1 l0_1.length c0_1], .string a1_2] rfl (by (try simp only [List.map_toArray, List.map_cons, List.map_nil]); first | done | rfl | (simp only [List.length_drop, List.length_take]; rfl)) ?_; (with_reducible refine (spec_FindOp.calls k _ _ l0_0 _ _ l0_1 a1_2 t1057 t1058 t1061 t1062 _ ?side1 ?side2 ?side3 ?side4 A16.out).mono ?_); (case side1 => repeat (first | exact (Kd.C_below HR0_0.out HB.out) | (with_reducible refine cA ?_ _) | (with_reducible refine cN ?_ _) | (with_reducible refine cD ?_))); (case side2 => exact HC0_0.out); (case side3 => repeat (first | exact (Kd.C_below HR0_1.out HB.out) | (with_reducible refine cA ?_ _) | (with_reducible refine cN ?_ _) | (with_reducible refine cD ?_))); (case side4 => exact HC0_1.out); rintro e w23 ⟨v1059, rfl, ho0, hb⟩; refine ⟨_, rfl, ?_⟩; have n0_ := am (Kd.R_lower ho0 (below_size (by repeat (first | (with_reducible first | exact HB.out | apply bA | apply bN | apply bD | refine below_set ?_ GE1054.out | refine below_set ?_ GE1055.out) | exact HB.out)))); have n1_ := am (blk_below (g := gb1054) (o := .cells #[.slice A0_0 l0_0.length c0_0, .slice A0_1 l0_1.length c0_1] 73 (0, 0)) (by (with_reducible repeat (first | refine kN ?_ _ | refine kD ?_ | refine kA ?_ _)); exact BK1054.out) hb); have n2_ := am (blk_below (g := gb1055) (o := .cells #[.int .i64 a1_0, .int .i64 a1_1, .string a1_2, .slice A1_3 l1_3.length c1_3] 29 (0, 0)) (by (with_reducible repeat (first | refine kN ?_ _ | refine kD ?_ | refine kA ?_ _)); exact BK1055.out) hb); have n3_ := am (below_step (by repeat (first | (with_reducible first | exact HB.out | apply bA | apply bN | apply bD | refine below_set ?_ GE1054.out | refine below_set ?_ GE1055.out) | exact HB.out)) hb); clear BK1054; clear BK1055; clear HB; have HO1060 := n0_; have BK1054 := n1_; have BK1055 := n2_; have HB := n3_; clear n0_ n1_ n2_ n3_) | ((with_reducible refine gate_dst (N := 7) rfl ?_); (try (refine gate_guard (by rfl) ?_; dsimp only)); refine box_event ?hg (N := 7) ?hd (cs := #[.string (⟨#[]⟩ : ByteArray), .slice none 0 0, .string (⟨#[]⟩ : ByteArray)]) (t := 116) ?hr ?_; (case hd => rfl); (case hg => rfl); (case hr => first | (go_simp; done) | (go_simp; rfl)); intro gb1063 hg w24 hbox hb; have n0_ := am (Kd.R_below (by (with_reducible repeat (first | apply rA | apply rN | apply rD)); exact HO1060.out) hb); have n1_ := am (blk_below (g := gb1054) (o := .cells #[.slice A0_0 l0_0.length c0_0, .slice A0_1 l0_1.length c0_1] 73 (0, 0)) (by (with_reducible repeat (first | refine kN ?_ _ | refine kD ?_ | refine kA ?_ _)); exact BK1054.out) hb); have n2_ := am (blk_below (g := gb1055) (o := .cells #[.int .i64 a1_0, .int .i64 a1_1, .string a1_2, .slice A1_3 l1_3.length c1_3] 29 (0, 0)) (by (with_reducible repeat (first | refine kN ?_ _ | refine kD ?_ | refine kA ?_ _)); exact BK1055.out) hb); have n3_ := am (below_step (by repeat (first | (with_reducible first | exact HB.out | apply bA | apply bN | apply bD | refine below_set ?_ GE1054.out | refine below_set ?_ GE1055.out) | exact HB.out)) hb); have n4_ := am (hbox); have n5_ := am ((by rw [hg]; exact (below_size (by repeat (first | (with_reducible first | exact HB.out | apply bA | apply bN | apply bD | refine below_set ?_ GE1054.out | refine below_set ?_ GE1055.out) | exact HB.out))) : w.heap.size ≤ gb1063)); have n6_ := am ((by rw [hg]; exact (below_size (by repeat (first | (with_reducible first | exact HB.out | apply bA | apply bN | apply bD | refine below_set ?_ GE1054.out | refine below_set ?_ GE1055.out) | exact HB.out))) : w.heap.size ≤ gb1063)); have n7_ := am ((by rw [hg]; exact Nat.ne_of_lt (blk_lt (g := gb1054) (o := .cells #[.slice A0_0 l0_0.length c0_0, .slice A0_1 l0_1.length c0_1] 73 (0, 0)) (by (with_reducible repeat (first | refine kN ?_ _ | refine kD ?_ | refine kA ?_ _)); exact BK1054.out)) : gb1054 ≠ gb1063)); have n8_ := am ((by rw [hg]; exact Nat.ne_of_gt (blk_lt (g := gb1054) (o := .cells #[.slice A0_0 l0_0.length c0_0, .slice A0_1 l0_1.length c0_1] 73 (0, 0)) (by (with_reducible repeat (first | refine kN ?_ _ | refine kD ?_ | refine kA ?_ _)); exact BK1054.out)) : gb1063 ≠ gb1054)); have n9_ := am ((by rw [hg]; exact Nat.ne_of_lt (blk_lt (g := gb1055) (o := .cells #[.int .i64 a1_0, .int .i64 a1_1, .string a1_2, .slice A1_3 l1_3.length c1_3] 29 (0, 0)) (by (with_reducible repeat (first | refine kN ?_ _ | refine kD ?_ | refine kA ?_ _)); exact BK1055.out)) : gb1055 ≠ gb1063)); have n10_ := am ((by rw [hg]; exact Nat.ne_of_gt (blk_lt (g := gb1055) (o := .cells #[.int .i64 a1_0, .int .i64 a1_1, .string a1_2, .slice A1_3 l1_3.length c1_3] 29 (0, 0)) (by (with_reducible repeat (first | refine kN ?_ _ | refine kD ?_ | refine kA ?_ _)); exact BK1055.out)) : gb1063 ≠ gb1055)); clear HO1060; clear BK1054; clear BK1055; clear HB; have HO1060 := n0_; have BK1054 := n1_; have BK1055 := n2_; have HB := n3_; have BK1063 := n4_; have GW1063 := n5_; have GE1063 := n6_; have NB1054_1063 := n7_; have NB1063_1054 := n8_; have NB1055_1063 := n9_; have NB1063_1055 := n10_; clear n0_ n1_ n2_ n3_ n4_ n5_ n6_ n7_ n8_ n9_ n10_; clear hb hbox hg; have hnb25 := NB1063_1054.out; have hnc25 := NB1054_1063.out; have hnb26 := NB1063_1055.out; have hnc26 := NB1055_1063.out; have hcz27_0 : w24.cell? ⟨gb1063, 0, none⟩ = some (.string (⟨#[]⟩ : ByteArray)) := (blk_cell BK1063.out 0).trans rfl; have hcz27_1 : w24.cell? ⟨gb1063, 1, none⟩ = some (.slice none 0 0) := (blk_cell BK1063.out 1).trans rfl; have hcz27_2 : w24.cell? ⟨gb1063, 2, none⟩ = some (.string (⟨#[]⟩ : ByteArray)) := (blk_cell BK1063.out 2).trans rfl; have hfz27_0 := blk_frozen BK1063.out 0; have hfz27_1 := blk_frozen BK1063.out 1; have hfz27_2 := blk_frozen BK1063.out 2; obtain ⟨Ao28, co28, eo28⟩ := Kd.R_slice HO1060.out; subst eo28))
        (try simp only [Act.put, List.setIfInBounds_toArray, List.set_cons_zero, List.set_cons_succ])
        go_cut [39] (fun v39 wc => ∃ (kq : Nat) (x39_16 : Bool), v39 = .bool x39_16 ∧ Aside0 (spec_SortOf.j0 kq l2 x39_16 l0_0 l0_1 a1_0 a1_1 a1_2 l1_3 t1057 t1058 t1061 = some r) ∧ Aside0 (kq ≤ k) ∧ Aside0 (Kd.R Kd.string 9 wc w.heap.size (fun _ => True) (.slice Ao28 t1058.length co28) t1058) ∧ Aside0 (wc.heap[gb1054]? = some (.cells #[(.slice A0_0 l0_0.length c0_0), (.slice A0_1 l0_1.length c0_1)] 73 (0, 0))) ∧ Aside0 (wc.heap[gb1055]? = some (.cells #[.int .i64 a1_0, .int .i64 a1_1, .string a1_2, (.slice A1_3 l1_3.length c1_3)] 29 (0, 0))) ∧ Aside0 (wc.heap[gb1063]? = some (.cells #[.string t1057, (.slice Ao28 t1058.length co28), .string t1061] 116 (0, 0))) ∧ Aside0 (Below w.heap.size w wc))
        case first =>
          have H := HC17.out
          clear HC17
          by_cases c29 : t1062 = true
          · subst c29
            have H1 : (spec_SortOf.j0 k l2 ((t1058.length : Int) != (l1_3.length : Int)) l0_0 l0_1 a1_0 a1_1 a1_2 l1_3 t1057 t1058 t1061) = some r := by first | with_reducible rfl | (rw [if_pos rfl] at H; exact H)
            clear H
            have H := H1
            clear H1
            have H' := Aside0.mk H
            clear H
            have hnb30 := NB1063_1054.out
            have hnc30 := NB1054_1063.out
            have hnb31 := NB1063_1055.out
            have hnc31 := NB1055_1063.out
            have hcz32_0 : w24.cell? ⟨gb1063, 0, none⟩ = some (.string (⟨#[]⟩ : ByteArray)) := (blk_cell BK1063.out 0).trans rfl
            have hcz32_1 : w24.cell? ⟨gb1063, 1, none⟩ = some (.slice none 0 0) := (blk_cell BK1063.out 1).trans rfl
            have hcz32_2 : w24.cell? ⟨gb1063, 2, none⟩ = some (.string (⟨#[]⟩ : ByteArray)) := (blk_cell BK1063.out 2).trans rfl
            have hfz32_0 := blk_frozen BK1063.out 0
            have hfz32_1 := blk_frozen BK1063.out 1
            have hfz32_2 := blk_frozen BK1063.out 2
            have hnb33 := NB1055_1054.out
            have hnc33 := NB1054_1055.out
            have hcz34_0 : w24.cell? ⟨gb1055, 0, none⟩ = some (.int .i64 a1_0) := (blk_cell BK1055.out 0).trans rfl
            have hcz34_1 : w24.cell? ⟨gb1055, 1, none⟩ = some (.int .i64 a1_1) := (blk_cell BK1055.out 1).trans rfl
            have hcz34_2 : w24.cell? ⟨gb1055, 2, none⟩ = some (.string a1_2) := (blk_cell BK1055.out 2).trans rfl
            have hcz34_3 : w24.cell? ⟨gb1055, 3, none⟩ = some (.slice A1_3 l1_3.length c1_3) := (blk_cell BK1055.out 3).trans rfl
            have hfz34_0 := blk_frozen BK1055.out 0
            have hfz34_1 := blk_frozen BK1055.out 1
            have hfz34_2 := blk_frozen BK1055.out 2
            have hfz34_3 := blk_frozen BK1055.out 3
            go_wp2
            go_meet
            case rel => exact ⟨_, (((t1058.length : Int) != (l1_3.length : Int))), (by first | rfl | (simp; done) | (simp [*]; done)), H', ⟨by first | omega | exact Nat.le_refl _⟩, ⟨by (with_reducible repeat (first | apply rA | apply rN | apply rD)); exact Kd.R_mono (Kd.R_far (p := ⟨gb1063, 2, none⟩) (Kd.R_far (p := ⟨gb1063, 1, none⟩) (Kd.R_far (p := ⟨gb1063, 0, none⟩) (Kd.R_types HO1060.out BK1063.out (by decide)) (fun _ hk => hk.2) (.string t1057)) (fun _ hk => hk.2) (.slice Ao28 t1058.length co28)) (fun _ hk => hk.2) (.string t1061)) (fun _ hk => trivial)⟩, ⟨by (with_reducible repeat (first | refine kN ?_ _ | refine kD ?_ | refine kA ?_ _)); refine blk_far ?_ NB1054_1063.out _; (with_reducible repeat (first | refine kN ?_ _ | refine kD ?_ | refine kA ?_ _)); refine blk_far ?_ NB1054_1063.out _; (with_reducible repeat (first | refine kN ?_ _ | refine kD ?_ | refine kA ?_ _)); refine blk_far ?_ NB1054_1063.out _; (with_reducible repeat (first | refine kN ?_ _ | refine kD ?_ | refine kA ?_ _)); exact BK1054.out⟩, ⟨by (with_reducible repeat (first | refine kN ?_ _ | refine kD ?_ | refine kA ?_ _)); refine blk_far ?_ NB1055_1063.out _; (with_reducible repeat (first | refine kN ?_ _ | refine kD ?_ | refine kA ?_ _)); refine blk_far ?_ NB1055_1063.out _; (with_reducible repeat (first | refine kN ?_ _ | refine kD ?_ | refine kA ?_ _)); refine blk_far ?_ NB1055_1063.out _; (with_reducible repeat (first | refine kN ?_ _ | refine kD ?_ | refine kA ?_ _)); exact BK1055.out⟩, ⟨by (with_reducible repeat (first | refine kN ?_ _ | refine kD ?_ | refine kA ?_ _)); refine blk_put (cs := #[.string t1057, .slice Ao28 t1058.length co28, .string (⟨#[]⟩ : ByteArray)]) ?_ 2 _ rfl; (with_reducible repeat (first | refine kN ?_ _ | refine kD ?_ | refine kA ?_ _)); refine blk_put (cs := #[.string t1057, .slice none 0 0, .string (⟨#[]⟩ : ByteArray)]) ?_ 1 _ rfl; (with_reducible repeat (first | refine kN ?_ _ | refine kD ?_ | refine kA ?_ _)); refine blk_put (cs := #[.string (⟨#[]⟩ : ByteArray), .slice none 0 0, .string (⟨#[]⟩ : ByteArray)]) ?_ 0 _ rfl; (with_reducible repeat (first | refine kN ?_ _ | refine kD ?_ | refine kA ?_ _)); exact BK1063.out⟩, ⟨by repeat (first | (with_reducible first | exact HB.out | apply bA | apply bN | apply bD | refine below_set ?_ GE1054.out | refine below_set ?_ GE1055.out | refine below_set ?_ GE1063.out) | exact HB.out)⟩⟩
          · replace c29 := Bool.eq_false_iff.mpr c29
            subst c29
            have H1 : (spec_SortOf.j0 k l2 true l0_0 l0_1 a1_0 a1_1 a1_2 l1_3 t1057 t1058 t1061) = some r := by rw [if_neg (show ¬ (false = true) by decide)] at H; exact H
            clear H
            have H := H1
            clear H1
            have H' := Aside0.mk H
            clear H
            go_wp2
            go_meet
            case rel => exact ⟨_, (true), (by first | rfl | (simp; done) | (simp [*]; done)), H', ⟨by first | omega | exact Nat.le_refl _⟩, ⟨by (with_reducible repeat (first | apply rA | apply rN | apply rD)); exact Kd.R_mono (Kd.R_far (p := ⟨gb1063, 2, none⟩) (Kd.R_far (p := ⟨gb1063, 1, none⟩) (Kd.R_far (p := ⟨gb1063, 0, none⟩) (Kd.R_types HO1060.out BK1063.out (by decide)) (fun _ hk => hk.2) (.string t1057)) (fun _ hk => hk.2) (.slice Ao28 t1058.length co28)) (fun _ hk => hk.2) (.string t1061)) (fun _ hk => trivial)⟩, ⟨by (with_reducible repeat (first | refine kN ?_ _ | refine kD ?_ | refine kA ?_ _)); refine blk_far ?_ NB1054_1063.out _; (with_reducible repeat (first | refine kN ?_ _ | refine kD ?_ | refine kA ?_ _)); refine blk_far ?_ NB1054_1063.out _; (with_reducible repeat (first | refine kN ?_ _ | refine kD ?_ | refine kA ?_ _)); refine blk_far ?_ NB1054_1063.out _; (with_reducible repeat (first | refine kN ?_ _ | refine kD ?_ | refine kA ?_ _)); exact BK1054.out⟩, ⟨by (with_reducible repeat (first | refine kN ?_ _ | refine kD ?_ | refine kA ?_ _)); refine blk_far ?_ NB1055_1063.out _; (with_reducible repeat (first | refine kN ?_ _ | refine kD ?_ | refine kA ?_ _)); refine blk_far ?_ NB1055_1063.out _; (with_reducible repeat (first | refine kN ?_ _ | refine kD ?_ | refine kA ?_ _)); refine blk_far ?_ NB1055_1063.out _; (with_reducible repeat (first | refine kN ?_ _ | refine kD ?_ | refine kA ?_ _)); exact BK1055.out⟩, ⟨by (with_reducible repeat (first | refine kN ?_ _ | refine kD ?_ | refine kA ?_ _)); refine blk_put (cs := #[.string t1057, .slice Ao28 t1058.length co28, .string (⟨#[]⟩ : ByteArray)]) ?_ 2 _ rfl; (with_reducible repeat (first | refine kN ?_ _ | refine kD ?_ | refine kA ?_ _)); refine blk_put (cs := #[.string t1057, .slice none 0 0, .string (⟨#[]⟩ : ByteArray)]) ?_ 1 _ rfl; (with_reducible repeat (first | refine kN ?_ _ | refine kD ?_ | refine kA ?_ _)); refine blk_put (cs := #[.string (⟨#[]⟩ : ByteArray), .slice none 0 0, .string (⟨#[]⟩ : ByteArray)]) ?_ 0 _ rfl; (with_reducible repeat (first | refine kN ?_ _ | refine kD ?_ | refine kA ?_ _)); exact BK1063.out⟩, ⟨by repeat (first | (with_reducible first | exact HB.out | apply bA | apply bN | apply bD | refine below_set ?_ GE1054.out | refine below_set ?_ GE1055.out | refine below_set ?_ GE1063.out) | exact HB.out)⟩⟩
        case rest =>
          clear HC17
          obtain ⟨kq, x39_16, rfl, HA, HJ16, HO_1064001, BK1054, BK1055, BK1063, HB⟩ := hcut
          cases kq with
          | zero => exact absurd HA.out (by simp [spec_SortOf.j0])
          | succ kj16 =>
            have H := HA.out
            clear HA
            simp only [spec_SortOf.j0] at H
            by_cases c35 : x39_16 = true
            · subst c35
              have H1 : (some (⟨#[]⟩ : ByteArray)) = some r := by first | with_reducible rfl | (rw [if_pos rfl] at H; exact H)
              clear H
              have H := H1
              clear H1
              obtain rfl := Option.some.inj H
              go_wp2
              go_ret
              exact ⟨by first | rfl | (simp [errW_none, errW_some] <;> rfl) | (simp [*, errW_none, errW_some] <;> rfl), by repeat (first | (with_reducible first | exact HB.out | apply bA | apply bN | apply bD | refine below_set ?_ GE1054.out | refine below_set ?_ GE1055.out | refine below_set ?_ GE1063.out) | exact HB.out)⟩
            · replace c35 := Bool.eq_false_iff.mpr c35
              subst c35
              have H1 : (spec_SortOf.l0 kj16 l2 0 l0_0 l0_1 a1_0 a1_1 a1_2 l1_3 t1057 t1058 t1061) = some r := by rw [if_neg (show ¬ (false = true) by decide)] at H; exact H
              clear H
              have H := H1
              clear H1
              have H' := Aside0.mk H
              clear H
              go_wp2
              go_loopg [9] kj16 (fun kq v9 w' => ∃ (x9_2 : Int), v9 = .int .i64 x9_2 ∧ Aside0 (spec_SortOf.l0 kq l2 x9_2 l0_0 l0_1 a1_0 a1_1 a1_2 l1_3 t1057 t1058 t1061 = some r) ∧ Aside0 (kq ≤ kj16) ∧ Aside0 (Kd.R Kd.string 9 w' w.heap.size (fun _ => True) (.slice Ao28 t1058.length co28) t1058) ∧ Aside0 (w'.heap[gb1054]? = some (.cells #[(.slice A0_0 l0_0.length c0_0), (.slice A0_1 l0_1.length c0_1)] 73 (0, 0))) ∧ Aside0 (w'.heap[gb1055]? = some (.cells #[.int .i64 a1_0, .int .i64 a1_1, .string a1_2, (.slice A1_3 l1_3.length c1_3)] 29 (0, 0))) ∧ Aside0 (w'.heap[gb1063]? = some (.cells #[.string t1057, (.slice Ao28 t1058.length co28), .string t1061] 116 (0, 0))) ∧ Aside0 (Below w.heap.size w w'))
              case atStart => exact ⟨(0), (by first | rfl | (simp; done) | (simp [*]; done)), H', ⟨Nat.le_refl _⟩, ⟨by (with_reducible repeat (first | apply rA | apply rN | apply rD)); exact HO_1064001.out⟩, ⟨by (with_reducible repeat (first | refine kN ?_ _ | refine kD ?_ | refine kA ?_ _)); exact BK1054.out⟩, ⟨by (with_reducible repeat (first | refine kN ?_ _ | refine kD ?_ | refine kA ?_ _)); exact BK1055.out⟩, ⟨by (with_reducible repeat (first | refine kN ?_ _ | refine kD ?_ | refine kA ?_ _)); exact BK1063.out⟩, ⟨by repeat (first | (with_reducible first | exact HB.out | apply bA | apply bN | apply bD | refine below_set ?_ GE1054.out | refine below_set ?_ GE1055.out | refine below_set ?_ GE1063.out) | exact HB.out)⟩⟩
              case round =>
                clear H'
                obtain ⟨x9_2, rfl, HA, HK2, HO_1064001, BK1054, BK1055, BK1063, HB⟩ := hrel
                cases gk with
                | zero => exact absurd HA.out (by simp [spec_SortOf.l0])
                | succ k2 =>
                  have H := HA.out
                  clear HA
                  simp only [spec_SortOf.l0] at H
                  by_cases c36 : x9_2 < (l1_3.length : Int)
                  · rw [if_pos c36] at H
                    have c36b0 : decide (x9_2 < (l1_3.length : Int)) = true := decide_eq_true c36
                    clear c36
                    by_cases c37 : 0 ≤ x9_2
                    · rw [if_pos c37] at H
                      have c37b0 : decide (0 ≤ x9_2) = true := decide_eq_true c37
                      clear c37
                      replace H := Option.bind_eq_some_iff.mp H
                      obtain ⟨t1065, A380, H⟩ := H
                      try dsimp only at H
                      have A38 := Aside0.mk A380
                      clear A380
                      by_cases c39 : x9_2 < (t1058.length : Int)
                      · rw [if_pos c39] at H
                        have c39b0 : decide (x9_2 < (t1058.length : Int)) = true := decide_eq_true c39
                        clear c39
                        by_cases c40 : t1065.toList = (rdOf ByteArray.empty t1058 x9_2).toList
                        · rw [if_pos c40] at H
                          have c40b0 : (t1065.toList == (rdOf ByteArray.empty t1058 x9_2).toList) = true := beq_iff_eq.mpr c40
                          have c40b1 : (t1065.toList != (rdOf ByteArray.empty t1058 x9_2).toList) = false := bne_eq_false_iff_eq.mpr c40
                          clear c40
                          by_cases c41 : (rdOf ByteArray.empty t1058 x9_2).toList = ([] : List UInt8)
                          · rw [if_pos c41] at H
                            have c41b0 : ((rdOf ByteArray.empty t1058 x9_2).toList == ([] : List UInt8)) = true := beq_iff_eq.mpr c41
                            have c41b1 : ((rdOf ByteArray.empty t1058 x9_2).toList != ([] : List UInt8)) = false := bne_eq_false_iff_eq.mpr c41
                            clear c41
                            obtain rfl := Option.some.inj H
                            have hnb42 := NB1055_1054.out
                            have hnc42 := NB1054_1055.out
                            have hnb43 := NB1055_1063.out
                            have hnc43 := NB1063_1055.out
                            have hcz44_0 : wr.cell? ⟨gb1055, 0, none⟩ = some (.int .i64 a1_0) := (blk_cell BK1055.out 0).trans rfl
                            have hcz44_1 : wr.cell? ⟨gb1055, 1, none⟩ = some (.int .i64 a1_1) := (blk_cell BK1055.out 1).trans rfl
                            have hcz44_2 : wr.cell? ⟨gb1055, 2, none⟩ = some (.string a1_2) := (blk_cell BK1055.out 2).trans rfl
                            have hcz44_3 : wr.cell? ⟨gb1055, 3, none⟩ = some (.slice A1_3 l1_3.length c1_3) := (blk_cell BK1055.out 3).trans rfl
                            have hfz44_0 := blk_frozen BK1055.out 0
                            have hfz44_1 := blk_frozen BK1055.out 1
                            have hfz44_2 := blk_frozen BK1055.out 2
                            have hfz44_3 := blk_frozen BK1055.out 3
                            try go_wp2
                            have n0_ := am (Kd.R_drew HO_1064001.out)
                            have n1_ := am (blk_drew BK1054.out)
                            have n2_ := am (blk_drew BK1055.out)
                            have n3_ := am (blk_drew BK1063.out)
                            have n4_ := am (below_drew1 HB.out)
                            clear HO_1064001
                            clear BK1054
                            clear BK1055
                            clear BK1063
                            clear HB
                            have HO_1064001 := n0_
                            have BK1054 := n1_
                            have BK1055 := n2_
                            have BK1063 := n3_
                            have HB := n4_
                            clear n0_ n1_ n2_ n3_ n4_
                            have p1064 : 0 ≤ (x9_2 : Int) := of_decide_eq_true (by assumption)
                            have q1064 : x9_2 < (l1_3.length : Int) := of_decide_eq_true (by assumption)
                            obtain ⟨ad1064, A1064_3, c1064_3, e1064, hx1064_0, hx1064_1, hx1064_2, hx1064_3, hl1064_3, hi1064_3⟩ := at_T29 HR1_3.out x9_2 p1064 q1064
                            have hw1064_3 := hx1064_3
                            have hw1064_2 := hx1064_2
                            have hw1064_1 := hx1064_1
                            have hw1064_0 := hx1064_0
                            cases e1064
                            replace hx1064_0 := (HB.out.cell (World.block_lt_of_cell? w _ hx1064_0)).trans hx1064_0
                            replace hx1064_1 := (HB.out.cell (World.block_lt_of_cell? w _ hx1064_1)).trans hx1064_1
                            replace hx1064_2 := (HB.out.cell (World.block_lt_of_cell? w _ hx1064_2)).trans hx1064_2
                            replace hx1064_3 := (HB.out.cell (World.block_lt_of_cell? w _ hx1064_3)).trans hx1064_3
                            have HR1064_3 := Aside0.mk hi1064_3
                            have HC1064_3 := Aside0.mk hl1064_3
                            clear hi1064_3 hl1064_3
                            replace p1064 := eq_true p1064
                            replace q1064 := eq_true q1064
                            have p1066 : 0 ≤ (x9_2 : Int) := of_decide_eq_true (by assumption)
                            have q1066 : x9_2 < (t1058.length : Int) := of_decide_eq_true (by assumption)
                            obtain ⟨ad1066, e1066, hx1066_0⟩ := Kd.at_string (Kd.R_reads' HO_1064001.out).2.2 x9_2 p1066 q1066
                            cases e1066
                            replace p1066 := eq_true p1066
                            replace q1066 := eq_true q1066
                            have p1067 : 0 ≤ (x9_2 : Int) := of_decide_eq_true (by assumption)
                            have q1067 : x9_2 < (t1058.length : Int) := of_decide_eq_true (by assumption)
                            obtain ⟨ad1067, e1067, hx1067_0⟩ := Kd.at_string (Kd.R_reads' HO_1064001.out).2.2 x9_2 p1067 q1067
                            obtain rfl : ad1066 = ad1067 := (by injection e1067)
                            replace p1067 := eq_true p1067
                            replace q1067 := eq_true q1067
                            refine start_ (n := 22) (S := fun w' => w'.cell? ⟨gb1054, 0, none⟩ = some (.slice A0_0 l0_0.length c0_0) ∧ w'.cell? ⟨gb1054, 1, none⟩ = some (.slice A0_1 l0_1.length c0_1) ∧ w'.cell? ⟨gb1055, 0, none⟩ = some (.int .i64 a1_0) ∧ w'.cell? ⟨gb1055, 1, none⟩ = some (.int .i64 a1_1) ∧ w'.cell? ⟨gb1055, 2, none⟩ = some (.string a1_2) ∧ w'.cell? ⟨gb1055, 3, none⟩ = some (.slice (some ad1064) l1_3.length c1_3) ∧ w'.cell? ⟨gb1063, 0, none⟩ = some (.string t1057) ∧ w'.cell? ⟨gb1063, 1, none⟩ = some (.slice (some ad1066) t1058.length co28) ∧ w'.cell? ⟨gb1063, 2, none⟩ = some (.string t1061) ∧ w'.cell? (ad1064.add ((x9_2).toNat * 4)) = some (.int .i64 ((rd_T29 l1_3 x9_2).f0)) ∧ w'.cell? ⟨(ad1064.add ((x9_2).toNat * 4)).block, (ad1064.add ((x9_2).toNat * 4)).off + 1, none⟩ = some (.int .i64 ((rd_T29 l1_3 x9_2).f1)) ∧ w'.cell? ⟨(ad1064.add ((x9_2).toNat * 4)).block, (ad1064.add ((x9_2).toNat * 4)).off + 2, none⟩ = some (.string ((rd_T29 l1_3 x9_2).f2)) ∧ w'.cell? ⟨(ad1064.add ((x9_2).toNat * 4)).block, (ad1064.add ((x9_2).toNat * 4)).off + 3, none⟩ = some (.slice A1064_3 ((rd_T29 l1_3 x9_2).f3).length c1064_3) ∧ w'.cell? (ad1066.add (x9_2).toNat) = some (.string (rdOf ByteArray.empty t1058 x9_2)) ∧ w'.cell? (ad1066.add (x9_2).toNat) = some (.string (rdOf ByteArray.empty t1058 x9_2))) (ds := []) #[false, false, false, false, false, false, false, false, false, false, false, false, false, false, false, false, false, false, false, false, false, false] (by kernel_rfl) rfl rfl ⟨(blk_cell BK1054.out 0).trans rfl, (blk_cell BK1054.out 1).trans rfl, (blk_cell BK1055.out 0).trans rfl, (blk_cell BK1055.out 1).trans rfl, (blk_cell BK1055.out 2).trans rfl, (blk_cell BK1055.out 3).trans rfl, (blk_cell BK1063.out 0).trans rfl, (blk_cell BK1063.out 1).trans rfl, (blk_cell BK1063.out 2).trans rfl, ((HB.out.cell (World.block_lt_of_cell? w _ hw1064_0)).trans hw1064_0), ((HB.out.cell (World.block_lt_of_cell? w _ hw1064_1)).trans hw1064_1), ((HB.out.cell (World.block_lt_of_cell? w _ hw1064_2)).trans hw1064_2), ((HB.out.cell (World.block_lt_of_cell? w _ hw1064_3)).trans hw1064_3), hx1066_0, hx1067_0⟩ (fun hHeld => ?_); refine with_tabW spec_SortOf.tab13 spec_SortOf.bits13 (fun HT_ HW_ => ?_)
                            generalize wr.drew = w45 at HO_1064001 BK1054 BK1055 BK1063 HB HR1064_3 hx1064_0 hx1064_1 hx1064_2 hx1064_3 hx1066_0 hx1067_0 hHeld ⊢
                            refine pure_ (i := 1) (N := some 48) (v := ?_) (a' := ?_) #[false, true, false, false, false, false, false, false, false, false, false, false, false, false, false, false, false, false, false, false, false, false] rfl rfl (any_of HT_.out (by kernel_rfl)) (fun _ _ _ h => h) (Or.inl ⟨by rfl, ?_⟩) ?_ ?_
                            rotate_left
                            · intro w'
                              go_simp
                              with_reducible rfl
                            rotate_left
                            · simp only [Act.put, List.setIfInBounds_toArray, List.set_cons_zero, List.set_cons_succ, i64_w, i32_w]
                              rfl
                            refine pure_ (i := 3) (N := some 50) (v := ?_) (a' := ?_) #[false, true, false, true, false, false, false, false, false, false, false, false, false, false, false, false, false, false, false, false, false, false] rfl rfl (any_of HT_.out (by kernel_rfl)) (fun _ _ _ h => h) (Or.inl ⟨by rfl, ?_⟩) ?_ ?_
                            rotate_left
                            · intro w'
                              go_simp
                              with_reducible rfl
                            rotate_left
                            · simp only [Act.put, List.setIfInBounds_toArray, List.set_cons_zero, List.set_cons_succ, i64_w, i32_w]
                              rfl
                            refine pure_ (i := 6) (N := some 53) (v := ?_) (a' := ?_) #[false, true, false, true, false, false, true, false, false, false, false, false, false, false, false, false, false, false, false, false, false, false] rfl rfl (any_of HT_.out (by kernel_rfl)) (fun _ _ _ h => h) (Or.inl ⟨by rfl, ?_⟩) ?_ ?_
                            rotate_left
                            · intro w'
                              go_simp
                              with_reducible rfl
                            rotate_left
                            · simp only [Act.put, List.setIfInBounds_toArray, List.set_cons_zero, List.set_cons_succ, i64_w, i32_w]
                              rfl
                            refine pure_ (i := 8) (N := some 55) (v := ?_) (a' := ?_) #[false, true, false, true, false, false, true, false, true, false, false, false, false, false, false, false, false, false, false, false, false, false] rfl rfl (any_of HT_.out (by kernel_rfl)) (fun _ _ _ h => h) (Or.inl ⟨by rfl, ?_⟩) ?_ ?_
                            rotate_left
                            · intro w'
                              go_simp
                              with_reducible rfl
                            rotate_left
                            · simp only [Act.put, List.setIfInBounds_toArray, List.set_cons_zero, List.set_cons_succ, i64_w, i32_w]
                              rfl
                            refine pure_ (i := 10) (N := some 57) (v := ?_) (a' := ?_) #[false, true, false, true, false, false, true, false, true, false, true, false, false, false, false, false, false, false, false, false, false, false] rfl rfl (any_of HT_.out (by kernel_rfl)) (fun _ _ _ h => h) (Or.inl ⟨by rfl, ?_⟩) ?_ ?_
                            rotate_left
                            · intro w'
                              go_simp
                              with_reducible rfl
                            rotate_left
                            · simp only [Act.put, List.setIfInBounds_toArray, List.set_cons_zero, List.set_cons_succ, i64_w, i32_w]
                              rfl
                            refine take_ (i := 0) (N := some 47) (v := ?_) (a' := ?_) #[true, true, false, true, false, false, true, false, true, false, true, false, false, false, false, false, false, false, false, false, false, false] rfl rfl (take_ofW HT_.out HW_.out (by kernel_rfl)) (fun _ _ _ h => h) (Or.inl ⟨by rfl, ?_⟩) hHeld ?_ ?_
                            rotate_left
                            · rintro w' ⟨s0, s1, s2, s3, s4, s5, s6, s7, s8, s9, s10, s11, s12, s13, s14⟩
                              go_simp
                              with_reducible rfl
                            rotate_left
                            · simp only [Act.put, List.setIfInBounds_toArray, List.set_cons_zero, List.set_cons_succ, i64_w, i32_w]
                              rfl
                            refine take_ (i := 2) (N := some 49) (v := ?_) (a' := ?_) #[true, true, true, true, false, false, true, false, true, false, true, false, false, false, false, false, false, false, false, false, false, false] rfl rfl (take_ofW HT_.out HW_.out (by kernel_rfl)) (fun _ _ _ h => h) (Or.inl ⟨by rfl, ?_⟩) hHeld ?_ ?_
                            rotate_left
                            · rintro w' ⟨s0, s1, s2, s3, s4, s5, s6, s7, s8, s9, s10, s11, s12, s13, s14⟩
                              go_simp
                              with_reducible rfl
                            rotate_left
                            · simp only [Act.put, List.setIfInBounds_toArray, List.set_cons_zero, List.set_cons_succ, i64_w, i32_w]
                              rfl
                            refine pure_ (i := 4) (N := some 51) (v := ?_) (a' := ?_) #[true, true, true, true, true, false, true, false, true, false, true, false, false, false, false, false, false, false, false, false, false, false] rfl rfl (any_of HT_.out (by kernel_rfl)) (fun _ _ _ h => h) (Or.inl ⟨by rfl, ?_⟩) ?_ ?_
                            rotate_left
                            · intro w'
                              go_simp
                              with_reducible rfl
                            rotate_left
                            · simp only [Act.put, List.setIfInBounds_toArray, List.set_cons_zero, List.set_cons_succ, i64_w, i32_w]
                              rfl
                            refine take_ (i := 5) (N := some 52) (v := ?_) (a' := ?_) #[true, true, true, true, true, true, true, false, true, false, true, false, false, false, false, false, false, false, false, false, false, false] rfl rfl (take_ofW HT_.out HW_.out (by kernel_rfl)) (fun _ _ _ h => h) (Or.inl ⟨by rfl, ?_⟩) hHeld ?_ ?_
                            rotate_left
                            · rintro w' ⟨s0, s1, s2, s3, s4, s5, s6, s7, s8, s9, s10, s11, s12, s13, s14⟩
                              go_simp
                              with_reducible rfl
                            rotate_left
                            · simp only [Act.put, List.setIfInBounds_toArray, List.set_cons_zero, List.set_cons_succ, i64_w, i32_w]
                              rfl
                            refine take_ (i := 9) (N := some 56) (v := ?_) (a' := ?_) #[true, true, true, true, true, true, true, false, true, true, true, false, false, false, false, false, false, false, false, false, false, false] rfl rfl (take_ofW HT_.out HW_.out (by kernel_rfl)) (fun _ _ _ h => h) (Or.inl ⟨by rfl, ?_⟩) hHeld ?_ ?_
                            rotate_left
                            · rintro w' ⟨s0, s1, s2, s3, s4, s5, s6, s7, s8, s9, s10, s11, s12, s13, s14⟩
                              go_simp
                              with_reducible rfl
                            rotate_left
                            · simp only [Act.put, List.setIfInBounds_toArray, List.set_cons_zero, List.set_cons_succ, i64_w, i32_w]
                              rfl
                            refine pure_ (i := 11) (N := some 58) (v := ?_) (a' := ?_) #[true, true, true, true, true, true, true, false, true, true, true, true, false, false, false, false, false, false, false, false, false, false] rfl rfl (any_of HT_.out (by kernel_rfl)) (fun _ _ _ h => h) (Or.inl ⟨by rfl, ?_⟩) ?_ ?_
                            rotate_left
                            · intro w'
                              go_simp
                              with_reducible rfl
                            rotate_left
                            · simp only [Act.put, List.setIfInBounds_toArray, List.set_cons_zero, List.set_cons_succ, i64_w, i32_w]
                              rfl
                            refine take_ (i := 12) (N := some 59) (v := ?_) (a' := ?_) #[true, true, true, true, true, true, true, false, true, true, true, true, true, false, false, false, false, false, false, false, false, false] rfl rfl (take_ofW HT_.out HW_.out (by kernel_rfl)) (fun _ _ _ h => h) (Or.inl ⟨by rfl, ?_⟩) hHeld ?_ ?_
                            rotate_left
                            · rintro w' ⟨s0, s1, s2, s3, s4, s5, s6, s7, s8, s9, s10, s11, s12, s13, s14⟩
                              go_simp
                              with_reducible rfl
                            rotate_left
                            · simp only [Act.put, List.setIfInBounds_toArray, List.set_cons_zero, List.set_cons_succ, i64_w, i32_w]
                              rfl
                            refine one_ (i := 7) (N := some 54) #[true, true, true, true, true, true, true, true, true, true, true, true, true, false, false, false, false, false, false, false, false, false] rfl rfl (one_of HT_.out (by kernel_rfl)) (by decide) (fun K hK => ?_)
                            refine goes_ Try.func48 (by kernel_rfl) rfl #[.agg #[.slice A0_0 l0_0.length c0_0, .slice A0_1 l0_1.length c0_1], .agg #[.int .i64 ((rd_T29 l1_3 x9_2).f0), .int .i64 ((rd_T29 l1_3 x9_2).f1), .string ((rd_T29 l1_3 x9_2).f2), .slice A1064_3 ((rd_T29 l1_3 x9_2).f3).length c1064_3], .slice A2 l2.length c2] (by rfl) rfl rfl (by (try simp only [List.map_toArray, List.map_cons, List.map_nil]); first | done | rfl | (simp only [List.length_drop, List.length_take]; rfl)) ?_
                            with_reducible refine (ih k2 (by have := HJ16.out; have := HK2.out; omega) _ _ l0_0 _ _ l0_1 ((rd_T29 l1_3 x9_2).f0) ((rd_T29 l1_3 x9_2).f1) ((rd_T29 l1_3 x9_2).f2) _ _ ((rd_T29 l1_3 x9_2).f3) _ _ l2 t1065 _ ?side1 ?side2 ?side3 ?side4 ?side5 ?side6 ?side7 ?side8 A38.out).mono ?_
                            (case side1 => repeat (first | exact (Kd.C_below HR0_0.out HB.out) | (with_reducible refine cA ?_ _) | (with_reducible refine cN ?_ _) | (with_reducible refine cD ?_)))
                            (case side2 => exact HC0_0.out)
                            (case side3 => repeat (first | exact (Kd.C_below HR0_1.out HB.out) | (with_reducible refine cA ?_ _) | (with_reducible refine cN ?_ _) | (with_reducible refine cD ?_)))
                            (case side4 => exact HC0_1.out)
                            (case side5 => repeat (first | exact (Kd.C_below HR1064_3.out HB.out) | (with_reducible refine cA ?_ _) | (with_reducible refine cN ?_ _) | (with_reducible refine cD ?_)))
                            (case side6 => exact HC1064_3.out)
                            (case side7 => repeat (first | exact (Kd.C_below HR2.out HB.out) | (with_reducible refine cA ?_ _) | (with_reducible refine cN ?_ _) | (with_reducible refine cD ?_)))
                            (case side8 => exact HC2.out)
                            rintro e w46 ⟨rfl, hb⟩
                            have HS13_ := (hb.cell (World.block_lt_of_cell? _ _ (hHeld.2.2.2.2.2.2.2.2.2.2.2.2.2.1))).trans (hHeld.2.2.2.2.2.2.2.2.2.2.2.2.2.1)
                            have HS14_ := (hb.cell (World.block_lt_of_cell? _ _ (hHeld.2.2.2.2.2.2.2.2.2.2.2.2.2.2))).trans (hHeld.2.2.2.2.2.2.2.2.2.2.2.2.2.2)
                            refine ⟨_, rfl, ?_⟩
                            have n0_ := am (Kd.R_below (by (with_reducible repeat (first | apply rA | apply rN | apply rD)); exact HO_1064001.out) hb)
                            have n1_ := am (blk_below (g := gb1054) (o := .cells #[.slice A0_0 l0_0.length c0_0, .slice A0_1 l0_1.length c0_1] 73 (0, 0)) (by (with_reducible repeat (first | refine kN ?_ _ | refine kD ?_ | refine kA ?_ _)); exact BK1054.out) hb)
                            have n2_ := am (blk_below (g := gb1055) (o := .cells #[.int .i64 a1_0, .int .i64 a1_1, .string a1_2, .slice (some ad1064) l1_3.length c1_3] 29 (0, 0)) (by (with_reducible repeat (first | refine kN ?_ _ | refine kD ?_ | refine kA ?_ _)); exact BK1055.out) hb)
                            have n3_ := am (blk_below (g := gb1063) (o := .cells #[.string t1057, .slice (some ad1066) t1058.length co28, .string t1061] 116 (0, 0)) (by (with_reducible repeat (first | refine kN ?_ _ | refine kD ?_ | refine kA ?_ _)); exact BK1063.out) hb)
                            have n4_ := am (below_step (by repeat (first | (with_reducible first | exact HB.out | apply bA | apply bN | apply bD | refine below_set ?_ GE1054.out | refine below_set ?_ GE1055.out | refine below_set ?_ GE1063.out) | exact HB.out)) hb)
                            clear HO_1064001
                            clear BK1054
                            clear BK1055
                            clear BK1063
                            clear HB
                            have HO_1064001 := n0_
                            have BK1054 := n1_
                            have BK1055 := n2_
                            have BK1063 := n3_
                            have HB := n4_
                            clear n0_ n1_ n2_ n3_ n4_
                            (try clear hb)
                            (try clear hb2)
                            (try clear hk)
                            (try clear hi)
                            refine hK.out _ _ ⟨(blk_cell BK1054.out 0).trans rfl, (blk_cell BK1054.out 1).trans rfl, (blk_cell BK1055.out 0).trans rfl, (blk_cell BK1055.out 1).trans rfl, (blk_cell BK1055.out 2).trans rfl, (blk_cell BK1055.out 3).trans rfl, (blk_cell BK1063.out 0).trans rfl, (blk_cell BK1063.out 1).trans rfl, (blk_cell BK1063.out 2).trans rfl, ((HB.out.cell (World.block_lt_of_cell? w _ hw1064_0)).trans hw1064_0), ((HB.out.cell (World.block_lt_of_cell? w _ hw1064_1)).trans hw1064_1), ((HB.out.cell (World.block_lt_of_cell? w _ hw1064_2)).trans hw1064_2), ((HB.out.cell (World.block_lt_of_cell? w _ hw1064_3)).trans hw1064_3), HS13_, HS14_⟩ (fun hHeld => ?_)
                            clear hK K
                            refine norm_ (a' := ?_) ?_ ?_
                            rotate_left
                            · show Act.put _ (some 54) _ = _
                              simp only [Act.put, List.setIfInBounds_toArray, List.set_cons_zero, List.set_cons_succ, i64_w, i32_w]
                              rfl
                            refine pure_ (i := 13) (N := some 60) (v := ?_) (a' := ?_) #[true, true, true, true, true, true, true, true, true, true, true, true, true, true, false, false, false, false, false, false, false, false] rfl rfl (any_of HT_.out (by kernel_rfl)) (fun _ _ _ h => h) (Or.inl ⟨by rfl, ?_⟩) ?_ ?_
                            rotate_left
                            · intro w'
                              go_simp
                              with_reducible rfl
                            rotate_left
                            · simp only [Act.put, List.setIfInBounds_toArray, List.set_cons_zero, List.set_cons_succ, i64_w, i32_w]
                              rfl
                            refine pure_ (i := 14) (N := some 61) (v := ?_) (a' := ?_) #[true, true, true, true, true, true, true, true, true, true, true, true, true, true, true, false, false, false, false, false, false, false] rfl rfl (any_of HT_.out (by kernel_rfl)) (fun _ _ _ h => h) (Or.inl ⟨by rfl, ?_⟩) ?_ ?_
                            rotate_left
                            · intro w'
                              go_simp
                              with_reducible rfl
                            rotate_left
                            · simp only [Act.put, List.setIfInBounds_toArray, List.set_cons_zero, List.set_cons_succ, i64_w, i32_w]
                              rfl
                            refine pure_ (i := 15) (N := some 62) (v := ?_) (a' := ?_) #[true, true, true, true, true, true, true, true, true, true, true, true, true, true, true, true, false, false, false, false, false, false] rfl rfl (any_of HT_.out (by kernel_rfl)) (fun _ _ _ h => h) (Or.inl ⟨by rfl, ?_⟩) ?_ ?_
                            rotate_left
                            · intro w'
                              go_simp
                              with_reducible rfl
                            rotate_left
                            · simp only [Act.put, List.setIfInBounds_toArray, List.set_cons_zero, List.set_cons_succ, i64_w, i32_w]
                              rfl
                            refine pure_ (i := 17) (N := some 64) (v := ?_) (a' := ?_) #[true, true, true, true, true, true, true, true, true, true, true, true, true, true, true, true, false, true, false, false, false, false] rfl rfl (any_of HT_.out (by kernel_rfl)) (fun _ _ _ h => h) (Or.inl ⟨by rfl, ?_⟩) ?_ ?_
                            rotate_left
                            · intro w'
                              go_simp
                              with_reducible rfl
                            rotate_left
                            · simp only [Act.put, List.setIfInBounds_toArray, List.set_cons_zero, List.set_cons_succ, i64_w, i32_w]
                              rfl
                            refine take_ (i := 16) (N := some 63) (v := ?_) (a' := ?_) #[true, true, true, true, true, true, true, true, true, true, true, true, true, true, true, true, true, true, false, false, false, false] rfl rfl (take_ofW HT_.out HW_.out (by kernel_rfl)) (fun _ _ _ h => h) (Or.inl ⟨by rfl, ?_⟩) hHeld ?_ ?_
                            rotate_left
                            · rintro w' ⟨s0, s1, s2, s3, s4, s5, s6, s7, s8, s9, s10, s11, s12, s13, s14⟩
                              go_simp
                              with_reducible rfl
                            rotate_left
                            · simp only [Act.put, List.setIfInBounds_toArray, List.set_cons_zero, List.set_cons_succ, i64_w, i32_w]
                              rfl
                            refine pure_ (i := 18) (N := some 65) (v := ?_) (a' := ?_) #[true, true, true, true, true, true, true, true, true, true, true, true, true, true, true, true, true, true, true, false, false, false] rfl rfl (any_of HT_.out (by kernel_rfl)) (fun _ _ _ h => h) (Or.inl ⟨by rfl, ?_⟩) ?_ ?_
                            rotate_left
                            · intro w'
                              go_simp
                              with_reducible rfl
                            rotate_left
                            · simp only [Act.put, List.setIfInBounds_toArray, List.set_cons_zero, List.set_cons_succ, i64_w, i32_w]
                              rfl
                            refine take_ (i := 19) (N := some 66) (v := ?_) (a' := ?_) #[true, true, true, true, true, true, true, true, true, true, true, true, true, true, true, true, true, true, true, true, false, false] rfl rfl (take_ofW HT_.out HW_.out (by kernel_rfl)) (fun _ _ _ h => h) (Or.inl ⟨by rfl, ?_⟩) hHeld ?_ ?_
                            rotate_left
                            · rintro w' ⟨s0, s1, s2, s3, s4, s5, s6, s7, s8, s9, s10, s11, s12, s13, s14⟩
                              go_simp
                              with_reducible rfl
                            rotate_left
                            · simp only [Act.put, List.setIfInBounds_toArray, List.set_cons_zero, List.set_cons_succ, i64_w, i32_w]
                              rfl
                            refine pure_ (i := 20) (N := some 67) (v := ?_) (a' := ?_) #[true, true, true, true, true, true, true, true, true, true, true, true, true, true, true, true, true, true, true, true, true, false] rfl rfl (any_of HT_.out (by kernel_rfl)) (fun _ _ _ h => h) (Or.inl ⟨by rfl, ?_⟩) ?_ ?_
                            rotate_left
                            · intro w'
                              go_simp
                              with_reducible rfl
                            rotate_left
                            · simp only [Act.put, List.setIfInBounds_toArray, List.set_cons_zero, List.set_cons_succ, i64_w, i32_w]
                              rfl
                            refine pure_ (i := 21) (N := some 68) (v := ?_) (a' := ?_) #[true, true, true, true, true, true, true, true, true, true, true, true, true, true, true, true, true, true, true, true, true, true] rfl rfl (any_of HT_.out (by kernel_rfl)) (fun _ _ _ h => h) (Or.inl ⟨by rfl, ?_⟩) ?_ ?_
                            rotate_left
                            · intro w'
                              go_simp
                              with_reducible rfl
                            rotate_left
                            · simp only [Act.put, List.setIfInBounds_toArray, List.set_cons_zero, List.set_cons_succ, i64_w, i32_w]
                              rfl
                            refine done_ (done_of HT_.out (by kernel_rfl)) ?_
                            try go_wp2
                            go_ret
                            exact ⟨by first | rfl | (simp [errW_none, errW_some] <;> rfl) | (simp [*, errW_none, errW_some] <;> rfl), by repeat (first | (with_reducible first | exact HB.out | apply bA | apply bN | apply bD | refine below_set ?_ GE1054.out | refine below_set ?_ GE1055.out | refine below_set ?_ GE1063.out) | exact HB.out)⟩
                          · rw [if_neg c41] at H
                            have c41b0 : ((rdOf ByteArray.empty t1058 x9_2).toList == ([] : List UInt8)) = false := beq_eq_false_iff_ne.mpr c41
                            have c41b1 : ((rdOf ByteArray.empty t1058 x9_2).toList != ([] : List UInt8)) = true := bne_iff_ne.mpr c41
                            have H' := Aside0.mk H
                            clear H
                            have hnb47 := NB1055_1054.out
                            have hnc47 := NB1054_1055.out
                            have hnb48 := NB1055_1063.out
                            have hnc48 := NB1063_1055.out
                            have hcz49_0 : wr.cell? ⟨gb1055, 0, none⟩ = some (.int .i64 a1_0) := (blk_cell BK1055.out 0).trans rfl
                            have hcz49_1 : wr.cell? ⟨gb1055, 1, none⟩ = some (.int .i64 a1_1) := (blk_cell BK1055.out 1).trans rfl
                            have hcz49_2 : wr.cell? ⟨gb1055, 2, none⟩ = some (.string a1_2) := (blk_cell BK1055.out 2).trans rfl
                            have hcz49_3 : wr.cell? ⟨gb1055, 3, none⟩ = some (.slice A1_3 l1_3.length c1_3) := (blk_cell BK1055.out 3).trans rfl
                            have hfz49_0 := blk_frozen BK1055.out 0
                            have hfz49_1 := blk_frozen BK1055.out 1
                            have hfz49_2 := blk_frozen BK1055.out 2
                            have hfz49_3 := blk_frozen BK1055.out 3
                            try go_wp2
                            have n0_ := am (Kd.R_drew HO_1064001.out)
                            have n1_ := am (blk_drew BK1054.out)
                            have n2_ := am (blk_drew BK1055.out)
                            have n3_ := am (blk_drew BK1063.out)
                            have n4_ := am (below_drew1 HB.out)
                            clear HO_1064001
                            clear BK1054
                            clear BK1055
                            clear BK1063
                            clear HB
                            have HO_1064001 := n0_
                            have BK1054 := n1_
                            have BK1055 := n2_
                            have BK1063 := n3_
                            have HB := n4_
                            clear n0_ n1_ n2_ n3_ n4_
                            have p1064 : 0 ≤ (x9_2 : Int) := of_decide_eq_true (by assumption)
                            have q1064 : x9_2 < (l1_3.length : Int) := of_decide_eq_true (by assumption)
                            obtain ⟨ad1064, A1064_3, c1064_3, e1064, hx1064_0, hx1064_1, hx1064_2, hx1064_3, hl1064_3, hi1064_3⟩ := at_T29 HR1_3.out x9_2 p1064 q1064
                            have hw1064_3 := hx1064_3
                            have hw1064_2 := hx1064_2
                            have hw1064_1 := hx1064_1
                            have hw1064_0 := hx1064_0
                            cases e1064
                            replace hx1064_0 := (HB.out.cell (World.block_lt_of_cell? w _ hx1064_0)).trans hx1064_0
                            replace hx1064_1 := (HB.out.cell (World.block_lt_of_cell? w _ hx1064_1)).trans hx1064_1
                            replace hx1064_2 := (HB.out.cell (World.block_lt_of_cell? w _ hx1064_2)).trans hx1064_2
                            replace hx1064_3 := (HB.out.cell (World.block_lt_of_cell? w _ hx1064_3)).trans hx1064_3
                            have HR1064_3 := Aside0.mk hi1064_3
                            have HC1064_3 := Aside0.mk hl1064_3
                            clear hi1064_3 hl1064_3
                            replace p1064 := eq_true p1064
                            replace q1064 := eq_true q1064
                            have p1066 : 0 ≤ (x9_2 : Int) := of_decide_eq_true (by assumption)
                            have q1066 : x9_2 < (t1058.length : Int) := of_decide_eq_true (by assumption)
                            obtain ⟨ad1066, e1066, hx1066_0⟩ := Kd.at_string (Kd.R_reads' HO_1064001.out).2.2 x9_2 p1066 q1066
                            cases e1066
                            replace p1066 := eq_true p1066
                            replace q1066 := eq_true q1066
                            have p1067 : 0 ≤ (x9_2 : Int) := of_decide_eq_true (by assumption)
                            have q1067 : x9_2 < (t1058.length : Int) := of_decide_eq_true (by assumption)
                            obtain ⟨ad1067, e1067, hx1067_0⟩ := Kd.at_string (Kd.R_reads' HO_1064001.out).2.2 x9_2 p1067 q1067
                            obtain rfl : ad1066 = ad1067 := (by injection e1067)
                            replace p1067 := eq_true p1067
                            replace q1067 := eq_true q1067
                            refine start_ (n := 22) (S := fun w' => w'.cell? ⟨gb1054, 0, none⟩ = some (.slice A0_0 l0_0.length c0_0) ∧ w'.cell? ⟨gb1054, 1, none⟩ = some (.slice A0_1 l0_1.length c0_1) ∧ w'.cell? ⟨gb1055, 0, none⟩ = some (.int .i64 a1_0) ∧ w'.cell? ⟨gb1055, 1, none⟩ = some (.int .i64 a1_1) ∧ w'.cell? ⟨gb1055, 2, none⟩ = some (.string a1_2) ∧ w'.cell? ⟨gb1055, 3, none⟩ = some (.slice (some ad1064) l1_3.length c1_3) ∧ w'.cell? ⟨gb1063, 0, none⟩ = some (.string t1057) ∧ w'.cell? ⟨gb1063, 1, none⟩ = some (.slice (some ad1066) t1058.length co28) ∧ w'.cell? ⟨gb1063, 2, none⟩ = some (.string t1061) ∧ w'.cell? (ad1064.add ((x9_2).toNat * 4)) = some (.int .i64 ((rd_T29 l1_3 x9_2).f0)) ∧ w'.cell? ⟨(ad1064.add ((x9_2).toNat * 4)).block, (ad1064.add ((x9_2).toNat * 4)).off + 1, none⟩ = some (.int .i64 ((rd_T29 l1_3 x9_2).f1)) ∧ w'.cell? ⟨(ad1064.add ((x9_2).toNat * 4)).block, (ad1064.add ((x9_2).toNat * 4)).off + 2, none⟩ = some (.string ((rd_T29 l1_3 x9_2).f2)) ∧ w'.cell? ⟨(ad1064.add ((x9_2).toNat * 4)).block, (ad1064.add ((x9_2).toNat * 4)).off + 3, none⟩ = some (.slice A1064_3 ((rd_T29 l1_3 x9_2).f3).length c1064_3) ∧ w'.cell? (ad1066.add (x9_2).toNat) = some (.string (rdOf ByteArray.empty t1058 x9_2)) ∧ w'.cell? (ad1066.add (x9_2).toNat) = some (.string (rdOf ByteArray.empty t1058 x9_2))) (ds := []) #[false, false, false, false, false, false, false, false, false, false, false, false, false, false, false, false, false, false, false, false, false, false] (by kernel_rfl) rfl rfl ⟨(blk_cell BK1054.out 0).trans rfl, (blk_cell BK1054.out 1).trans rfl, (blk_cell BK1055.out 0).trans rfl, (blk_cell BK1055.out 1).trans rfl, (blk_cell BK1055.out 2).trans rfl, (blk_cell BK1055.out 3).trans rfl, (blk_cell BK1063.out 0).trans rfl, (blk_cell BK1063.out 1).trans rfl, (blk_cell BK1063.out 2).trans rfl, ((HB.out.cell (World.block_lt_of_cell? w _ hw1064_0)).trans hw1064_0), ((HB.out.cell (World.block_lt_of_cell? w _ hw1064_1)).trans hw1064_1), ((HB.out.cell (World.block_lt_of_cell? w _ hw1064_2)).trans hw1064_2), ((HB.out.cell (World.block_lt_of_cell? w _ hw1064_3)).trans hw1064_3), hx1066_0, hx1067_0⟩ (fun hHeld => ?_); refine with_tabW spec_SortOf.tab13 spec_SortOf.bits13 (fun HT_ HW_ => ?_)
                            generalize wr.drew = w50 at HO_1064001 BK1054 BK1055 BK1063 HB HR1064_3 hx1064_0 hx1064_1 hx1064_2 hx1064_3 hx1066_0 hx1067_0 hHeld ⊢
                            refine pure_ (i := 1) (N := some 48) (v := ?_) (a' := ?_) #[false, true, false, false, false, false, false, false, false, false, false, false, false, false, false, false, false, false, false, false, false, false] rfl rfl (any_of HT_.out (by kernel_rfl)) (fun _ _ _ h => h) (Or.inl ⟨by rfl, ?_⟩) ?_ ?_
                            rotate_left
                            · intro w'
                              go_simp
                              with_reducible rfl
                            rotate_left
                            · simp only [Act.put, List.setIfInBounds_toArray, List.set_cons_zero, List.set_cons_succ, i64_w, i32_w]
                              rfl
                            refine pure_ (i := 3) (N := some 50) (v := ?_) (a' := ?_) #[false, true, false, true, false, false, false, false, false, false, false, false, false, false, false, false, false, false, false, false, false, false] rfl rfl (any_of HT_.out (by kernel_rfl)) (fun _ _ _ h => h) (Or.inl ⟨by rfl, ?_⟩) ?_ ?_
                            rotate_left
                            · intro w'
                              go_simp
                              with_reducible rfl
                            rotate_left
                            · simp only [Act.put, List.setIfInBounds_toArray, List.set_cons_zero, List.set_cons_succ, i64_w, i32_w]
                              rfl
                            refine pure_ (i := 6) (N := some 53) (v := ?_) (a' := ?_) #[false, true, false, true, false, false, true, false, false, false, false, false, false, false, false, false, false, false, false, false, false, false] rfl rfl (any_of HT_.out (by kernel_rfl)) (fun _ _ _ h => h) (Or.inl ⟨by rfl, ?_⟩) ?_ ?_
                            rotate_left
                            · intro w'
                              go_simp
                              with_reducible rfl
                            rotate_left
                            · simp only [Act.put, List.setIfInBounds_toArray, List.set_cons_zero, List.set_cons_succ, i64_w, i32_w]
                              rfl
                            refine pure_ (i := 8) (N := some 55) (v := ?_) (a' := ?_) #[false, true, false, true, false, false, true, false, true, false, false, false, false, false, false, false, false, false, false, false, false, false] rfl rfl (any_of HT_.out (by kernel_rfl)) (fun _ _ _ h => h) (Or.inl ⟨by rfl, ?_⟩) ?_ ?_
                            rotate_left
                            · intro w'
                              go_simp
                              with_reducible rfl
                            rotate_left
                            · simp only [Act.put, List.setIfInBounds_toArray, List.set_cons_zero, List.set_cons_succ, i64_w, i32_w]
                              rfl
                            refine pure_ (i := 10) (N := some 57) (v := ?_) (a' := ?_) #[false, true, false, true, false, false, true, false, true, false, true, false, false, false, false, false, false, false, false, false, false, false] rfl rfl (any_of HT_.out (by kernel_rfl)) (fun _ _ _ h => h) (Or.inl ⟨by rfl, ?_⟩) ?_ ?_
                            rotate_left
                            · intro w'
                              go_simp
                              with_reducible rfl
                            rotate_left
                            · simp only [Act.put, List.setIfInBounds_toArray, List.set_cons_zero, List.set_cons_succ, i64_w, i32_w]
                              rfl
                            refine take_ (i := 0) (N := some 47) (v := ?_) (a' := ?_) #[true, true, false, true, false, false, true, false, true, false, true, false, false, false, false, false, false, false, false, false, false, false] rfl rfl (take_ofW HT_.out HW_.out (by kernel_rfl)) (fun _ _ _ h => h) (Or.inl ⟨by rfl, ?_⟩) hHeld ?_ ?_
                            rotate_left
                            · rintro w' ⟨s0, s1, s2, s3, s4, s5, s6, s7, s8, s9, s10, s11, s12, s13, s14⟩
                              go_simp
                              with_reducible rfl
                            rotate_left
                            · simp only [Act.put, List.setIfInBounds_toArray, List.set_cons_zero, List.set_cons_succ, i64_w, i32_w]
                              rfl
                            refine take_ (i := 2) (N := some 49) (v := ?_) (a' := ?_) #[true, true, true, true, false, false, true, false, true, false, true, false, false, false, false, false, false, false, false, false, false, false] rfl rfl (take_ofW HT_.out HW_.out (by kernel_rfl)) (fun _ _ _ h => h) (Or.inl ⟨by rfl, ?_⟩) hHeld ?_ ?_
                            rotate_left
                            · rintro w' ⟨s0, s1, s2, s3, s4, s5, s6, s7, s8, s9, s10, s11, s12, s13, s14⟩
                              go_simp
                              with_reducible rfl
                            rotate_left
                            · simp only [Act.put, List.setIfInBounds_toArray, List.set_cons_zero, List.set_cons_succ, i64_w, i32_w]
                              rfl
                            refine pure_ (i := 4) (N := some 51) (v := ?_) (a' := ?_) #[true, true, true, true, true, false, true, false, true, false, true, false, false, false, false, false, false, false, false, false, false, false] rfl rfl (any_of HT_.out (by kernel_rfl)) (fun _ _ _ h => h) (Or.inl ⟨by rfl, ?_⟩) ?_ ?_
                            rotate_left
                            · intro w'
                              go_simp
                              with_reducible rfl
                            rotate_left
                            · simp only [Act.put, List.setIfInBounds_toArray, List.set_cons_zero, List.set_cons_succ, i64_w, i32_w]
                              rfl
                            refine take_ (i := 5) (N := some 52) (v := ?_) (a' := ?_) #[true, true, true, true, true, true, true, false, true, false, true, false, false, false, false, false, false, false, false, false, false, false] rfl rfl (take_ofW HT_.out HW_.out (by kernel_rfl)) (fun _ _ _ h => h) (Or.inl ⟨by rfl, ?_⟩) hHeld ?_ ?_
                            rotate_left
                            · rintro w' ⟨s0, s1, s2, s3, s4, s5, s6, s7, s8, s9, s10, s11, s12, s13, s14⟩
                              go_simp
                              with_reducible rfl
                            rotate_left
                            · simp only [Act.put, List.setIfInBounds_toArray, List.set_cons_zero, List.set_cons_succ, i64_w, i32_w]
                              rfl
                            refine take_ (i := 9) (N := some 56) (v := ?_) (a' := ?_) #[true, true, true, true, true, true, true, false, true, true, true, false, false, false, false, false, false, false, false, false, false, false] rfl rfl (take_ofW HT_.out HW_.out (by kernel_rfl)) (fun _ _ _ h => h) (Or.inl ⟨by rfl, ?_⟩) hHeld ?_ ?_
                            rotate_left
                            · rintro w' ⟨s0, s1, s2, s3, s4, s5, s6, s7, s8, s9, s10, s11, s12, s13, s14⟩
                              go_simp
                              with_reducible rfl
                            rotate_left
                            · simp only [Act.put, List.setIfInBounds_toArray, List.set_cons_zero, List.set_cons_succ, i64_w, i32_w]
                              rfl
                            refine pure_ (i := 11) (N := some 58) (v := ?_) (a' := ?_) #[true, true, true, true, true, true, true, false, true, true, true, true, false, false, false, false, false, false, false, false, false, false] rfl rfl (any_of HT_.out (by kernel_rfl)) (fun _ _ _ h => h) (Or.inl ⟨by rfl, ?_⟩) ?_ ?_
                            rotate_left
                            · intro w'
                              go_simp
                              with_reducible rfl
                            rotate_left
                            · simp only [Act.put, List.setIfInBounds_toArray, List.set_cons_zero, List.set_cons_succ, i64_w, i32_w]
                              rfl
                            refine take_ (i := 12) (N := some 59) (v := ?_) (a' := ?_) #[true, true, true, true, true, true, true, false, true, true, true, true, true, false, false, false, false, false, false, false, false, false] rfl rfl (take_ofW HT_.out HW_.out (by kernel_rfl)) (fun _ _ _ h => h) (Or.inl ⟨by rfl, ?_⟩) hHeld ?_ ?_
                            rotate_left
                            · rintro w' ⟨s0, s1, s2, s3, s4, s5, s6, s7, s8, s9, s10, s11, s12, s13, s14⟩
                              go_simp
                              with_reducible rfl
                            rotate_left
                            · simp only [Act.put, List.setIfInBounds_toArray, List.set_cons_zero, List.set_cons_succ, i64_w, i32_w]
                              rfl
                            refine one_ (i := 7) (N := some 54) #[true, true, true, true, true, true, true, true, true, true, true, true, true, false, false, false, false, false, false, false, false, false] rfl rfl (one_of HT_.out (by kernel_rfl)) (by decide) (fun K hK => ?_)
                            refine goes_ Try.func48 (by kernel_rfl) rfl #[.agg #[.slice A0_0 l0_0.length c0_0, .slice A0_1 l0_1.length c0_1], .agg #[.int .i64 ((rd_T29 l1_3 x9_2).f0), .int .i64 ((rd_T29 l1_3 x9_2).f1), .string ((rd_T29 l1_3 x9_2).f2), .slice A1064_3 ((rd_T29 l1_3 x9_2).f3).length c1064_3], .slice A2 l2.length c2] (by rfl) rfl rfl (by (try simp only [List.map_toArray, List.map_cons, List.map_nil]); first | done | rfl | (simp only [List.length_drop, List.length_take]; rfl)) ?_
                            with_reducible refine (ih k2 (by have := HJ16.out; have := HK2.out; omega) _ _ l0_0 _ _ l0_1 ((rd_T29 l1_3 x9_2).f0) ((rd_T29 l1_3 x9_2).f1) ((rd_T29 l1_3 x9_2).f2) _ _ ((rd_T29 l1_3 x9_2).f3) _ _ l2 t1065 _ ?side1 ?side2 ?side3 ?side4 ?side5 ?side6 ?side7 ?side8 A38.out).mono ?_
                            (case side1 => repeat (first | exact (Kd.C_below HR0_0.out HB.out) | (with_reducible refine cA ?_ _) | (with_reducible refine cN ?_ _) | (with_reducible refine cD ?_)))
                            (case side2 => exact HC0_0.out)
                            (case side3 => repeat (first | exact (Kd.C_below HR0_1.out HB.out) | (with_reducible refine cA ?_ _) | (with_reducible refine cN ?_ _) | (with_reducible refine cD ?_)))
                            (case side4 => exact HC0_1.out)
                            (case side5 => repeat (first | exact (Kd.C_below HR1064_3.out HB.out) | (with_reducible refine cA ?_ _) | (with_reducible refine cN ?_ _) | (with_reducible refine cD ?_)))
                            (case side6 => exact HC1064_3.out)
                            (case side7 => repeat (first | exact (Kd.C_below HR2.out HB.out) | (with_reducible refine cA ?_ _) | (with_reducible refine cN ?_ _) | (with_reducible refine cD ?_)))
                            (case side8 => exact HC2.out)
                            rintro e w51 ⟨rfl, hb⟩
                            have HS13_ := (hb.cell (World.block_lt_of_cell? _ _ (hHeld.2.2.2.2.2.2.2.2.2.2.2.2.2.1))).trans (hHeld.2.2.2.2.2.2.2.2.2.2.2.2.2.1)
                            have HS14_ := (hb.cell (World.block_lt_of_cell? _ _ (hHeld.2.2.2.2.2.2.2.2.2.2.2.2.2.2))).trans (hHeld.2.2.2.2.2.2.2.2.2.2.2.2.2.2)
                            refine ⟨_, rfl, ?_⟩
                            have n0_ := am (Kd.R_below (by (with_reducible repeat (first | apply rA | apply rN | apply rD)); exact HO_1064001.out) hb)
                            have n1_ := am (blk_below (g := gb1054) (o := .cells #[.slice A0_0 l0_0.length c0_0, .slice A0_1 l0_1.length c0_1] 73 (0, 0)) (by (with_reducible repeat (first | refine kN ?_ _ | refine kD ?_ | refine kA ?_ _)); exact BK1054.out) hb)
                            have n2_ := am (blk_below (g := gb1055) (o := .cells #[.int .i64 a1_0, .int .i64 a1_1, .string a1_2, .slice (some ad1064) l1_3.length c1_3] 29 (0, 0)) (by (with_reducible repeat (first | refine kN ?_ _ | refine kD ?_ | refine kA ?_ _)); exact BK1055.out) hb)
                            have n3_ := am (blk_below (g := gb1063) (o := .cells #[.string t1057, .slice (some ad1066) t1058.length co28, .string t1061] 116 (0, 0)) (by (with_reducible repeat (first | refine kN ?_ _ | refine kD ?_ | refine kA ?_ _)); exact BK1063.out) hb)
                            have n4_ := am (below_step (by repeat (first | (with_reducible first | exact HB.out | apply bA | apply bN | apply bD | refine below_set ?_ GE1054.out | refine below_set ?_ GE1055.out | refine below_set ?_ GE1063.out) | exact HB.out)) hb)
                            clear HO_1064001
                            clear BK1054
                            clear BK1055
                            clear BK1063
                            clear HB
                            have HO_1064001 := n0_
                            have BK1054 := n1_
                            have BK1055 := n2_
                            have BK1063 := n3_
                            have HB := n4_
                            clear n0_ n1_ n2_ n3_ n4_
                            (try clear hb)
                            (try clear hb2)
                            (try clear hk)
                            (try clear hi)
                            refine hK.out _ _ ⟨(blk_cell BK1054.out 0).trans rfl, (blk_cell BK1054.out 1).trans rfl, (blk_cell BK1055.out 0).trans rfl, (blk_cell BK1055.out 1).trans rfl, (blk_cell BK1055.out 2).trans rfl, (blk_cell BK1055.out 3).trans rfl, (blk_cell BK1063.out 0).trans rfl, (blk_cell BK1063.out 1).trans rfl, (blk_cell BK1063.out 2).trans rfl, ((HB.out.cell (World.block_lt_of_cell? w _ hw1064_0)).trans hw1064_0), ((HB.out.cell (World.block_lt_of_cell? w _ hw1064_1)).trans hw1064_1), ((HB.out.cell (World.block_lt_of_cell? w _ hw1064_2)).trans hw1064_2), ((HB.out.cell (World.block_lt_of_cell? w _ hw1064_3)).trans hw1064_3), HS13_, HS14_⟩ (fun hHeld => ?_)
                            clear hK K
                            refine norm_ (a' := ?_) ?_ ?_
                            rotate_left
                            · show Act.put _ (some 54) _ = _
                              simp only [Act.put, List.setIfInBounds_toArray, List.set_cons_zero, List.set_cons_succ, i64_w, i32_w]
                              rfl
                            refine pure_ (i := 13) (N := some 60) (v := ?_) (a' := ?_) #[true, true, true, true, true, true, true, true, true, true, true, true, true, true, false, false, false, false, false, false, false, false] rfl rfl (any_of HT_.out (by kernel_rfl)) (fun _ _ _ h => h) (Or.inl ⟨by rfl, ?_⟩) ?_ ?_
                            rotate_left
                            · intro w'
                              go_simp
                              with_reducible rfl
                            rotate_left
                            · simp only [Act.put, List.setIfInBounds_toArray, List.set_cons_zero, List.set_cons_succ, i64_w, i32_w]
                              rfl
                            refine pure_ (i := 14) (N := some 61) (v := ?_) (a' := ?_) #[true, true, true, true, true, true, true, true, true, true, true, true, true, true, true, false, false, false, false, false, false, false] rfl rfl (any_of HT_.out (by kernel_rfl)) (fun _ _ _ h => h) (Or.inl ⟨by rfl, ?_⟩) ?_ ?_
                            rotate_left
                            · intro w'
                              go_simp
                              with_reducible rfl
                            rotate_left
                            · simp only [Act.put, List.setIfInBounds_toArray, List.set_cons_zero, List.set_cons_succ, i64_w, i32_w]
                              rfl
                            refine pure_ (i := 15) (N := some 62) (v := ?_) (a' := ?_) #[true, true, true, true, true, true, true, true, true, true, true, true, true, true, true, true, false, false, false, false, false, false] rfl rfl (any_of HT_.out (by kernel_rfl)) (fun _ _ _ h => h) (Or.inl ⟨by rfl, ?_⟩) ?_ ?_
                            rotate_left
                            · intro w'
                              go_simp
                              with_reducible rfl
                            rotate_left
                            · simp only [Act.put, List.setIfInBounds_toArray, List.set_cons_zero, List.set_cons_succ, i64_w, i32_w]
                              rfl
                            refine pure_ (i := 17) (N := some 64) (v := ?_) (a' := ?_) #[true, true, true, true, true, true, true, true, true, true, true, true, true, true, true, true, false, true, false, false, false, false] rfl rfl (any_of HT_.out (by kernel_rfl)) (fun _ _ _ h => h) (Or.inl ⟨by rfl, ?_⟩) ?_ ?_
                            rotate_left
                            · intro w'
                              go_simp
                              with_reducible rfl
                            rotate_left
                            · simp only [Act.put, List.setIfInBounds_toArray, List.set_cons_zero, List.set_cons_succ, i64_w, i32_w]
                              rfl
                            refine take_ (i := 16) (N := some 63) (v := ?_) (a' := ?_) #[true, true, true, true, true, true, true, true, true, true, true, true, true, true, true, true, true, true, false, false, false, false] rfl rfl (take_ofW HT_.out HW_.out (by kernel_rfl)) (fun _ _ _ h => h) (Or.inl ⟨by rfl, ?_⟩) hHeld ?_ ?_
                            rotate_left
                            · rintro w' ⟨s0, s1, s2, s3, s4, s5, s6, s7, s8, s9, s10, s11, s12, s13, s14⟩
                              go_simp
                              with_reducible rfl
                            rotate_left
                            · simp only [Act.put, List.setIfInBounds_toArray, List.set_cons_zero, List.set_cons_succ, i64_w, i32_w]
                              rfl
                            refine pure_ (i := 18) (N := some 65) (v := ?_) (a' := ?_) #[true, true, true, true, true, true, true, true, true, true, true, true, true, true, true, true, true, true, true, false, false, false] rfl rfl (any_of HT_.out (by kernel_rfl)) (fun _ _ _ h => h) (Or.inl ⟨by rfl, ?_⟩) ?_ ?_
                            rotate_left
                            · intro w'
                              go_simp
                              with_reducible rfl
                            rotate_left
                            · simp only [Act.put, List.setIfInBounds_toArray, List.set_cons_zero, List.set_cons_succ, i64_w, i32_w]
                              rfl
                            refine take_ (i := 19) (N := some 66) (v := ?_) (a' := ?_) #[true, true, true, true, true, true, true, true, true, true, true, true, true, true, true, true, true, true, true, true, false, false] rfl rfl (take_ofW HT_.out HW_.out (by kernel_rfl)) (fun _ _ _ h => h) (Or.inl ⟨by rfl, ?_⟩) hHeld ?_ ?_
                            rotate_left
                            · rintro w' ⟨s0, s1, s2, s3, s4, s5, s6, s7, s8, s9, s10, s11, s12, s13, s14⟩
                              go_simp
                              with_reducible rfl
                            rotate_left
                            · simp only [Act.put, List.setIfInBounds_toArray, List.set_cons_zero, List.set_cons_succ, i64_w, i32_w]
                              rfl
                            refine pure_ (i := 20) (N := some 67) (v := ?_) (a' := ?_) #[true, true, true, true, true, true, true, true, true, true, true, true, true, true, true, true, true, true, true, true, true, false] rfl rfl (any_of HT_.out (by kernel_rfl)) (fun _ _ _ h => h) (Or.inl ⟨by rfl, ?_⟩) ?_ ?_
                            rotate_left
                            · intro w'
                              go_simp
                              with_reducible rfl
                            rotate_left
                            · simp only [Act.put, List.setIfInBounds_toArray, List.set_cons_zero, List.set_cons_succ, i64_w, i32_w]
                              rfl
                            refine pure_ (i := 21) (N := some 68) (v := ?_) (a' := ?_) #[true, true, true, true, true, true, true, true, true, true, true, true, true, true, true, true, true, true, true, true, true, true] rfl rfl (any_of HT_.out (by kernel_rfl)) (fun _ _ _ h => h) (Or.inl ⟨by rfl, ?_⟩) ?_ ?_
                            rotate_left
                            · intro w'
                              go_simp
                              with_reducible rfl
                            rotate_left
                            · simp only [Act.put, List.setIfInBounds_toArray, List.set_cons_zero, List.set_cons_succ, i64_w, i32_w]
                              rfl
                            refine done_ (done_of HT_.out (by kernel_rfl)) ?_
                            try go_wp2
                            go_roundg k2
                            case measure => have := HJ16.out; have := HK2.out; omega
                            case rel => exact ⟨(wrap64 (x9_2 + 1)), (by first | rfl | (simp; done) | (simp [*]; done)), H', ⟨by have := HJ16.out; have := HK2.out; omega⟩, ⟨by (with_reducible repeat (first | apply rA | apply rN | apply rD)); exact HO_1064001.out⟩, ⟨by (with_reducible repeat (first | refine kN ?_ _ | refine kD ?_ | refine kA ?_ _)); exact BK1054.out⟩, ⟨by (with_reducible repeat (first | refine kN ?_ _ | refine kD ?_ | refine kA ?_ _)); exact BK1055.out⟩, ⟨by (with_reducible repeat (first | refine kN ?_ _ | refine kD ?_ | refine kA ?_ _)); exact BK1063.out⟩, ⟨by repeat (first | (with_reducible first | exact HB.out | apply bA | apply bN | apply bD | refine below_set ?_ GE1054.out | refine below_set ?_ GE1055.out | refine below_set ?_ GE1063.out) | exact HB.out)⟩⟩
                        · rw [if_neg c40] at H
                          have c40b0 : (t1065.toList == (rdOf ByteArray.empty t1058 x9_2).toList) = false := beq_eq_false_iff_ne.mpr c40
                          have c40b1 : (t1065.toList != (rdOf ByteArray.empty t1058 x9_2).toList) = true := bne_iff_ne.mpr c40
                          obtain rfl := Option.some.inj H
                          have hnb52 := NB1055_1054.out
                          have hnc52 := NB1054_1055.out
                          have hnb53 := NB1055_1063.out
                          have hnc53 := NB1063_1055.out
                          have hcz54_0 : wr.cell? ⟨gb1055, 0, none⟩ = some (.int .i64 a1_0) := (blk_cell BK1055.out 0).trans rfl
                          have hcz54_1 : wr.cell? ⟨gb1055, 1, none⟩ = some (.int .i64 a1_1) := (blk_cell BK1055.out 1).trans rfl
                          have hcz54_2 : wr.cell? ⟨gb1055, 2, none⟩ = some (.string a1_2) := (blk_cell BK1055.out 2).trans rfl
                          have hcz54_3 : wr.cell? ⟨gb1055, 3, none⟩ = some (.slice A1_3 l1_3.length c1_3) := (blk_cell BK1055.out 3).trans rfl
                          have hfz54_0 := blk_frozen BK1055.out 0
                          have hfz54_1 := blk_frozen BK1055.out 1
                          have hfz54_2 := blk_frozen BK1055.out 2
                          have hfz54_3 := blk_frozen BK1055.out 3
                          try go_wp2
                          have n0_ := am (Kd.R_drew HO_1064001.out)
                          have n1_ := am (blk_drew BK1054.out)
                          have n2_ := am (blk_drew BK1055.out)
                          have n3_ := am (blk_drew BK1063.out)
                          have n4_ := am (below_drew1 HB.out)
                          clear HO_1064001
                          clear BK1054
                          clear BK1055
                          clear BK1063
                          clear HB
                          have HO_1064001 := n0_
                          have BK1054 := n1_
                          have BK1055 := n2_
                          have BK1063 := n3_
                          have HB := n4_
                          clear n0_ n1_ n2_ n3_ n4_
                          have p1064 : 0 ≤ (x9_2 : Int) := of_decide_eq_true (by assumption)
                          have q1064 : x9_2 < (l1_3.length : Int) := of_decide_eq_true (by assumption)
                          obtain ⟨ad1064, A1064_3, c1064_3, e1064, hx1064_0, hx1064_1, hx1064_2, hx1064_3, hl1064_3, hi1064_3⟩ := at_T29 HR1_3.out x9_2 p1064 q1064
                          have hw1064_3 := hx1064_3
                          have hw1064_2 := hx1064_2
                          have hw1064_1 := hx1064_1
                          have hw1064_0 := hx1064_0
                          cases e1064
                          replace hx1064_0 := (HB.out.cell (World.block_lt_of_cell? w _ hx1064_0)).trans hx1064_0
                          replace hx1064_1 := (HB.out.cell (World.block_lt_of_cell? w _ hx1064_1)).trans hx1064_1
                          replace hx1064_2 := (HB.out.cell (World.block_lt_of_cell? w _ hx1064_2)).trans hx1064_2
                          replace hx1064_3 := (HB.out.cell (World.block_lt_of_cell? w _ hx1064_3)).trans hx1064_3
                          have HR1064_3 := Aside0.mk hi1064_3
                          have HC1064_3 := Aside0.mk hl1064_3
                          clear hi1064_3 hl1064_3
                          replace p1064 := eq_true p1064
                          replace q1064 := eq_true q1064
                          have p1066 : 0 ≤ (x9_2 : Int) := of_decide_eq_true (by assumption)
                          have q1066 : x9_2 < (t1058.length : Int) := of_decide_eq_true (by assumption)
                          obtain ⟨ad1066, e1066, hx1066_0⟩ := Kd.at_string (Kd.R_reads' HO_1064001.out).2.2 x9_2 p1066 q1066
                          cases e1066
                          replace p1066 := eq_true p1066
                          replace q1066 := eq_true q1066
                          refine start_ (n := 22) (S := fun w' => w'.cell? ⟨gb1054, 0, none⟩ = some (.slice A0_0 l0_0.length c0_0) ∧ w'.cell? ⟨gb1054, 1, none⟩ = some (.slice A0_1 l0_1.length c0_1) ∧ w'.cell? ⟨gb1055, 0, none⟩ = some (.int .i64 a1_0) ∧ w'.cell? ⟨gb1055, 1, none⟩ = some (.int .i64 a1_1) ∧ w'.cell? ⟨gb1055, 2, none⟩ = some (.string a1_2) ∧ w'.cell? ⟨gb1055, 3, none⟩ = some (.slice (some ad1064) l1_3.length c1_3) ∧ w'.cell? ⟨gb1063, 0, none⟩ = some (.string t1057) ∧ w'.cell? ⟨gb1063, 1, none⟩ = some (.slice (some ad1066) t1058.length co28) ∧ w'.cell? ⟨gb1063, 2, none⟩ = some (.string t1061) ∧ w'.cell? (ad1064.add ((x9_2).toNat * 4)) = some (.int .i64 ((rd_T29 l1_3 x9_2).f0)) ∧ w'.cell? ⟨(ad1064.add ((x9_2).toNat * 4)).block, (ad1064.add ((x9_2).toNat * 4)).off + 1, none⟩ = some (.int .i64 ((rd_T29 l1_3 x9_2).f1)) ∧ w'.cell? ⟨(ad1064.add ((x9_2).toNat * 4)).block, (ad1064.add ((x9_2).toNat * 4)).off + 2, none⟩ = some (.string ((rd_T29 l1_3 x9_2).f2)) ∧ w'.cell? ⟨(ad1064.add ((x9_2).toNat * 4)).block, (ad1064.add ((x9_2).toNat * 4)).off + 3, none⟩ = some (.slice A1064_3 ((rd_T29 l1_3 x9_2).f3).length c1064_3) ∧ w'.cell? (ad1066.add (x9_2).toNat) = some (.string (rdOf ByteArray.empty t1058 x9_2))) (ds := []) #[false, false, false, false, false, false, false, false, false, false, false, false, false, false, false, false, false, false, false, false, false, false] (by kernel_rfl) rfl rfl ⟨(blk_cell BK1054.out 0).trans rfl, (blk_cell BK1054.out 1).trans rfl, (blk_cell BK1055.out 0).trans rfl, (blk_cell BK1055.out 1).trans rfl, (blk_cell BK1055.out 2).trans rfl, (blk_cell BK1055.out 3).trans rfl, (blk_cell BK1063.out 0).trans rfl, (blk_cell BK1063.out 1).trans rfl, (blk_cell BK1063.out 2).trans rfl, ((HB.out.cell (World.block_lt_of_cell? w _ hw1064_0)).trans hw1064_0), ((HB.out.cell (World.block_lt_of_cell? w _ hw1064_1)).trans hw1064_1), ((HB.out.cell (World.block_lt_of_cell? w _ hw1064_2)).trans hw1064_2), ((HB.out.cell (World.block_lt_of_cell? w _ hw1064_3)).trans hw1064_3), hx1066_0⟩ (fun hHeld => ?_); refine with_tabW spec_SortOf.tab13 spec_SortOf.bits13 (fun HT_ HW_ => ?_)
                          generalize wr.drew = w55 at HO_1064001 BK1054 BK1055 BK1063 HB HR1064_3 hx1064_0 hx1064_1 hx1064_2 hx1064_3 hx1066_0 hHeld ⊢
                          refine pure_ (i := 1) (N := some 48) (v := ?_) (a' := ?_) #[false, true, false, false, false, false, false, false, false, false, false, false, false, false, false, false, false, false, false, false, false, false] rfl rfl (any_of HT_.out (by kernel_rfl)) (fun _ _ _ h => h) (Or.inl ⟨by rfl, ?_⟩) ?_ ?_
                          rotate_left
                          · intro w'
                            go_simp
                            with_reducible rfl
                          rotate_left
                          · simp only [Act.put, List.setIfInBounds_toArray, List.set_cons_zero, List.set_cons_succ, i64_w, i32_w]
                            rfl
                          refine pure_ (i := 3) (N := some 50) (v := ?_) (a' := ?_) #[false, true, false, true, false, false, false, false, false, false, false, false, false, false, false, false, false, false, false, false, false, false] rfl rfl (any_of HT_.out (by kernel_rfl)) (fun _ _ _ h => h) (Or.inl ⟨by rfl, ?_⟩) ?_ ?_
                          rotate_left
                          · intro w'
                            go_simp
                            with_reducible rfl
                          rotate_left
                          · simp only [Act.put, List.setIfInBounds_toArray, List.set_cons_zero, List.set_cons_succ, i64_w, i32_w]
                            rfl
                          refine pure_ (i := 6) (N := some 53) (v := ?_) (a' := ?_) #[false, true, false, true, false, false, true, false, false, false, false, false, false, false, false, false, false, false, false, false, false, false] rfl rfl (any_of HT_.out (by kernel_rfl)) (fun _ _ _ h => h) (Or.inl ⟨by rfl, ?_⟩) ?_ ?_
                          rotate_left
                          · intro w'
                            go_simp
                            with_reducible rfl
                          rotate_left
                          · simp only [Act.put, List.setIfInBounds_toArray, List.set_cons_zero, List.set_cons_succ, i64_w, i32_w]
                            rfl
                          refine pure_ (i := 8) (N := some 55) (v := ?_) (a' := ?_) #[false, true, false, true, false, false, true, false, true, false, false, false, false, false, false, false, false, false, false, false, false, false] rfl rfl (any_of HT_.out (by kernel_rfl)) (fun _ _ _ h => h) (Or.inl ⟨by rfl, ?_⟩) ?_ ?_
                          rotate_left
                          · intro w'
                            go_simp
                            with_reducible rfl
                          rotate_left
                          · simp only [Act.put, List.setIfInBounds_toArray, List.set_cons_zero, List.set_cons_succ, i64_w, i32_w]
                            rfl
                          refine pure_ (i := 10) (N := some 57) (v := ?_) (a' := ?_) #[false, true, false, true, false, false, true, false, true, false, true, false, false, false, false, false, false, false, false, false, false, false] rfl rfl (any_of HT_.out (by kernel_rfl)) (fun _ _ _ h => h) (Or.inl ⟨by rfl, ?_⟩) ?_ ?_
                          rotate_left
                          · intro w'
                            go_simp
                            with_reducible rfl
                          rotate_left
                          · simp only [Act.put, List.setIfInBounds_toArray, List.set_cons_zero, List.set_cons_succ, i64_w, i32_w]
                            rfl
                          refine take_ (i := 0) (N := some 47) (v := ?_) (a' := ?_) #[true, true, false, true, false, false, true, false, true, false, true, false, false, false, false, false, false, false, false, false, false, false] rfl rfl (take_ofW HT_.out HW_.out (by kernel_rfl)) (fun _ _ _ h => h) (Or.inl ⟨by rfl, ?_⟩) hHeld ?_ ?_
                          rotate_left
                          · rintro w' ⟨s0, s1, s2, s3, s4, s5, s6, s7, s8, s9, s10, s11, s12, s13⟩
                            go_simp
                            with_reducible rfl
                          rotate_left
                          · simp only [Act.put, List.setIfInBounds_toArray, List.set_cons_zero, List.set_cons_succ, i64_w, i32_w]
                            rfl
                          refine take_ (i := 2) (N := some 49) (v := ?_) (a' := ?_) #[true, true, true, true, false, false, true, false, true, false, true, false, false, false, false, false, false, false, false, false, false, false] rfl rfl (take_ofW HT_.out HW_.out (by kernel_rfl)) (fun _ _ _ h => h) (Or.inl ⟨by rfl, ?_⟩) hHeld ?_ ?_
                          rotate_left
                          · rintro w' ⟨s0, s1, s2, s3, s4, s5, s6, s7, s8, s9, s10, s11, s12, s13⟩
                            go_simp
                            with_reducible rfl
                          rotate_left
                          · simp only [Act.put, List.setIfInBounds_toArray, List.set_cons_zero, List.set_cons_succ, i64_w, i32_w]
                            rfl
                          refine pure_ (i := 4) (N := some 51) (v := ?_) (a' := ?_) #[true, true, true, true, true, false, true, false, true, false, true, false, false, false, false, false, false, false, false, false, false, false] rfl rfl (any_of HT_.out (by kernel_rfl)) (fun _ _ _ h => h) (Or.inl ⟨by rfl, ?_⟩) ?_ ?_
                          rotate_left
                          · intro w'
                            go_simp
                            with_reducible rfl
                          rotate_left
                          · simp only [Act.put, List.setIfInBounds_toArray, List.set_cons_zero, List.set_cons_succ, i64_w, i32_w]
                            rfl
                          refine take_ (i := 5) (N := some 52) (v := ?_) (a' := ?_) #[true, true, true, true, true, true, true, false, true, false, true, false, false, false, false, false, false, false, false, false, false, false] rfl rfl (take_ofW HT_.out HW_.out (by kernel_rfl)) (fun _ _ _ h => h) (Or.inl ⟨by rfl, ?_⟩) hHeld ?_ ?_
                          rotate_left
                          · rintro w' ⟨s0, s1, s2, s3, s4, s5, s6, s7, s8, s9, s10, s11, s12, s13⟩
                            go_simp
                            with_reducible rfl
                          rotate_left
                          · simp only [Act.put, List.setIfInBounds_toArray, List.set_cons_zero, List.set_cons_succ, i64_w, i32_w]
                            rfl
                          refine take_ (i := 9) (N := some 56) (v := ?_) (a' := ?_) #[true, true, true, true, true, true, true, false, true, true, true, false, false, false, false, false, false, false, false, false, false, false] rfl rfl (take_ofW HT_.out HW_.out (by kernel_rfl)) (fun _ _ _ h => h) (Or.inl ⟨by rfl, ?_⟩) hHeld ?_ ?_
                          rotate_left
                          · rintro w' ⟨s0, s1, s2, s3, s4, s5, s6, s7, s8, s9, s10, s11, s12, s13⟩
                            go_simp
                            with_reducible rfl
                          rotate_left
                          · simp only [Act.put, List.setIfInBounds_toArray, List.set_cons_zero, List.set_cons_succ, i64_w, i32_w]
                            rfl
                          refine pure_ (i := 11) (N := some 58) (v := ?_) (a' := ?_) #[true, true, true, true, true, true, true, false, true, true, true, true, false, false, false, false, false, false, false, false, false, false] rfl rfl (any_of HT_.out (by kernel_rfl)) (fun _ _ _ h => h) (Or.inl ⟨by rfl, ?_⟩) ?_ ?_
                          rotate_left
                          · intro w'
                            go_simp
                            with_reducible rfl
                          rotate_left
                          · simp only [Act.put, List.setIfInBounds_toArray, List.set_cons_zero, List.set_cons_succ, i64_w, i32_w]
                            rfl
                          refine take_ (i := 12) (N := some 59) (v := ?_) (a' := ?_) #[true, true, true, true, true, true, true, false, true, true, true, true, true, false, false, false, false, false, false, false, false, false] rfl rfl (take_ofW HT_.out HW_.out (by kernel_rfl)) (fun _ _ _ h => h) (Or.inl ⟨by rfl, ?_⟩) hHeld ?_ ?_
                          rotate_left
                          · rintro w' ⟨s0, s1, s2, s3, s4, s5, s6, s7, s8, s9, s10, s11, s12, s13⟩
                            go_simp
                            with_reducible rfl
                          rotate_left
                          · simp only [Act.put, List.setIfInBounds_toArray, List.set_cons_zero, List.set_cons_succ, i64_w, i32_w]
                            rfl
                          refine one_ (i := 7) (N := some 54) #[true, true, true, true, true, true, true, true, true, true, true, true, true, false, false, false, false, false, false, false, false, false] rfl rfl (one_of HT_.out (by kernel_rfl)) (by decide) (fun K hK => ?_)
                          refine goes_ Try.func48 (by kernel_rfl) rfl #[.agg #[.slice A0_0 l0_0.length c0_0, .slice A0_1 l0_1.length c0_1], .agg #[.int .i64 ((rd_T29 l1_3 x9_2).f0), .int .i64 ((rd_T29 l1_3 x9_2).f1), .string ((rd_T29 l1_3 x9_2).f2), .slice A1064_3 ((rd_T29 l1_3 x9_2).f3).length c1064_3], .slice A2 l2.length c2] (by rfl) rfl rfl (by (try simp only [List.map_toArray, List.map_cons, List.map_nil]); first | done | rfl | (simp only [List.length_drop, List.length_take]; rfl)) ?_
                          with_reducible refine (ih k2 (by have := HJ16.out; have := HK2.out; omega) _ _ l0_0 _ _ l0_1 ((rd_T29 l1_3 x9_2).f0) ((rd_T29 l1_3 x9_2).f1) ((rd_T29 l1_3 x9_2).f2) _ _ ((rd_T29 l1_3 x9_2).f3) _ _ l2 t1065 _ ?side1 ?side2 ?side3 ?side4 ?side5 ?side6 ?side7 ?side8 A38.out).mono ?_
                          (case side1 => repeat (first | exact (Kd.C_below HR0_0.out HB.out) | (with_reducible refine cA ?_ _) | (with_reducible refine cN ?_ _) | (with_reducible refine cD ?_)))
                          (case side2 => exact HC0_0.out)
                          (case side3 => repeat (first | exact (Kd.C_below HR0_1.out HB.out) | (with_reducible refine cA ?_ _) | (with_reducible refine cN ?_ _) | (with_reducible refine cD ?_)))
                          (case side4 => exact HC0_1.out)
                          (case side5 => repeat (first | exact (Kd.C_below HR1064_3.out HB.out) | (with_reducible refine cA ?_ _) | (with_reducible refine cN ?_ _) | (with_reducible refine cD ?_)))
                          (case side6 => exact HC1064_3.out)
                          (case side7 => repeat (first | exact (Kd.C_below HR2.out HB.out) | (with_reducible refine cA ?_ _) | (with_reducible refine cN ?_ _) | (with_reducible refine cD ?_)))
                          (case side8 => exact HC2.out)
                          rintro e w56 ⟨rfl, hb⟩
                          have HS13_ := (hb.cell (World.block_lt_of_cell? _ _ (hHeld.2.2.2.2.2.2.2.2.2.2.2.2.2))).trans (hHeld.2.2.2.2.2.2.2.2.2.2.2.2.2)
                          refine ⟨_, rfl, ?_⟩
                          have n0_ := am (Kd.R_below (by (with_reducible repeat (first | apply rA | apply rN | apply rD)); exact HO_1064001.out) hb)
                          have n1_ := am (blk_below (g := gb1054) (o := .cells #[.slice A0_0 l0_0.length c0_0, .slice A0_1 l0_1.length c0_1] 73 (0, 0)) (by (with_reducible repeat (first | refine kN ?_ _ | refine kD ?_ | refine kA ?_ _)); exact BK1054.out) hb)
                          have n2_ := am (blk_below (g := gb1055) (o := .cells #[.int .i64 a1_0, .int .i64 a1_1, .string a1_2, .slice (some ad1064) l1_3.length c1_3] 29 (0, 0)) (by (with_reducible repeat (first | refine kN ?_ _ | refine kD ?_ | refine kA ?_ _)); exact BK1055.out) hb)
                          have n3_ := am (blk_below (g := gb1063) (o := .cells #[.string t1057, .slice (some ad1066) t1058.length co28, .string t1061] 116 (0, 0)) (by (with_reducible repeat (first | refine kN ?_ _ | refine kD ?_ | refine kA ?_ _)); exact BK1063.out) hb)
                          have n4_ := am (below_step (by repeat (first | (with_reducible first | exact HB.out | apply bA | apply bN | apply bD | refine below_set ?_ GE1054.out | refine below_set ?_ GE1055.out | refine below_set ?_ GE1063.out) | exact HB.out)) hb)
                          clear HO_1064001
                          clear BK1054
                          clear BK1055
                          clear BK1063
                          clear HB
                          have HO_1064001 := n0_
                          have BK1054 := n1_
                          have BK1055 := n2_
                          have BK1063 := n3_
                          have HB := n4_
                          clear n0_ n1_ n2_ n3_ n4_
                          (try clear hb)
                          (try clear hb2)
                          (try clear hk)
                          (try clear hi)
                          refine hK.out _ _ ⟨(blk_cell BK1054.out 0).trans rfl, (blk_cell BK1054.out 1).trans rfl, (blk_cell BK1055.out 0).trans rfl, (blk_cell BK1055.out 1).trans rfl, (blk_cell BK1055.out 2).trans rfl, (blk_cell BK1055.out 3).trans rfl, (blk_cell BK1063.out 0).trans rfl, (blk_cell BK1063.out 1).trans rfl, (blk_cell BK1063.out 2).trans rfl, ((HB.out.cell (World.block_lt_of_cell? w _ hw1064_0)).trans hw1064_0), ((HB.out.cell (World.block_lt_of_cell? w _ hw1064_1)).trans hw1064_1), ((HB.out.cell (World.block_lt_of_cell? w _ hw1064_2)).trans hw1064_2), ((HB.out.cell (World.block_lt_of_cell? w _ hw1064_3)).trans hw1064_3), HS13_⟩ (fun hHeld => ?_)
                          clear hK K
                          refine norm_ (a' := ?_) ?_ ?_
                          rotate_left
                          · show Act.put _ (some 54) _ = _
                            simp only [Act.put, List.setIfInBounds_toArray, List.set_cons_zero, List.set_cons_succ, i64_w, i32_w]
                            rfl
                          refine pure_ (i := 13) (N := some 60) (v := ?_) (a' := ?_) #[true, true, true, true, true, true, true, true, true, true, true, true, true, true, false, false, false, false, false, false, false, false] rfl rfl (any_of HT_.out (by kernel_rfl)) (fun _ _ _ h => h) (Or.inl ⟨by rfl, ?_⟩) ?_ ?_
                          rotate_left
                          · intro w'
                            go_simp
                            with_reducible rfl
                          rotate_left
                          · simp only [Act.put, List.setIfInBounds_toArray, List.set_cons_zero, List.set_cons_succ, i64_w, i32_w]
                            rfl
                          refine pure_ (i := 14) (N := some 61) (v := ?_) (a' := ?_) #[true, true, true, true, true, true, true, true, true, true, true, true, true, true, true, false, false, false, false, false, false, false] rfl rfl (any_of HT_.out (by kernel_rfl)) (fun _ _ _ h => h) (Or.inl ⟨by rfl, ?_⟩) ?_ ?_
                          rotate_left
                          · intro w'
                            go_simp
                            with_reducible rfl
                          rotate_left
                          · simp only [Act.put, List.setIfInBounds_toArray, List.set_cons_zero, List.set_cons_succ, i64_w, i32_w]
                            rfl
                          refine pure_ (i := 15) (N := some 62) (v := undef) (a' := ?_) #[true, true, true, true, true, true, true, true, true, true, true, true, true, true, true, true, false, false, false, false, false, false] rfl rfl (any_of HT_.out (by kernel_rfl)) (fun _ _ _ h => h) (Or.inr ⟨by rfl, rfl⟩) ?_ ?_
                          rotate_left
                          · simp only [Act.put, List.setIfInBounds_toArray, List.set_cons_zero, List.set_cons_succ, i64_w, i32_w]
                            rfl
                          refine pure_ (i := 16) (N := some 63) (v := undef) (a' := ?_) #[true, true, true, true, true, true, true, true, true, true, true, true, true, true, true, true, true, false, false, false, false, false] rfl rfl (any_of HT_.out (by kernel_rfl)) (fun _ _ _ h => h) (Or.inr ⟨by rfl, rfl⟩) ?_ ?_
                          rotate_left
                          · simp only [Act.put, List.setIfInBounds_toArray, List.set_cons_zero, List.set_cons_succ, i64_w, i32_w]
                            rfl
                          refine pure_ (i := 17) (N := some 64) (v := undef) (a' := ?_) #[true, true, true, true, true, true, true, true, true, true, true, true, true, true, true, true, true, true, false, false, false, false] rfl rfl (any_of HT_.out (by kernel_rfl)) (fun _ _ _ h => h) (Or.inr ⟨by rfl, rfl⟩) ?_ ?_
                          rotate_left
                          · simp only [Act.put, List.setIfInBounds_toArray, List.set_cons_zero, List.set_cons_succ, i64_w, i32_w]
                            rfl
                          refine pure_ (i := 18) (N := some 65) (v := undef) (a' := ?_) #[true, true, true, true, true, true, true, true, true, true, true, true, true, true, true, true, true, true, true, false, false, false] rfl rfl (any_of HT_.out (by kernel_rfl)) (fun _ _ _ h => h) (Or.inr ⟨by rfl, rfl⟩) ?_ ?_
                          rotate_left
                          · simp only [Act.put, List.setIfInBounds_toArray, List.set_cons_zero, List.set_cons_succ, i64_w, i32_w]
                            rfl
                          refine pure_ (i := 19) (N := some 66) (v := undef) (a' := ?_) #[true, true, true, true, true, true, true, true, true, true, true, true, true, true, true, true, true, true, true, true, false, false] rfl rfl (any_of HT_.out (by kernel_rfl)) (fun _ _ _ h => h) (Or.inr ⟨by rfl, rfl⟩) ?_ ?_
                          rotate_left
                          · simp only [Act.put, List.setIfInBounds_toArray, List.set_cons_zero, List.set_cons_succ, i64_w, i32_w]
                            rfl
                          refine pure_ (i := 20) (N := some 67) (v := undef) (a' := ?_) #[true, true, true, true, true, true, true, true, true, true, true, true, true, true, true, true, true, true, true, true, true, false] rfl rfl (any_of HT_.out (by kernel_rfl)) (fun _ _ _ h => h) (Or.inr ⟨by rfl, rfl⟩) ?_ ?_
                          rotate_left
                          · simp only [Act.put, List.setIfInBounds_toArray, List.set_cons_zero, List.set_cons_succ, i64_w, i32_w]
                            rfl
                          refine pure_ (i := 21) (N := some 68) (v := ?_) (a' := ?_) #[true, true, true, true, true, true, true, true, true, true, true, true, true, true, true, true, true, true, true, true, true, true] rfl rfl (any_of HT_.out (by kernel_rfl)) (fun _ _ _ h => h) (Or.inl ⟨by rfl, ?_⟩) ?_ ?_
                          rotate_left
                          · intro w'
                            go_simp
                            with_reducible rfl
                          rotate_left
                          · simp only [Act.put, List.setIfInBounds_toArray, List.set_cons_zero, List.set_cons_succ, i64_w, i32_w]
                            rfl
                          refine done_ (done_of HT_.out (by kernel_rfl)) ?_
                          try go_wp2
                          go_ret
                          exact ⟨by first | rfl | (simp [errW_none, errW_some] <;> rfl) | (simp [*, errW_none, errW_some] <;> rfl), by repeat (first | (with_reducible first | exact HB.out | apply bA | apply bN | apply bD | refine below_set ?_ GE1054.out | refine below_set ?_ GE1055.out | refine below_set ?_ GE1063.out) | exact HB.out)⟩
                      · rw [if_neg c39] at H
                        exact absurd H (by simp)
                    · rw [if_neg c37] at H
                      exact absurd H (by simp)
                  · rw [if_neg c36] at H
                    have c36b0 : decide (x9_2 < (l1_3.length : Int)) = false := decide_eq_false c36
                    clear c36
                    obtain rfl := Option.some.inj H
                    have hnb57 := NB1055_1054.out
                    have hnc57 := NB1054_1055.out
                    have hnb58 := NB1055_1063.out
                    have hnc58 := NB1063_1055.out
                    have hcz59_0 : wr.cell? ⟨gb1055, 0, none⟩ = some (.int .i64 a1_0) := (blk_cell BK1055.out 0).trans rfl
                    have hcz59_1 : wr.cell? ⟨gb1055, 1, none⟩ = some (.int .i64 a1_1) := (blk_cell BK1055.out 1).trans rfl
                    have hcz59_2 : wr.cell? ⟨gb1055, 2, none⟩ = some (.string a1_2) := (blk_cell BK1055.out 2).trans rfl
                    have hcz59_3 : wr.cell? ⟨gb1055, 3, none⟩ = some (.slice A1_3 l1_3.length c1_3) := (blk_cell BK1055.out 3).trans rfl
                    have hfz59_0 := blk_frozen BK1055.out 0
                    have hfz59_1 := blk_frozen BK1055.out 1
                    have hfz59_2 := blk_frozen BK1055.out 2
                    have hfz59_3 := blk_frozen BK1055.out 3
                    have hnb60 := NB1063_1054.out
                    have hnc60 := NB1054_1063.out
                    have hcz61_0 : wr.cell? ⟨gb1063, 0, none⟩ = some (.string t1057) := (blk_cell BK1063.out 0).trans rfl
                    have hcz61_1 : wr.cell? ⟨gb1063, 1, none⟩ = some (.slice Ao28 t1058.length co28) := (blk_cell BK1063.out 1).trans rfl
                    have hcz61_2 : wr.cell? ⟨gb1063, 2, none⟩ = some (.string t1061) := (blk_cell BK1063.out 2).trans rfl
                    have hfz61_0 := blk_frozen BK1063.out 0
                    have hfz61_1 := blk_frozen BK1063.out 1
                    have hfz61_2 := blk_frozen BK1063.out 2
                    go_wp2
                    go_ret
                    exact ⟨by first | rfl | (simp [errW_none, errW_some] <;> rfl) | (simp [*, errW_none, errW_some] <;> rfl), by repeat (first | (with_reducible first | exact HB.out | apply bA | apply bN | apply bD | refine below_set ?_ GE1054.out | refine below_set ?_ GE1055.out | refine below_set ?_ GE1063.out) | exact HB.out)⟩
      · rw [if_neg c15] at H
        have c15b0 : (a1_0 == 2) = false := beq_eq_false_iff_ne.mpr c15
        have c15b1 : (a1_0 != 2) = true := bne_iff_ne.mpr c15
        obtain rfl := Option.some.inj H
        go_enter Try.func48, Try.ntmps48
        go_wp2_with (first | ((with_reducible refine gate_dst (N := 3) rfl ?_); (try (refine gate_guard (by rfl) ?_; dsimp only)); refine box_event ?hg (N := 3) ?hd (cs := #[.slice A0_0 l0_0.length c0_0, .slice A0_1 l0_1.length c0_1]) (t := 73) ?hr ?_; (case hd => rfl); (case hg => rfl); (case hr => first | (go_simp; done) | (go_simp; rfl)); intro gb1054 hg w62 hbox hb; have n0_ := am (below_step (by repeat (first | (with_reducible first | exact HB.out | apply bA | apply bN | apply bD) | exact HB.out)) hb); have n1_ := am (hbox); have n2_ := am ((by rw [hg]; exact (below_size (by repeat (first | (with_reducible first | exact HB.out | apply bA | apply bN | apply bD) | exact HB.out))) : w.heap.size ≤ gb1054)); have n3_ := am ((by rw [hg]; exact (below_size (by repeat (first | (with_reducible first | exact HB.out | apply bA | apply bN | apply bD) | exact HB.out))) : w.heap.size ≤ gb1054)); clear HB; have HB := n0_; have BK1054 := n1_; have GW1054 := n2_; have GE1054 := n3_; clear n0_ n1_ n2_ n3_; clear hb hbox hg) | ((with_reducible refine gate_dst (N := 4) rfl ?_); (try (refine gate_guard (by rfl) ?_; dsimp only)); refine box_event ?hg (N := 4) ?hd (cs := #[.int .i64 a1_0, .int .i64 a1_1, .string a1_2, .slice A1_3 l1_3.length c1_3]) (t := 29) ?hr ?_; (case hd => rfl); (case hg => rfl); (case hr => first | (go_simp; done) | (go_simp; rfl)); intro gb1055 hg w63 hbox hb; have n0_ := am (blk_below (g := gb1054) (o := .cells #[.slice A0_0 l0_0.length c0_0, .slice A0_1 l0_1.length c0_1] 73 (0, 0)) (by (with_reducible repeat (first | refine kN ?_ _ | refine kD ?_ | refine kA ?_ _)); exact BK1054.out) hb); have n1_ := am (below_step (by repeat (first | (with_reducible first | exact HB.out | apply bA | apply bN | apply bD | refine below_set ?_ GE1054.out) | exact HB.out)) hb); have n2_ := am (hbox); have n3_ := am ((by rw [hg]; exact (below_size (by repeat (first | (with_reducible first | exact HB.out | apply bA | apply bN | apply bD | refine below_set ?_ GE1054.out) | exact HB.out))) : w.heap.size ≤ gb1055)); have n4_ := am ((by rw [hg]; exact (below_size (by repeat (first | (with_reducible first | exact HB.out | apply bA | apply bN | apply bD | refine below_set ?_ GE1054.out) | exact HB.out))) : w.heap.size ≤ gb1055)); have n5_ := am ((by rw [hg]; exact Nat.ne_of_lt (blk_lt (g := gb1054) (o := .cells #[.slice A0_0 l0_0.length c0_0, .slice A0_1 l0_1.length c0_1] 73 (0, 0)) (by (with_reducible repeat (first | refine kN ?_ _ | refine kD ?_ | refine kA ?_ _)); exact BK1054.out)) : gb1054 ≠ gb1055)); have n6_ := am ((by rw [hg]; exact Nat.ne_of_gt (blk_lt (g := gb1054) (o := .cells #[.slice A0_0 l0_0.length c0_0, .slice A0_1 l0_1.length c0_1] 73 (0, 0)) (by (with_reducible repeat (first | refine kN ?_ _ | refine kD ?_ | refine kA ?_ _)); exact BK1054.out)) : gb1055 ≠ gb1054)); clear BK1054; clear HB; have BK1054 := n0_; have HB := n1_; have BK1055 := n2_; have GW1055 := n3_; have GE1055 := n4_; have NB1054_1055 := n5_; have NB1055_1054 := n6_; clear n0_ n1_ n2_ n3_ n4_ n5_ n6_; clear hb hbox hg; have hnb64 := NB1055_1054.out; have hnc64 := NB1054_1055.out; have hcz65_0 : w63.cell? ⟨gb1055, 0, none⟩ = some (.int .i64 a1_0) := (blk_cell BK1055.out 0).trans rfl; have hcz65_1 : w63.cell? ⟨gb1055, 1, none⟩ = some (.int .i64 a1_1) := (blk_cell BK1055.out 1).trans rfl; have hcz65_2 : w63.cell? ⟨gb1055, 2, none⟩ = some (.string a1_2) := (blk_cell BK1055.out 2).trans rfl; have hcz65_3 : w63.cell? ⟨gb1055, 3, none⟩ = some (.slice A1_3 l1_3.length c1_3) := (blk_cell BK1055.out 3).trans rfl; have hfz65_0 := blk_frozen BK1055.out 0; have hfz65_1 := blk_frozen BK1055.out 1; have hfz65_2 := blk_frozen BK1055.out 2; have hfz65_3 := blk_frozen BK1055.out 3))
        go_ret
        exact ⟨by first | rfl | (simp [errW_none, errW_some] <;> rfl) | (simp [*, errW_none, errW_some] <;> rfl), by repeat (first | (with_reducible first | exact HB.out | apply bA | apply bN | apply bD | refine below_set ?_ GE1054.out | refine below_set ?_ GE1055.out) | exact HB.out)⟩

end Go.Proofs.Ytdgjddkibiffnaa.F
namespace Go.Proofs.Ytdgjddkibiffnaa.F
open Go.RowKit Go.Proofs.YtdgjddkibiffnaaW.PrintWords Go.Proofs.YtdgjddkibiffnaaW.PrintLast Go.Proofs.YtdgjddkibiffnaaW.PrintMore
attribute [local go_sem] binOp_string_gtr_ binOp_string_geq_ binOp_string_leq_ max2_int min2_int max_two min_two max_three min_three max_four min_four   -- for this text's walks alone
set_option linter.unusedVariables false
set_option linter.unusedSimpArgs false

/-! ### laws_toStringS: function 56 -/
def laws_toStringS.l0 : Nat → List ByteArray → List ByteArray → Int → Option (List ByteArray)
  | 0, _, _, _ => none
  | k + 1, x0, x3, x4 => if x4 < (x0.length : Int) then (if 0 ≤ x4 then (if x4 < (x3.length : Int) then (laws_toStringS.l0 k x0 (x3.set (x4 : Int).toNat (rdOf ByteArray.empty x0 x4)) (wrap64 (x4 + 1))) else (none)) else (none)) else (some x3)
def laws_toStringS.f (k : Nat) (l0 : List ByteArray) : Option (List ByteArray) := if 0 ≤ (l0.length : Int) then (if ((l0.length : Int) : Int).toNat ≤ 17592186044416 then (laws_toStringS.l0 k l0 (List.replicate ((l0.length : Int) : Int).toNat (⟨#[]⟩ : ByteArray)) 0) else (none)) else (none)
set_option maxHeartbeats 8000000 in
set_option maxRecDepth 100000 in
theorem laws_toStringS.calls (k : Nat) (A0 : Option Addr) (c0 : Nat) (l0 : List ByteArray) (r : List ByteArray) (w : World) (hr0 : Kd.C Kd.string w A0 l0.length l0) (hc0 : l0.length ≤ c0) (h : laws_toStringS.f k l0 = some r) :
    Calls Try.prog 56 #[.slice A0 l0.length c0] w fun e w' => ∃ v0_ : Value, e = .returned (v0_) ∧ Kd.R Kd.string 9 w' w.heap.size (fun _ => True) v0_ r ∧ Below w.heap.size w w' := by
  have HR0 := Aside0.mk hr0
  have HC0 := Aside0.mk hc0
  clear hr0 hc0
  have HB := am (Below.refl w.heap.size w)
  have H : (if 0 ≤ (l0.length : Int) then (if ((l0.length : Int) : Int).toNat ≤ 17592186044416 then (laws_toStringS.l0 k l0 (List.replicate ((l0.length : Int) : Int).toNat (⟨#[]⟩ : ByteArray)) 0) else (none)) else (none)) = some r := h
  clear h
  by_cases c2 : 0 ≤ (l0.length : Int)
  · rw [if_pos c2] at H
    have c2b0 := eq_true c2
    have c2b1 : decide (0 ≤ (l0.length : Int)) = true := decide_eq_true c2
    clear c2
    by_cases c3 : ((l0.length : Int) : Int).toNat ≤ 17592186044416
    · rw [if_pos c3] at H
      have c3b0 := eq_true c3
      have c3b1 : decide (((l0.length : Int) : Int).toNat ≤ 17592186044416) = true := decide_eq_true c3
      clear c3
      obtain ⟨y1068, hy1068⟩ : ∃ y_ : List ByteArray, y_ = (List.replicate ((l0.length : Int) : Int).toNat (⟨#[]⟩ : ByteArray)) := ⟨_, rfl⟩
      replace H : (laws_toStringS.l0 k l0 y1068 0) = some r := by first | (rw [hy1068]; with_reducible exact H) | (have H2_ := (Option.bind_some _ _).symm.trans H; rw [hy1068]; with_reducible exact H2_) | (have H2_ := (Option.bind_some _ _).symm.trans H; with_reducible exact H2_) | with_reducible exact H | (rw [hy1068]; exact H) | exact H
      have Ny1068 := Aside0.mk hy1068
      clear hy1068
      have H' := Aside0.mk H
      clear H
      go_enter Try.func56, Try.ntmps56
      go_wp2_with (first | ((with_reducible refine gate_dst (N := 7) rfl ?_); refine Kd.R_make Kd.string _ 9 rfl (N := 7) rfl 63 _ _ rfl (l0.length : Int) rfl rfl Try.underlying63 (.string ⟨#[]⟩) 16 info9 rfl (by decide) (by omega) (⟨#[]⟩ : ByteArray) (ok := fun _ => True) (okp := fun _ => True) rfl (fun _ hk => hk) trivial (of_decide_eq_true (by assumption)) (Nat.le_trans (Nat.mul_le_mul_right _ (of_decide_eq_true (by assumption) : (l0.length : Int).toNat ≤ 17592186044416)) (by omega)) (Below.refl _ _) (Nat.le_refl _) ?_; intro v1069 w4 ho5 hb hg_ hnew_; clear hg_ hnew_; (first | rw [← Ny1068.out] at ho5 | (simp only [Int.reduceToNat] at ho5; rw [← Ny1068.out] at ho5)); have n0_ := am (Kd.R_lower ho5 (below_size (by repeat (first | (with_reducible first | exact HB.out | apply bA | apply bN | apply bD) | exact HB.out)))); have n1_ := am (below_step (by repeat (first | (with_reducible first | exact HB.out | apply bA | apply bN | apply bD) | exact HB.out)) hb); clear HB; have HO1070 := n0_; have HB := n1_; clear n0_ n1_; clear hb ho5))
      go_loopg [4] k (fun kq v4 w' => ∃ (x3_1 : List ByteArray) (x4_1 : Int), v4 = .int .i64 x4_1 ∧ Aside0 (laws_toStringS.l0 kq l0 x3_1 x4_1 = some r) ∧ Aside0 (kq ≤ k) ∧ Aside0 (Kd.R Kd.string 9 w' w.heap.size (fun _ => True) v1069 x3_1) ∧ Aside0 (Below w.heap.size w w'))
      case atStart => exact ⟨(y1068), (0), (by first | rfl | (simp; done) | (simp [*]; done)), H', ⟨Nat.le_refl _⟩, ⟨by (with_reducible repeat (first | apply rA | apply rN | apply rD)); exact HO1070.out⟩, ⟨by repeat (first | (with_reducible first | exact HB.out | apply bA | apply bN | apply bD) | exact HB.out)⟩⟩
      case round =>
        clear H'
        obtain ⟨x3_1, x4_1, rfl, HA, HK1, HO_3, HB⟩ := hrel
        cases gk with
        | zero => exact absurd HA.out (by simp [laws_toStringS.l0])
        | succ k1 =>
          have H := HA.out
          clear HA
          simp only [laws_toStringS.l0] at H
          by_cases c6 : x4_1 < (l0.length : Int)
          · rw [if_pos c6] at H
            have c6b0 : decide (x4_1 < (l0.length : Int)) = true := decide_eq_true c6
            clear c6
            by_cases c7 : 0 ≤ x4_1
            · rw [if_pos c7] at H
              have c7b0 : decide (0 ≤ x4_1) = true := decide_eq_true c7
              clear c7
              by_cases c8 : x4_1 < (x3_1.length : Int)
              · rw [if_pos c8] at H
                have c8b0 : decide (x4_1 < (x3_1.length : Int)) = true := decide_eq_true c8
                clear c8
                obtain ⟨y1072, hy1072⟩ : ∃ y_ : List ByteArray, y_ = (x3_1.set (x4_1 : Int).toNat (rdOf ByteArray.empty l0 x4_1)) := ⟨_, rfl⟩
                replace H : (laws_toStringS.l0 k1 l0 y1072 (wrap64 (x4_1 + 1))) = some r := by first | (rw [hy1072]; with_reducible exact H) | (have H2_ := (Option.bind_some _ _).symm.trans H; rw [hy1072]; with_reducible exact H2_) | (have H2_ := (Option.bind_some _ _).symm.trans H; with_reducible exact H2_) | with_reducible exact H | (rw [hy1072]; exact H) | exact H
                have Ny1072 := Aside0.mk hy1072
                clear hy1072
                have H' := Aside0.mk H
                clear H
                have p1071 : 0 ≤ (x4_1 : Int) := of_decide_eq_true (by assumption)
                have q1071 : x4_1 < (l0.length : Int) := of_decide_eq_true (by assumption)
                obtain ⟨ad1071, e1071, hx1071_0⟩ := Kd.at_string HR0.out x4_1 p1071 q1071
                cases e1071
                replace hx1071_0 := (HB.out.cell (World.block_lt_of_cell? w _ hx1071_0)).trans hx1071_0
                replace p1071 := eq_true p1071
                replace q1071 := eq_true q1071
                have p9 : 0 ≤ (x4_1 : Int) := of_decide_eq_true (by assumption)
                have q9 : (x4_1 : Int) < ((x3_1.length : Int) : Int) := of_decide_eq_true (by assumption)
                obtain ⟨go9, co9, eo9, gb9, gl9, cl9, HG9⟩ := Kd.R_form HO_3.out (by omega)
                (first | cases eo9 | (injection eo9 with ea_ en_ ec_; (first | subst ea_ | (injection ea_ with ea_; subst ea_)); subst ec_; clear en_))
                have GB9 := Aside0.mk gb9
                have GG9 := Aside0.mk HG9
                clear gb9 gl9 HG9
                obtain ⟨hx9_0, hf9_0⟩ := Kd.R_celln (⟨#[]⟩ : ByteArray) HO_3.out (x4_1 : Int) p9 q9
                replace p9 := eq_true p9
                replace q9 := eq_true q9
                have HP10 := Kd.R_putg HO_3.out (x4_1 : Int) (rdOf ByteArray.empty l0 x4_1)
                go_wp2_with (first | ((with_reducible refine gate_store (t := 9) (p := 20) rfl ?_); refine store_event (t := 9) (p := 20) (v := ?vo_w11) (w1 := (wr.setCell ⟨go9, (x4_1 : Int).toNat, none⟩ (.string (rdOf ByteArray.empty l0 x4_1)))) ?hg ?ho ?hn ?hr ?_; (case ho => rfl); (case hg => rfl); (case hn => rfl); (case hr => first | (go_simp; done) | (go_simp; rfl)); intro w11 hw; have hg : wr.grownBy w11 (some go9) := (by rw [hw]; exact HP10.2); have hp_ : Kd.R Kd.string 9 w11 w.heap.size (fun _ => True) (.slice (some ⟨go9, 0, none⟩) x3_1.length co9) y1072 := (by rw [hw, Ny1072.out]; exact HP10.1); clear HP10; have n0_ := am (hp_); have n1_ := am ((by rw [hw]; exact below_set (HB.out) GB9.out : Below w.heap.size w w11)); clear HO_3; clear HB; have HO_3 := n0_; have HB := n1_; clear n0_ n1_; clear hg hw hp_))
                go_roundg k1
                case measure => have := HK1.out; omega
                case rel => exact ⟨(y1072), (wrap64 (x4_1 + 1)), (by first | rfl | (simp; done) | (simp [*]; done)), H', ⟨by have := HK1.out; omega⟩, ⟨by (with_reducible repeat (first | apply rA | apply rN | apply rD)); exact HO_3.out⟩, ⟨by repeat (first | (with_reducible first | exact HB.out | apply bA | apply bN | apply bD) | exact HB.out)⟩⟩
              · rw [if_neg c8] at H
                exact absurd H (by simp)
            · rw [if_neg c7] at H
              exact absurd H (by simp)
          · rw [if_neg c6] at H
            have c6b0 : decide (x4_1 < (l0.length : Int)) = false := decide_eq_false c6
            clear c6
            obtain rfl := Option.some.inj H
            go_wp2
            go_ret
            exact ⟨_, by first | rfl | (simp [errW_none, errW_some] <;> rfl) | (simp [*, errW_none, errW_some] <;> rfl), by (with_reducible repeat (first | apply rA | apply rN | apply rD)); exact HO_3.out, by repeat (first | (with_reducible first | exact HB.out | apply bA | apply bN | apply bD) | exact HB.out)⟩
    · rw [if_neg c3] at H
      exact absurd H (by simp)
  · rw [if_neg c2] at H
    exact absurd H (by simp)

end Go.Proofs.Ytdgjddkibiffnaa.F
namespace Go.Proofs.Ytdgjddkibiffnaa.F
open Go.RowKit Go.Proofs.YtdgjddkibiffnaaW.PrintWords Go.Proofs.YtdgjddkibiffnaaW.PrintLast Go.Proofs.YtdgjddkibiffnaaW.PrintMore
attribute [local go_sem] binOp_string_gtr_ binOp_string_geq_ binOp_string_leq_ max2_int min2_int max_two min_two max_three min_three max_four min_four   -- for this text's walks alone
set_option linter.unusedVariables false
set_option linter.unusedSimpArgs false

/-! ### laws_toOp: function 125 -/
def laws_toOp.f (k : Nat) (a0_0 : ByteArray) (l0_1 : List ByteArray) (a0_2 : ByteArray) : Option (ByteArray × List ByteArray × ByteArray) := (laws_toStringS.f k l0_1).bind fun t1076 => (some (a0_0, t1076, a0_2))
set_option maxHeartbeats 8000000 in
set_option maxRecDepth 100000 in
theorem laws_toOp.calls (k : Nat) (a0_0 : ByteArray) (A0_1 : Option Addr) (c0_1 : Nat) (l0_1 : List ByteArray) (a0_2 : ByteArray) (r1 : ByteArray) (r2 : List ByteArray) (r3 : ByteArray) (w : World) (hr0_1 : Kd.C Kd.string w A0_1 l0_1.length l0_1) (hc0_1 : l0_1.length ≤ c0_1) (h : laws_toOp.f k a0_0 l0_1 a0_2 = some (r1, r2, r3)) :
    Calls Try.prog 125 #[.agg #[.string a0_0, .slice A0_1 l0_1.length c0_1, .string a0_2]] w fun e w' => ∃ v1_ : Value, e = .returned (.agg #[.string r1, v1_, .string r3]) ∧ Kd.R Kd.string 9 w' w.heap.size (fun _ => True) v1_ r2 ∧ Below w.heap.size w w' := by
  have hu140 := Try.underlying140
  have hu116 := Try.underlying116
  have HR0_1 := Aside0.mk hr0_1
  have HC0_1 := Aside0.mk hc0_1
  clear hr0_1 hc0_1
  have HB := am (Below.refl w.heap.size w)
  have H : ((laws_toStringS.f k l0_1).bind fun t1076 => (some (a0_0, t1076, a0_2))) = some (r1, r2, r3) := h
  clear h
  replace H := Option.bind_eq_some_iff.mp H
  obtain ⟨t1076, A20, H⟩ := H
  try dsimp only at H
  have A2 := Aside0.mk A20
  clear A20
  simp only [Option.some.injEq, Prod.mk.injEq] at H
  obtain ⟨rfl, rfl, rfl⟩ := H
  go_enter Try.func125, Try.ntmps125
  go_wp2_with (first | ((with_reducible refine gate_dst (N := 1) rfl ?_); refine box_event ?hg (N := 1) ?hd (cs := #[.string a0_0, .slice A0_1 l0_1.length c0_1, .string a0_2]) (t := 140) ?hr ?_; (case hd => rfl); (case hg => rfl); (case hr => first | (go_simp; done) | (go_simp; rfl)); intro gb1073 hg w3 hbox hb; have n0_ := am (below_step (by repeat (first | (with_reducible first | exact HB.out | apply bA | apply bN | apply bD) | exact HB.out)) hb); have n1_ := am (hbox); have n2_ := am ((by rw [hg]; exact (below_size (by repeat (first | (with_reducible first | exact HB.out | apply bA | apply bN | apply bD) | exact HB.out))) : w.heap.size ≤ gb1073)); have n3_ := am ((by rw [hg]; exact (below_size (by repeat (first | (with_reducible first | exact HB.out | apply bA | apply bN | apply bD) | exact HB.out))) : w.heap.size ≤ gb1073)); clear HB; have HB := n0_; have BK1073 := n1_; have GW1073 := n2_; have GE1073 := n3_; clear n0_ n1_ n2_ n3_; clear hb hbox hg) | ((with_reducible refine gate_dst (N := 2) rfl ?_); refine box_event ?hg (N := 2) ?hd (cs := #[.string (⟨#[]⟩ : ByteArray), .slice none 0 0, .string (⟨#[]⟩ : ByteArray)]) (t := 116) ?hr ?_; (case hd => rfl); (case hg => rfl); (case hr => first | (go_simp; done) | (go_simp; rfl)); intro gb1074 hg w4 hbox hb; have n0_ := am (blk_below (g := gb1073) (o := .cells #[.string a0_0, .slice A0_1 l0_1.length c0_1, .string a0_2] 140 (0, 0)) (by (with_reducible repeat (first | refine kN ?_ _ | refine kD ?_ | refine kA ?_ _)); exact BK1073.out) hb); have n1_ := am (below_step (by repeat (first | (with_reducible first | exact HB.out | apply bA | apply bN | apply bD | refine below_set ?_ GE1073.out) | exact HB.out)) hb); have n2_ := am (hbox); have n3_ := am ((by rw [hg]; exact (below_size (by repeat (first | (with_reducible first | exact HB.out | apply bA | apply bN | apply bD | refine below_set ?_ GE1073.out) | exact HB.out))) : w.heap.size ≤ gb1074)); have n4_ := am ((by rw [hg]; exact (below_size (by repeat (first | (with_reducible first | exact HB.out | apply bA | apply bN | apply bD | refine below_set ?_ GE1073.out) | exact HB.out))) : w.heap.size ≤ gb1074)); have n5_ := am ((by rw [hg]; exact Nat.ne_of_lt (blk_lt (g := gb1073) (o := .cells #[.string a0_0, .slice A0_1 l0_1.length c0_1, .string a0_2] 140 (0, 0)) (by (with_reducible repeat (first | refine kN ?_ _ | refine kD ?_ | refine kA ?_ _)); exact BK1073.out)) : gb1073 ≠ gb1074)); have n6_ := am ((by rw [hg]; exact Nat.ne_of_gt (blk_lt (g := gb1073) (o := .cells #[.string a0_0, .slice A0_1 l0_1.length c0_1, .string a0_2] 140 (0, 0)) (by (with_reducible repeat (first | refine kN ?_ _ | refine kD ?_ | refine kA ?_ _)); exact BK1073.out)) : gb1074 ≠ gb1073)); clear BK1073; clear HB; have BK1073 := n0_; have HB := n1_; have BK1074 := n2_; have GW1074 := n3_; have GE1074 := n4_; have NB1073_1074 := n5_; have NB1074_1073 := n6_; clear n0_ n1_ n2_ n3_ n4_ n5_ n6_; clear hb hbox hg) | ((with_reducible refine gate_dst (N := 3) rfl ?_); refine box_event ?hg (N := 3) ?hd (cs := #[.string (⟨#[]⟩ : ByteArray), .slice none 0 0, .string (⟨#[]⟩ : ByteArray)]) (t := 116) ?hr ?_; (case hd => rfl); (case hg => rfl); (case hr => first | (go_simp; done) | (go_simp; rfl)); intro gb1075 hg w5 hbox hb; have n0_ := am (blk_below (g := gb1073) (o := .cells #[.string a0_0, .slice A0_1 l0_1.length c0_1, .string a0_2] 140 (0, 0)) (by (with_reducible repeat (first | refine kN ?_ _ | refine kD ?_ | refine kA ?_ _)); exact BK1073.out) hb); have n1_ := am (blk_below (g := gb1074) (o := .cells #[.string (⟨#[]⟩ : ByteArray), .slice none 0 0, .string (⟨#[]⟩ : ByteArray)] 116 (0, 0)) (by (with_reducible repeat (first | refine kN ?_ _ | refine kD ?_ | refine kA ?_ _)); exact BK1074.out) hb); have n2_ := am (below_step (by repeat (first | (with_reducible first | exact HB.out | apply bA | apply bN | apply bD | refine below_set ?_ GE1073.out | refine below_set ?_ GE1074.out) | exact HB.out)) hb); have n3_ := am (hbox); have n4_ := am ((by rw [hg]; exact (below_size (by repeat (first | (with_reducible first | exact HB.out | apply bA | apply bN | apply bD | refine below_set ?_ GE1073.out | refine below_set ?_ GE1074.out) | exact HB.out))) : w.heap.size ≤ gb1075)); have n5_ := am ((by rw [hg]; exact (below_size (by repeat (first | (with_reducible first | exact HB.out | apply bA | apply bN | apply bD | refine below_set ?_ GE1073.out | refine below_set ?_ GE1074.out) | exact HB.out))) : w.heap.size ≤ gb1075)); have n6_ := am ((by rw [hg]; exact Nat.ne_of_lt (blk_lt (g := gb1073) (o := .cells #[.string a0_0, .slice A0_1 l0_1.length c0_1, .string a0_2] 140 (0, 0)) (by (with_reducible repeat (first | refine kN ?_ _ | refine kD ?_ | refine kA ?_ _)); exact BK1073.out)) : gb1073 ≠ gb1075)); have n7_ := am ((by rw [hg]; exact Nat.ne_of_gt (blk_lt (g := gb1073) (o := .cells #[.string a0_0, .slice A0_1 l0_1.length c0_1, .string a0_2] 140 (0, 0)) (by (with_reducible repeat (first | refine kN ?_ _ | refine kD ?_ | refine kA ?_ _)); exact BK1073.out)) : gb1075 ≠ gb1073)); have n8_ := am ((by rw [hg]; exact Nat.ne_of_lt (blk_lt (g := gb1074) (o := .cells #[.string (⟨#[]⟩ : ByteArray), .slice none 0 0, .string (⟨#[]⟩ : ByteArray)] 116 (0, 0)) (by (with_reducible repeat (first | refine kN ?_ _ | refine kD ?_ | refine kA ?_ _)); exact BK1074.out)) : gb1074 ≠ gb1075)); have n9_ := am ((by rw [hg]; exact Nat.ne_of_gt (blk_lt (g := gb1074) (o := .cells #[.string (⟨#[]⟩ : ByteArray), .slice none 0 0, .string (⟨#[]⟩ : ByteArray)] 116 (0, 0)) (by (with_reducible repeat (first | refine kN ?_ _ | refine kD ?_ | refine kA ?_ _)); exact BK1074.out)) : gb1075 ≠ gb1074)); clear BK1073; clear BK1074; clear HB; have BK1073 := n0_; have BK1074 := n1_; have HB := n2_; have BK1075 := n3_; have GW1075 := n4_; have GE1075 := n5_; have NB1073_1075 := n6_; have NB1075_1073 := n7_; have NB1074_1075 := n8_; have NB1075_1074 := n9_; clear n0_ n1_ n2_ n3_ n4_ n5_ n6_ n7_ n8_ n9_; clear hb hbox hg; have hnb6 := NB1073_1074.out; have hnc6 := NB1074_1073.out; have hnb7 := NB1073_1075.out; have hnc7 := NB1075_1073.out; have hcz8_0 : w5.cell? ⟨gb1073, 0, none⟩ = some (.string a0_0) := (blk_cell BK1073.out 0).trans rfl; have hcz8_1 : w5.cell? ⟨gb1073, 1, none⟩ = some (.slice A0_1 l0_1.length c0_1) := (blk_cell BK1073.out 1).trans rfl; have hcz8_2 : w5.cell? ⟨gb1073, 2, none⟩ = some (.string a0_2) := (blk_cell BK1073.out 2).trans rfl; have hfz8_0 := blk_frozen BK1073.out 0; have hfz8_1 := blk_frozen BK1073.out 1; have hfz8_2 := blk_frozen BK1073.out 2; have hnb9 := NB1075_1074.out; have hnc9 := NB1074_1075.out; have hcz10_0 : w5.cell? ⟨gb1075, 0, none⟩ = some (.string (⟨#[]⟩ : ByteArray)) := (blk_cell BK1075.out 0).trans rfl; have hcz10_1 : w5.cell? ⟨gb1075, 1, none⟩ = some (.slice none 0 0) := (blk_cell BK1075.out 1).trans rfl; have hcz10_2 : w5.cell? ⟨gb1075, 2, none⟩ = some (.string (⟨#[]⟩ : ByteArray)) := (blk_cell BK1075.out 2).trans rfl; have hfz10_0 := blk_frozen BK1075.out 0; have hfz10_1 := blk_frozen BK1075.out 1; have hfz10_2 := blk_frozen BK1075.out 2) | ((with_reducible refine gate_callee (f := 56) rfl ?_); refine goesL_ (some 9) rfl rfl Try.func56 (by kernel_rfl) rfl #[.slice A0_1 l0_1.length c0_1] rfl (by (try simp only [List.map_toArray, List.map_cons, List.map_nil]); first | done | rfl | (simp only [List.length_drop, List.length_take]; rfl)) ?_; (with_reducible refine (laws_toStringS.calls k _ _ l0_1 t1076 _ ?side1 ?side2 A2.out).mono ?_); (case side1 => exact Kd.C_below HR0_1.out (by repeat (first | (with_reducible first | exact HB.out | apply bA | apply bN | apply bD | refine below_set ?_ GE1073.out | refine below_set ?_ GE1074.out | refine below_set ?_ GE1075.out) | exact HB.out))); (case side2 => exact HC0_1.out); rintro e w11 ⟨v1077, rfl, ho0, hb⟩; refine ⟨_, rfl, ?_⟩; have n0_ := am (Kd.R_lower ho0 (below_size (by repeat (first | (with_reducible first | exact HB.out | apply bA | apply bN | apply bD | refine below_set ?_ GE1073.out | refine below_set ?_ GE1074.out | refine below_set ?_ GE1075.out) | exact HB.out)))); have n1_ := am (blk_below (g := gb1073) (o := .cells #[.string a0_0, .slice A0_1 l0_1.length c0_1, .string a0_2] 140 (0, 0)) (by (with_reducible repeat (first | refine kN ?_ _ | refine kD ?_ | refine kA ?_ _)); refine blk_far ?_ NB1073_1075.out _; (with_reducible repeat (first | refine kN ?_ _ | refine kD ?_ | refine kA ?_ _)); exact BK1073.out) hb); have n2_ := am (blk_below (g := gb1074) (o := .cells #[.string (⟨#[]⟩ : ByteArray), .slice none 0 0, .string (⟨#[]⟩ : ByteArray)] 116 (0, 0)) (by (with_reducible repeat (first | refine kN ?_ _ | refine kD ?_ | refine kA ?_ _)); refine blk_far ?_ NB1074_1075.out _; (with_reducible repeat (first | refine kN ?_ _ | refine kD ?_ | refine kA ?_ _)); exact BK1074.out) hb); have n3_ := am (blk_below (g := gb1075) (o := .cells #[.string a0_0, .slice none 0 0, .string (⟨#[]⟩ : ByteArray)] 116 (0, 0)) (by (with_reducible repeat (first | refine kN ?_ _ | refine kD ?_ | refine kA ?_ _)); refine blk_put (cs := #[.string (⟨#[]⟩ : ByteArray), .slice none 0 0, .string (⟨#[]⟩ : ByteArray)]) ?_ 0 _ rfl; (with_reducible repeat (first | refine kN ?_ _ | refine kD ?_ | refine kA ?_ _)); exact BK1075.out) hb); have n4_ := am (below_step (by repeat (first | (with_reducible first | exact HB.out | apply bA | apply bN | apply bD | refine below_set ?_ GE1073.out | refine below_set ?_ GE1074.out | refine below_set ?_ GE1075.out) | exact HB.out)) hb); clear BK1073; clear BK1074; clear BK1075; clear HB; have HO1078 := n0_; have BK1073 := n1_; have BK1074 := n2_; have BK1075 := n3_; have HB := n4_; clear n0_ n1_ n2_ n3_ n4_; obtain ⟨Ao12, co12, eo12⟩ := Kd.R_slice HO1078.out; subst eo12; have hcz13_0 : w11.cell? ⟨gb1075, 0, none⟩ = some (.string a0_0) := (blk_cell BK1075.out 0).trans rfl; have hcz13_1 : w11.cell? ⟨gb1075, 1, none⟩ = some (.slice none 0 0) := (blk_cell BK1075.out 1).trans rfl; have hcz13_2 : w11.cell? ⟨gb1075, 2, none⟩ = some (.string (⟨#[]⟩ : ByteArray)) := (blk_cell BK1075.out 2).trans rfl; have hfz13_0 := blk_frozen BK1075.out 0; have hfz13_1 := blk_frozen BK1075.out 1; have hfz13_2 := blk_frozen BK1075.out 2; have hcz14_0 : w11.cell? ⟨gb1073, 0, none⟩ = some (.string a0_0) := (blk_cell BK1073.out 0).trans rfl; have hcz14_1 : w11.cell? ⟨gb1073, 1, none⟩ = some (.slice A0_1 l0_1.length c0_1) := (blk_cell BK1073.out 1).trans rfl; have hcz14_2 : w11.cell? ⟨gb1073, 2, none⟩ = some (.string a0_2) := (blk_cell BK1073.out 2).trans rfl; have hfz14_0 := blk_frozen BK1073.out 0; have hfz14_1 := blk_frozen BK1073.out 1; have hfz14_2 := blk_frozen BK1073.out 2; have hcz15_0 : w11.cell? ⟨gb1074, 0, none⟩ = some (.string (⟨#[]⟩ : ByteArray)) := (blk_cell BK1074.out 0).trans rfl; have hcz15_1 : w11.cell? ⟨gb1074, 1, none⟩ = some (.slice none 0 0) := (blk_cell BK1074.out 1).trans rfl; have hcz15_2 : w11.cell? ⟨gb1074, 2, none⟩ = some (.string (⟨#[]⟩ : ByteArray)) := (blk_cell BK1074.out 2).trans rfl; have hfz15_0 := blk_frozen BK1074.out 0; have hfz15_1 := blk_frozen BK1074.out 1; have hfz15_2 := blk_frozen BK1074.out 2))
  refine bodyPost_ret (results_cell_row rfl _ _ gb1074 116 #[.string a0_0, .slice Ao12 t1076.length co12, .string a0_2] (0, 0) _ rfl (by (with_reducible repeat (first | refine kN ?_ _ | refine kD ?_ | refine kA ?_ _)); refine blk_put (cs := #[.string a0_0, .slice Ao12 t1076.length co12, .string (⟨#[]⟩ : ByteArray)]) ?_ 2 _ rfl; (with_reducible repeat (first | refine kN ?_ _ | refine kD ?_ | refine kA ?_ _)); refine blk_put (cs := #[.string a0_0, .slice none 0 0, .string (⟨#[]⟩ : ByteArray)]) ?_ 1 _ rfl; (with_reducible repeat (first | refine kN ?_ _ | refine kD ?_ | refine kA ?_ _)); refine blk_put (cs := #[.string (⟨#[]⟩ : ByteArray), .slice none 0 0, .string (⟨#[]⟩ : ByteArray)]) ?_ 0 _ rfl; (with_reducible repeat (first | refine kN ?_ _ | refine kD ?_ | refine kA ?_ _)); refine blk_far ?_ NB1074_1075.out _; (with_reducible repeat (first | refine kN ?_ _ | refine kD ?_ | refine kA ?_ _)); refine blk_far ?_ NB1074_1075.out _; (with_reducible repeat (first | refine kN ?_ _ | refine kD ?_ | refine kA ?_ _)); exact BK1074.out) Try.underlying116 rfl (by kernel_rfl)) rfl ?_
  exact ⟨_, by first | rfl | (simp [errW_none, errW_some] <;> rfl) | (simp [*, errW_none, errW_some] <;> rfl), by (with_reducible repeat (first | apply rA | apply rN | apply rD)); exact Kd.R_mono (Kd.R_far (p := ⟨gb1074, 2, none⟩) (Kd.R_far (p := ⟨gb1074, 1, none⟩) (Kd.R_far (p := ⟨gb1074, 0, none⟩) (Kd.R_far (p := ⟨gb1075, 2, none⟩) (Kd.R_far (p := ⟨gb1075, 1, none⟩) (Kd.R_types (Kd.R_types HO1078.out BK1075.out (by decide)) BK1074.out (by decide)) (fun _ hk => hk.1.2) (.slice Ao12 t1076.length co12)) (fun _ hk => hk.1.2) (.string a0_2)) (fun _ hk => hk.2) (.string a0_0)) (fun _ hk => hk.2) (.slice Ao12 t1076.length co12)) (fun _ hk => hk.2) (.string a0_2)) (fun _ hk => trivial), by repeat (first | (with_reducible first | exact HB.out | apply bA | apply bN | apply bD | refine below_set ?_ GE1073.out | refine below_set ?_ GE1074.out | refine below_set ?_ GE1075.out) | exact HB.out)⟩

end Go.Proofs.Ytdgjddkibiffnaa.F
namespace Go.Proofs.Ytdgjddkibiffnaa.F
open Go.RowKit Go.Proofs.YtdgjddkibiffnaaW.PrintWords Go.Proofs.YtdgjddkibiffnaaW.PrintLast Go.Proofs.YtdgjddkibiffnaaW.PrintMore
attribute [local go_sem] binOp_string_gtr_ binOp_string_geq_ binOp_string_leq_ max2_int min2_int max_two min_two max_three min_three max_four min_four   -- for this text's walks alone
set_option linter.unusedVariables false
set_option linter.unusedSimpArgs false

/-! ### laws_toOpS: function 101 -/
def laws_toOpS.l0 : Nat → List (S140) → List (S116) → Int → Option ((List (S116)))
  | 0, _, _, _ => none
  | k + 1, x0, x3, x4 => if x4 < (x0.length : Int) then (if 0 ≤ x4 then ((laws_toOp.f k ((rd_T140 x0 x4).f0) ((rd_T140 x0 x4).f1) ((rd_T140 x0 x4).f2)).bind fun bt1083 => (if x4 < (x3.length : Int) then (laws_toOpS.l0 k x0 (x3.set (x4 : Int).toNat (⟨bt1083.1, bt1083.2.1, bt1083.2.2⟩ : S116)) (wrap64 (x4 + 1))) else (none))) else (none)) else (some x3)
def laws_toOpS.f (k : Nat) (l0 : List (S140)) : Option ((List (S116))) := if 0 ≤ (l0.length : Int) then (if ((l0.length : Int) : Int).toNat ≤ 5026338869833 then (laws_toOpS.l0 k l0 (List.replicate ((l0.length : Int) : Int).toNat z116) 0) else (none)) else (none)
set_option maxHeartbeats 8000000 in
set_option maxRecDepth 100000 in
theorem laws_toOpS.calls (k : Nat) (A0 : Option Addr) (c0 : Nat) (l0 : List (S140)) (r : List (S116)) (w : World) (hr0 : Kd.C k140 w A0 l0.length l0) (hc0 : l0.length ≤ c0) (h : laws_toOpS.f k l0 = some r) :
    Calls Try.prog 101 #[.slice A0 l0.length c0] w fun e w' => ∃ v0_ : Value, e = .returned (v0_) ∧ Kd.S k116 116 w' w.heap.size (fun _ => True) v0_ r ∧ Below w.heap.size w w' := by
  have hu140 := Try.underlying140
  have hu116 := Try.underlying116
  have HR0 := Aside0.mk hr0
  have HC0 := Aside0.mk hc0
  clear hr0 hc0
  have HB := am (Below.refl w.heap.size w)
  have H : (if 0 ≤ (l0.length : Int) then (if ((l0.length : Int) : Int).toNat ≤ 5026338869833 then (laws_toOpS.l0 k l0 (List.replicate ((l0.length : Int) : Int).toNat z116) 0) else (none)) else (none)) = some r := h
  clear h
  by_cases c2 : 0 ≤ (l0.length : Int)
  · rw [if_pos c2] at H
    have c2b0 := eq_true c2
    have c2b1 : decide (0 ≤ (l0.length : Int)) = true := decide_eq_true c2
    clear c2
    by_cases c3 : ((l0.length : Int) : Int).toNat ≤ 5026338869833
    · rw [if_pos c3] at H
      have c3b0 := eq_true c3
      have c3b1 : decide (((l0.length : Int) : Int).toNat ≤ 5026338869833) = true := decide_eq_true c3
      clear c3
      obtain ⟨y1079, hy1079⟩ : ∃ y_ : List (S116), y_ = (List.replicate ((l0.length : Int) : Int).toNat z116) := ⟨_, rfl⟩
      replace H : (laws_toOpS.l0 k l0 y1079 0) = some r := by first | (rw [hy1079]; with_reducible exact H) | (have H2_ := (Option.bind_some _ _).symm.trans H; rw [hy1079]; with_reducible exact H2_) | (have H2_ := (Option.bind_some _ _).symm.trans H; with_reducible exact H2_) | with_reducible exact H | (rw [hy1079]; exact H) | exact H
      have Ny1079 := Aside0.mk hy1079
      clear hy1079
      have H' := Aside0.mk H
      clear H
      go_enter Try.func101, Try.ntmps101
      go_wp2_with (first | ((with_reducible refine gate_dst (N := 7) rfl ?_); refine Kd.S_make k116 _ 116 rfl (N := 7) rfl 71 _ _ rfl (l0.length : Int) rfl rfl Try.underlying71 (.agg #[(.string ⟨#[]⟩), (.slice none 0 0), (.string ⟨#[]⟩)]) 56 info116 rfl (by decide) (by omega) z116 (ok := fun _ => True) (okp := fun _ => True) (k116_mkM _ _ _ z116 (Kd.R_nil _ _ _ _ _)) (fun _ hk => hk) trivial (of_decide_eq_true (by assumption)) (Nat.le_trans (Nat.mul_le_mul_right _ (of_decide_eq_true (by assumption) : (l0.length : Int).toNat ≤ 5026338869833)) (by omega)) (Below.refl _ _) (Nat.le_refl _) ?_; intro v1080 w4 ho5 hb hg_ hnew_; clear hg_ hnew_; (first | rw [← Ny1079.out] at ho5 | (simp only [Int.reduceToNat] at ho5; rw [← Ny1079.out] at ho5)); have n0_ := am (Kd.S_lower ho5 (below_size (by repeat (first | (with_reducible first | exact HB.out | apply bA | apply bN | apply bD) | exact HB.out)))); have n1_ := am (below_step (by repeat (first | (with_reducible first | exact HB.out | apply bA | apply bN | apply bD) | exact HB.out)) hb); clear HB; have HO1081 := n0_; have HB := n1_; clear n0_ n1_; clear hb ho5))
      go_loopg [4] k (fun kq v4 w' => ∃ (x3_1 : List (S116)) (x4_1 : Int), v4 = .int .i64 x4_1 ∧ Aside0 (laws_toOpS.l0 kq l0 x3_1 x4_1 = some r) ∧ Aside0 (kq ≤ k) ∧ Aside0 (Kd.S k116 116 w' w.heap.size (fun _ => True) v1080 x3_1) ∧ Aside0 (Below w.heap.size w w'))
      case atStart => exact ⟨(y1079), (0), (by first | rfl | (simp; done) | (simp [*]; done)), H', ⟨Nat.le_refl _⟩, ⟨by (with_reducible repeat (first | apply Kd.S_alloc | apply Kd.S_drewN | apply Kd.S_drew)); exact HO1081.out⟩, ⟨by repeat (first | (with_reducible first | exact HB.out | apply bA | apply bN | apply bD) | exact HB.out)⟩⟩
      case round =>
        clear H'
        obtain ⟨x3_1, x4_1, rfl, HA, HK1, HO_3, HB⟩ := hrel
        cases gk with
        | zero => exact absurd HA.out (by simp [laws_toOpS.l0])
        | succ k1 =>
          have H := HA.out
          clear HA
          simp only [laws_toOpS.l0] at H
          by_cases c6 : x4_1 < (l0.length : Int)
          · rw [if_pos c6] at H
            have c6b0 : decide (x4_1 < (l0.length : Int)) = true := decide_eq_true c6
            clear c6
            by_cases c7 : 0 ≤ x4_1
            · rw [if_pos c7] at H
              have c7b0 : decide (0 ≤ x4_1) = true := decide_eq_true c7
              clear c7
              replace H := Option.bind_eq_some_iff.mp H
              obtain ⟨⟨t1083, t1084, t1087⟩, A80, H⟩ := H
              try dsimp only at H
              have A8 := Aside0.mk A80
              clear A80
              by_cases c9 : x4_1 < (x3_1.length : Int)
              · rw [if_pos c9] at H
                have c9b0 : decide (x4_1 < (x3_1.length : Int)) = true := decide_eq_true c9
                clear c9
                obtain ⟨y1088, hy1088⟩ : ∃ y_ : List (S116), y_ = (x3_1.set (x4_1 : Int).toNat (⟨t1083, t1084, t1087⟩ : S116)) := ⟨_, rfl⟩
                replace H : (laws_toOpS.l0 k1 l0 y1088 (wrap64 (x4_1 + 1))) = some r := by first | (rw [hy1088]; with_reducible exact H) | (have H2_ := (Option.bind_some _ _).symm.trans H; rw [hy1088]; with_reducible exact H2_) | (have H2_ := (Option.bind_some _ _).symm.trans H; with_reducible exact H2_) | with_reducible exact H | (rw [hy1088]; exact H) | exact H
                have Ny1088 := Aside0.mk hy1088
                clear hy1088
                have H' := Aside0.mk H
                clear H
                have p1082 : 0 ≤ (x4_1 : Int) := of_decide_eq_true (by assumption)
                have q1082 : x4_1 < (l0.length : Int) := of_decide_eq_true (by assumption)
                obtain ⟨ad1082, A1082_1, c1082_1, e1082, hx1082_0, hx1082_1, hx1082_2, hl1082_1, hi1082_1⟩ := at_T140 HR0.out x4_1 p1082 q1082
                cases e1082
                replace hx1082_0 := (HB.out.cell (World.block_lt_of_cell? w _ hx1082_0)).trans hx1082_0
                replace hx1082_1 := (HB.out.cell (World.block_lt_of_cell? w _ hx1082_1)).trans hx1082_1
                replace hx1082_2 := (HB.out.cell (World.block_lt_of_cell? w _ hx1082_2)).trans hx1082_2
                have HR1082_1 := Aside0.mk hi1082_1
                have HC1082_1 := Aside0.mk hl1082_1
                clear hi1082_1 hl1082_1
                replace p1082 := eq_true p1082
                replace q1082 := eq_true q1082
                go_wp2_with (first | ((with_reducible refine gate_callee (f := 125) rfl ?_); refine goesL_ (some 20) rfl rfl Try.func125 (by kernel_rfl) rfl #[.agg #[.string ((rd_T140 l0 x4_1).f0), .slice A1082_1 ((rd_T140 l0 x4_1).f1).length c1082_1, .string ((rd_T140 l0 x4_1).f2)]] rfl (by (try simp only [List.map_toArray, List.map_cons, List.map_nil]); first | done | rfl | (simp only [List.length_drop, List.length_take]; rfl)) ?_; (with_reducible refine (laws_toOp.calls k1 ((rd_T140 l0 x4_1).f0) _ _ ((rd_T140 l0 x4_1).f1) ((rd_T140 l0 x4_1).f2) t1083 t1084 t1087 _ ?side1 ?side2 A8.out).mono ?_); (case side1 => repeat (first | exact (Kd.C_below HR1082_1.out HB.out) | (with_reducible refine cA ?_ _) | (with_reducible refine cN ?_ _) | (with_reducible refine cD ?_))); (case side2 => exact HC1082_1.out); rintro e w11 ⟨v1085, rfl, ho0, hb⟩; refine ⟨_, rfl, ?_⟩; have n0_ := am (Kd.S_elder' (by (with_reducible repeat (first | apply Kd.S_alloc | apply Kd.S_drewN | apply Kd.S_drew)); exact HO_3.out) (Kd.R_base ho0) hb); have n1_ := am (Kd.R_lower ho0 (below_size (by repeat (first | (with_reducible first | exact HB.out | apply bA | apply bN | apply bD) | exact HB.out)))); have n2_ := am (below_step (by repeat (first | (with_reducible first | exact HB.out | apply bA | apply bN | apply bD) | exact HB.out)) hb); clear HO_3; clear HB; have HO_3 := n0_; have HO1086 := n1_; have HB := n2_; clear n0_ n1_ n2_; have p10 : 0 ≤ (x4_1 : Int) := of_decide_eq_true (by assumption); have q10 : (x4_1 : Int) < ((x3_1.length : Int) : Int) := of_decide_eq_true (by assumption); obtain ⟨go10, co10, eo10, gb10, gl10, cl10, HG10⟩ := Kd.S_form HO_3.out (by omega); (first | cases eo10 | (injection eo10 with ea_ en_ ec_; (first | subst ea_ | (injection ea_ with ea_; subst ea_)); subst ec_; clear en_)); have GB10 := Aside0.mk gb10; have GG10 := Aside0.mk HG10; clear gb10 gl10 HG10; obtain ⟨_, ce10, hcl10, hM10, hcc10, hfr10, _, _⟩ := Kd.S_elem HO_3.out z116 (x4_1 : Int) p10 q10; obtain ⟨ve10_1, rfl, ge10_1⟩ := k116_openM hM10; have hx10_0 : w11.cell? ⟨go10, (x4_1 : Int).toNat * 3, none⟩ = some (.string ((rd_T116 x3_1 x4_1).f0)) := hcc10 0 _ rfl; have hx10_1 : w11.cell? ⟨go10, (x4_1 : Int).toNat * 3 + 1, none⟩ = some (ve10_1) := hcc10 1 _ rfl; have hx10_2 : w11.cell? ⟨go10, (x4_1 : Int).toNat * 3 + 2, none⟩ = some (.string ((rd_T116 x3_1 x4_1).f2)) := hcc10 2 _ rfl; have hf10_0 : w11.frozen? ⟨go10, (x4_1 : Int).toNat * 3, none⟩ = false := hfr10 0; have hf10_1 : w11.frozen? ⟨go10, (x4_1 : Int).toNat * 3 + 1, none⟩ = false := hfr10 1; have hf10_2 : w11.frozen? ⟨go10, (x4_1 : Int).toNat * 3 + 2, none⟩ = false := hfr10 2; clear hcl10 hcc10 hfr10 hM10; replace p10 := eq_true p10; replace q10 := eq_true q10; obtain ⟨Ao14, co14, eo14⟩ := Kd.R_slice HO1086.out; subst eo14; have n_ := am (Kd.S_mono (ok' := (fun k_ => some k_ ≠ (.slice Ao14 t1084.length co14 : Value).ownBlock)) HO_3.out (fun k_ hk => hk.2)); clear HO_3; have HO_3 := n_; clear n_; have HX12 := am (show Kd.S k116 116 w11 w.heap.size (fun k_ => ((fun _ => True)) k_ ∧ ¬ ((fun k_ => some k_ = (.slice Ao14 t1084.length co14 : Value).ownBlock)) k_) (.slice (some ⟨go10, 0, none⟩) x3_1.length co10) x3_1 from (by (with_reducible repeat (first | apply Kd.S_alloc | apply Kd.S_drewN | apply Kd.S_drew)); exact Kd.S_mono HO_3.out (fun k_ hk => ⟨trivial, fun e_ => hk e_⟩))); obtain ⟨oki12, ce12, hcl12, hM12, hcc12, hfr12, hoki12, hH12⟩ := Kd.S_elem HX12.out z116 (x4_1 : Int) (of_decide_eq_true (by assumption)) (by have h_ : (x4_1 : Int) < ((x3_1.length : Int) : Int) := of_decide_eq_true (by assumption); first | exact h_ | (have e_ := (Kd.S_reads' HO_3.out).1; omega) | simpa using h_); obtain ⟨ve12_1, rfl, ge12_1⟩ := k116_openM hM12; have HP12 := Kd.S_seg hH12 (of_decide_eq_true (by assumption)) (by have h_ : (x4_1 : Int) < ((x3_1.length : Int) : Int) := of_decide_eq_true (by assumption); first | exact h_ | (have e_ := (Kd.S_reads' HO_3.out).1; omega) | simpa using h_) (seg := [.string t1083, .slice Ao14 t1084.length co14, .string t1087]) (j := 0) (show 3 ≤ 3 from by decide) (x' := (⟨t1083, t1084, t1087⟩ : S116)) (k116_mkM _ _ _ (⟨t1083, t1084, t1087⟩ : S116) (Kd.R_mono (Kd.R_tight rfl (Kd.R_mono (ok' := fun k_ => ((fun _ => True)) k_ ∧ k_ ≠ go10) (Kd.R_apart' (HO1086.out) (Kd.S_typed HO_3.out) (by decide)) (fun k_ hk => ⟨trivial, fun e_ => (hk.2) (by rw [e_]; rfl)⟩))) (fun _ h_ => Or.inr (h_)))) (fun _ hk => hk) (fun k_ hk_ => ((Kd.R_mono (ok' := fun k_ => ((fun _ => True)) k_ ∧ k_ ≠ go10) (Kd.R_apart' (HO1086.out) (Kd.S_typed HO_3.out) (by decide)) (fun k_ hk => ⟨trivial, fun e_ => (hk.2) (by rw [e_]; rfl)⟩))).1 k_ hk_.symm); have hx12_0 := hcc12 0 _ rfl; (try simp only [show (k116).sz = 3 from rfl, Nat.mul_one, Nat.add_zero] at hx12_0); have hf12_0 := hfr12 0; (try simp only [show (k116).sz = 3 from rfl, Nat.mul_one, Nat.add_zero] at hf12_0); have hx12_1 := hcc12 1 _ rfl; (try simp only [show (k116).sz = 3 from rfl, Nat.mul_one, Nat.add_zero] at hx12_1); have hf12_1 := hfr12 1; (try simp only [show (k116).sz = 3 from rfl, Nat.mul_one, Nat.add_zero] at hf12_1); have hx12_2 := hcc12 2 _ rfl; (try simp only [show (k116).sz = 3 from rfl, Nat.mul_one, Nat.add_zero] at hx12_2); have hf12_2 := hfr12 2; (try simp only [show (k116).sz = 3 from rfl, Nat.mul_one, Nat.add_zero] at hf12_2); clear hcl12 hcc12 hfr12 hM12 hoki12 hH12) | ((with_reducible refine gate_store (t := 116) (p := 21) rfl ?_); refine store_event (t := 116) (p := 21) (v := ?vo_w13) (w1 := (((w11.setCell ⟨go10, (x4_1 : Int).toNat * 3, none⟩ (.string t1083)).setCell ⟨go10, (x4_1 : Int).toNat * 3 + 1, none⟩ (.slice Ao14 t1084.length co14)).setCell ⟨go10, (x4_1 : Int).toNat * 3 + 2, none⟩ (.string t1087))) ?hg ?ho ?hn ?hr ?_; (case ho => rfl); (case hg => rfl); (case hn => rfl); (case hr => first | (go_simp; done) | (go_simp; rfl)); intro w13 hw; have hg : w11.grownBy w13 (some go10) := (by rw [hw]; exact HP12.2); have hp_ : Kd.S k116 116 w13 w.heap.size (fun _ => True) (.slice (some ⟨go10, 0, none⟩) x3_1.length co10) y1088 := (by rw [hw, Ny1088.out]; exact HP12.1); clear HP12; have n0_ := am (hp_); have n1_ := am ((by rw [hw]; exact below_set (below_set (below_set (HB.out) GB10.out) GB10.out) GB10.out : Below w.heap.size w w13)); clear HO_3; clear HB; clear HO1086; have HO_3 := n0_; have HB := n1_; clear n0_ n1_; clear hg hw hp_))
                go_roundg k1
                case measure => have := HK1.out; omega
                case rel => exact ⟨(y1088), (wrap64 (x4_1 + 1)), (by first | rfl | (simp; done) | (simp [*]; done)), H', ⟨by have := HK1.out; omega⟩, ⟨by (with_reducible repeat (first | apply Kd.S_alloc | apply Kd.S_drewN | apply Kd.S_drew)); exact HO_3.out⟩, ⟨by repeat (first | (with_reducible first | exact HB.out | apply bA | apply bN | apply bD) | exact HB.out)⟩⟩
              · rw [if_neg c9] at H
                exact absurd H (by simp)
            · rw [if_neg c7] at H
              exact absurd H (by simp)
          · rw [if_neg c6] at H
            have c6b0 : decide (x4_1 < (l0.length : Int)) = false := decide_eq_false c6
            clear c6
            obtain rfl := Option.some.inj H
            go_wp2
            go_ret
            exact ⟨_, by first | rfl | (simp [errW_none, errW_some] <;> rfl) | (simp [*, errW_none, errW_some] <;> rfl), by (with_reducible repeat (first | apply Kd.S_alloc | apply Kd.S_drewN | apply Kd.S_drew)); exact HO_3.out, by repeat (first | (with_reducible first | exact HB.out | apply bA | apply bN | apply bD) | exact HB.out)⟩
    · rw [if_neg c3] at H
      exact absurd H (by simp)
  · rw [if_neg c2] at H
    exact absurd H (by simp)

end Go.Proofs.Ytdgjddkibiffnaa.F
namespace Go.Proofs.Ytdgjddkibiffnaa.F
open Go.RowKit Go.Proofs.YtdgjddkibiffnaaW.PrintWords Go.Proofs.YtdgjddkibiffnaaW.PrintLast Go.Proofs.YtdgjddkibiffnaaW.PrintMore
attribute [local go_sem] binOp_string_gtr_ binOp_string_geq_ binOp_string_leq_ max2_int min2_int max_two min_two max_three min_three max_four min_four   -- for this text's walks alone
set_option linter.unusedVariables false
set_option linter.unusedSimpArgs false

/-! ### laws_toSignature: function 49 -/
def laws_toSignature.f (k : Nat) (l0_0 : List ByteArray) (l0_1 : List (S140)) : Option (List ByteArray × (List (S116))) := (laws_toStringS.f k l0_0).bind fun t1092 => ((laws_toOpS.f k l0_1).bind fun t1095 => (some (t1092, t1095)))
set_option maxHeartbeats 8000000 in
set_option maxRecDepth 100000 in
theorem laws_toSignature.calls (k : Nat) (A0_0 : Option Addr) (c0_0 : Nat) (l0_0 : List ByteArray) (A0_1 : Option Addr) (c0_1 : Nat) (l0_1 : List (S140)) (r1 : List ByteArray) (r2 : List (S116)) (w : World) (hr0_0 : Kd.C Kd.string w A0_0 l0_0.length l0_0) (hc0_0 : l0_0.length ≤ c0_0) (hr0_1 : Kd.C k140 w A0_1 l0_1.length l0_1) (hc0_1 : l0_1.length ≤ c0_1) (h : laws_toSignature.f k l0_0 l0_1 = some (r1, r2)) :
    Calls Try.prog 49 #[.agg #[.slice A0_0 l0_0.length c0_0, .slice A0_1 l0_1.length c0_1]] w fun e w' => ∃ v0_ v1_ : Value, e = .returned (.agg #[v0_, v1_]) ∧ Kd.R Kd.string 9 w' w.heap.size (fun _ => True) v0_ r1 ∧ Kd.S k116 116 w' w.heap.size (fun k_ => some k_ ≠ (v0_ : Value).ownBlock) v1_ r2 ∧ Below w.heap.size w w' := by
  have hu66 := Try.underlying66
  have hu73 := Try.underlying73
  have HR0_0 := Aside0.mk hr0_0
  have HC0_0 := Aside0.mk hc0_0
  clear hr0_0 hc0_0
  have HR0_1 := Aside0.mk hr0_1
  have HC0_1 := Aside0.mk hc0_1
  clear hr0_1 hc0_1
  have HB := am (Below.refl w.heap.size w)
  have H : ((laws_toStringS.f k l0_0).bind fun t1092 => ((laws_toOpS.f k l0_1).bind fun t1095 => (some (t1092, t1095)))) = some (r1, r2) := h
  clear h
  replace H := Option.bind_eq_some_iff.mp H
  obtain ⟨t1092, A20, H⟩ := H
  try dsimp only at H
  have A2 := Aside0.mk A20
  clear A20
  replace H := Option.bind_eq_some_iff.mp H
  obtain ⟨t1095, A30, H⟩ := H
  try dsimp only at H
  have A3 := Aside0.mk A30
  clear A30
  simp only [Option.some.injEq, Prod.mk.injEq] at H
  obtain ⟨rfl, rfl⟩ := H
  go_enter Try.func49, Try.ntmps49
  go_wp2_with (first | ((with_reducible refine gate_dst (N := 1) rfl ?_); refine box_event ?hg (N := 1) ?hd (cs := #[.slice A0_0 l0_0.length c0_0, .slice A0_1 l0_1.length c0_1]) (t := 66) ?hr ?_; (case hd => rfl); (case hg => rfl); (case hr => first | (go_simp; done) | (go_simp; rfl)); intro gb1089 hg w4 hbox hb; have n0_ := am (below_step (by repeat (first | (with_reducible first | exact HB.out | apply bA | apply bN | apply bD) | exact HB.out)) hb); have n1_ := am (hbox); have n2_ := am ((by rw [hg]; exact (below_size (by repeat (first | (with_reducible first | exact HB.out | apply bA | apply bN | apply bD) | exact HB.out))) : w.heap.size ≤ gb1089)); have n3_ := am ((by rw [hg]; exact (below_size (by repeat (first | (with_reducible first | exact HB.out | apply bA | apply bN | apply bD) | exact HB.out))) : w.heap.size ≤ gb1089)); clear HB; have HB := n0_; have BK1089 := n1_; have GW1089 := n2_; have GE1089 := n3_; clear n0_ n1_ n2_ n3_; clear hb hbox hg) | ((with_reducible refine gate_dst (N := 2) rfl ?_); refine box_event ?hg (N := 2) ?hd (cs := #[.slice none 0 0, .slice none 0 0]) (t := 73) ?hr ?_; (case hd => rfl); (case hg => rfl); (case hr => first | (go_simp; done) | (go_simp; rfl)); intro gb1090 hg w5 hbox hb; have n0_ := am (blk_below (g := gb1089) (o := .cells #[.slice A0_0 l0_0.length c0_0, .slice A0_1 l0_1.length c0_1] 66 (0, 0)) (by (with_reducible repeat (first | refine kN ?_ _ | refine kD ?_ | refine kA ?_ _)); exact BK1089.out) hb); have n1_ := am (below_step (by repeat (first | (with_reducible first | exact HB.out | apply bA | apply bN | apply bD | refine below_set ?_ GE1089.out) | exact HB.out)) hb); have n2_ := am (hbox); have n3_ := am ((by rw [hg]; exact (below_size (by repeat (first | (with_reducible first | exact HB.out | apply bA | apply bN | apply bD | refine below_set ?_ GE1089.out) | exact HB.out))) : w.heap.size ≤ gb1090)); have n4_ := am ((by rw [hg]; exact (below_size (by repeat (first | (with_reducible first | exact HB.out | apply bA | apply bN | apply bD | refine below_set ?_ GE1089.out) | exact HB.out))) : w.heap.size ≤ gb1090)); have n5_ := am ((by rw [hg]; exact Nat.ne_of_lt (blk_lt (g := gb1089) (o := .cells #[.slice A0_0 l0_0.length c0_0, .slice A0_1 l0_1.length c0_1] 66 (0, 0)) (by (with_reducible repeat (first | refine kN ?_ _ | refine kD ?_ | refine kA ?_ _)); exact BK1089.out)) : gb1089 ≠ gb1090)); have n6_ := am ((by rw [hg]; exact Nat.ne_of_gt (blk_lt (g := gb1089) (o := .cells #[.slice A0_0 l0_0.length c0_0, .slice A0_1 l0_1.length c0_1] 66 (0, 0)) (by (with_reducible repeat (first | refine kN ?_ _ | refine kD ?_ | refine kA ?_ _)); exact BK1089.out)) : gb1090 ≠ gb1089)); clear BK1089; clear HB; have BK1089 := n0_; have HB := n1_; have BK1090 := n2_; have GW1090 := n3_; have GE1090 := n4_; have NB1089_1090 := n5_; have NB1090_1089 := n6_; clear n0_ n1_ n2_ n3_ n4_ n5_ n6_; clear hb hbox hg) | ((with_reducible refine gate_dst (N := 3) rfl ?_); refine box_event ?hg (N := 3) ?hd (cs := #[.slice none 0 0, .slice none 0 0]) (t := 73) ?hr ?_; (case hd => rfl); (case hg => rfl); (case hr => first | (go_simp; done) | (go_simp; rfl)); intro gb1091 hg w6 hbox hb; have n0_ := am (blk_below (g := gb1089) (o := .cells #[.slice A0_0 l0_0.length c0_0, .slice A0_1 l0_1.length c0_1] 66 (0, 0)) (by (with_reducible repeat (first | refine kN ?_ _ | refine kD ?_ | refine kA ?_ _)); exact BK1089.out) hb); have n1_ := am (blk_below (g := gb1090) (o := .cells #[.slice none 0 0, .slice none 0 0] 73 (0, 0)) (by (with_reducible repeat (first | refine kN ?_ _ | refine kD ?_ | refine kA ?_ _)); exact BK1090.out) hb); have n2_ := am (below_step (by repeat (first | (with_reducible first | exact HB.out | apply bA | apply bN | apply bD | refine below_set ?_ GE1089.out | refine below_set ?_ GE1090.out) | exact HB.out)) hb); have n3_ := am (hbox); have n4_ := am ((by rw [hg]; exact (below_size (by repeat (first | (with_reducible first | exact HB.out | apply bA | apply bN | apply bD | refine below_set ?_ GE1089.out | refine below_set ?_ GE1090.out) | exact HB.out))) : w.heap.size ≤ gb1091)); have n5_ := am ((by rw [hg]; exact (below_size (by repeat (first | (with_reducible first | exact HB.out | apply bA | apply bN | apply bD | refine below_set ?_ GE1089.out | refine below_set ?_ GE1090.out) | exact HB.out))) : w.heap.size ≤ gb1091)); have n6_ := am ((by rw [hg]; exact Nat.ne_of_lt (blk_lt (g := gb1089) (o := .cells #[.slice A0_0 l0_0.length c0_0, .slice A0_1 l0_1.length c0_1] 66 (0, 0)) (by (with_reducible repeat (first | refine kN ?_ _ | refine kD ?_ | refine kA ?_ _)); exact BK1089.out)) : gb1089 ≠ gb1091)); have n7_ := am ((by rw [hg]; exact Nat.ne_of_gt (blk_lt (g := gb1089) (o := .cells #[.slice A0_0 l0_0.length c0_0, .slice A0_1 l0_1.length c0_1] 66 (0, 0)) (by (with_reducible repeat (first | refine kN ?_ _ | refine kD ?_ | refine kA ?_ _)); exact BK1089.out)) : gb1091 ≠ gb1089)); have n8_ := am ((by rw [hg]; exact Nat.ne_of_lt (blk_lt (g := gb1090) (o := .cells #[.slice none 0 0, .slice none 0 0] 73 (0, 0)) (by (with_reducible repeat (first | refine kN ?_ _ | refine kD ?_ | refine kA ?_ _)); exact BK1090.out)) : gb1090 ≠ gb1091)); have n9_ := am ((by rw [hg]; exact Nat.ne_of_gt (blk_lt (g := gb1090) (o := .cells #[.slice none 0 0, .slice none 0 0] 73 (0, 0)) (by (with_reducible repeat (first | refine kN ?_ _ | refine kD ?_ | refine kA ?_ _)); exact BK1090.out)) : gb1091 ≠ gb1090)); clear BK1089; clear BK1090; clear HB; have BK1089 := n0_; have BK1090 := n1_; have HB := n2_; have BK1091 := n3_; have GW1091 := n4_; have GE1091 := n5_; have NB1089_1091 := n6_; have NB1091_1089 := n7_; have NB1090_1091 := n8_; have NB1091_1090 := n9_; clear n0_ n1_ n2_ n3_ n4_ n5_ n6_ n7_ n8_ n9_; clear hb hbox hg; have hnb7 := NB1089_1090.out; have hnc7 := NB1090_1089.out; have hnb8 := NB1089_1091.out; have hnc8 := NB1091_1089.out; have hcz9_0 : w6.cell? ⟨gb1089, 0, none⟩ = some (.slice A0_0 l0_0.length c0_0) := (blk_cell BK1089.out 0).trans rfl; have hcz9_1 : w6.cell? ⟨gb1089, 1, none⟩ = some (.slice A0_1 l0_1.length c0_1) := (blk_cell BK1089.out 1).trans rfl; have hfz9_0 := blk_frozen BK1089.out 0; have hfz9_1 := blk_frozen BK1089.out 1) | ((with_reducible refine gate_callee (f := 56) rfl ?_); refine goesL_ (some 6) rfl rfl Try.func56 (by kernel_rfl) rfl #[.slice A0_0 l0_0.length c0_0] rfl (by (try simp only [List.map_toArray, List.map_cons, List.map_nil]); first | done | rfl | (simp only [List.length_drop, List.length_take]; rfl)) ?_; (with_reducible refine (laws_toStringS.calls k _ _ l0_0 t1092 _ ?side1 ?side2 A2.out).mono ?_); (case side1 => repeat (first | exact (Kd.C_below HR0_0.out HB.out) | (with_reducible refine cA ?_ _) | (with_reducible refine cN ?_ _) | (with_reducible refine cD ?_))); (case side2 => exact HC0_0.out); rintro e w10 ⟨v1093, rfl, ho0, hb⟩; refine ⟨_, rfl, ?_⟩; have n0_ := am (Kd.R_lower ho0 (below_size (by repeat (first | (with_reducible first | exact HB.out | apply bA | apply bN | apply bD | refine below_set ?_ GE1089.out | refine below_set ?_ GE1090.out | refine below_set ?_ GE1091.out) | exact HB.out)))); have n1_ := am (blk_below (g := gb1089) (o := .cells #[.slice A0_0 l0_0.length c0_0, .slice A0_1 l0_1.length c0_1] 66 (0, 0)) (by (with_reducible repeat (first | refine kN ?_ _ | refine kD ?_ | refine kA ?_ _)); exact BK1089.out) hb); have n2_ := am (blk_below (g := gb1090) (o := .cells #[.slice none 0 0, .slice none 0 0] 73 (0, 0)) (by (with_reducible repeat (first | refine kN ?_ _ | refine kD ?_ | refine kA ?_ _)); exact BK1090.out) hb); have n3_ := am (blk_below (g := gb1091) (o := .cells #[.slice none 0 0, .slice none 0 0] 73 (0, 0)) (by (with_reducible repeat (first | refine kN ?_ _ | refine kD ?_ | refine kA ?_ _)); exact BK1091.out) hb); have n4_ := am (below_step (by repeat (first | (with_reducible first | exact HB.out | apply bA | apply bN | apply bD | refine below_set ?_ GE1089.out | refine below_set ?_ GE1090.out | refine below_set ?_ GE1091.out) | exact HB.out)) hb); clear BK1089; clear BK1090; clear BK1091; clear HB; have HO1094 := n0_; have BK1089 := n1_; have BK1090 := n2_; have BK1091 := n3_; have HB := n4_; clear n0_ n1_ n2_ n3_ n4_; obtain ⟨Ao11, co11, eo11⟩ := Kd.R_slice HO1094.out; subst eo11; have hnb12 := NB1091_1090.out; have hnc12 := NB1090_1091.out; have hcz13_0 : w10.cell? ⟨gb1091, 0, none⟩ = some (.slice none 0 0) := (blk_cell BK1091.out 0).trans rfl; have hcz13_1 : w10.cell? ⟨gb1091, 1, none⟩ = some (.slice none 0 0) := (blk_cell BK1091.out 1).trans rfl; have hfz13_0 := blk_frozen BK1091.out 0; have hfz13_1 := blk_frozen BK1091.out 1; have hcz14_0 : w10.cell? ⟨gb1089, 0, none⟩ = some (.slice A0_0 l0_0.length c0_0) := (blk_cell BK1089.out 0).trans rfl; have hcz14_1 : w10.cell? ⟨gb1089, 1, none⟩ = some (.slice A0_1 l0_1.length c0_1) := (blk_cell BK1089.out 1).trans rfl; have hfz14_0 := blk_frozen BK1089.out 0; have hfz14_1 := blk_frozen BK1089.out 1) | ((with_reducible refine gate_callee (f := 101) rfl ?_); refine goesL_ (some 10) rfl rfl Try.func101 (by kernel_rfl) rfl #[.slice A0_1 l0_1.length c0_1] rfl (by (try simp only [List.map_toArray, List.map_cons, List.map_nil]); first | done | rfl | (simp only [List.length_drop, List.length_take]; rfl)) ?_; (with_reducible refine (laws_toOpS.calls k _ _ l0_1 t1095 _ ?side1 ?side2 A3.out).mono ?_); (case side1 => exact Kd.C_below HR0_1.out (by repeat (first | (with_reducible first | exact HB.out | apply bA | apply bN | apply bD | refine below_set ?_ GE1089.out | refine below_set ?_ GE1090.out | refine below_set ?_ GE1091.out) | exact HB.out))); (case side2 => exact HC0_1.out); rintro e w15 ⟨v1096, rfl, ho0, hb⟩; refine ⟨_, rfl, ?_⟩; have n0_ := am (Kd.R_below (by (with_reducible repeat (first | apply rA | apply rN | apply rD)); exact (Kd.R_mono (Kd.R_far (p := ⟨gb1091, 0, none⟩) (Kd.R_types HO1094.out BK1091.out (by decide)) (fun _ hk => hk.2) (.slice Ao11 t1092.length co11)) (fun _ h_ => h_.1))) hb); have n1_ := am (Kd.S_lower (Kd.S_new' ho0 (Kd.R_lt (by (with_reducible repeat (first | apply rA | apply rN | apply rD)); exact (Kd.R_mono (Kd.R_far (p := ⟨gb1091, 0, none⟩) (Kd.R_types HO1094.out BK1091.out (by decide)) (fun _ hk => hk.2) (.slice Ao11 t1092.length co11)) (fun _ h_ => h_.1))))) (below_size (by repeat (first | (with_reducible first | exact HB.out | apply bA | apply bN | apply bD | refine below_set ?_ GE1089.out | refine below_set ?_ GE1090.out | refine below_set ?_ GE1091.out) | exact HB.out)))); have n2_ := am (blk_below (g := gb1089) (o := .cells #[.slice A0_0 l0_0.length c0_0, .slice A0_1 l0_1.length c0_1] 66 (0, 0)) (by (with_reducible repeat (first | refine kN ?_ _ | refine kD ?_ | refine kA ?_ _)); refine blk_far ?_ NB1089_1091.out _; (with_reducible repeat (first | refine kN ?_ _ | refine kD ?_ | refine kA ?_ _)); exact BK1089.out) hb); have n3_ := am (blk_below (g := gb1090) (o := .cells #[.slice none 0 0, .slice none 0 0] 73 (0, 0)) (by (with_reducible repeat (first | refine kN ?_ _ | refine kD ?_ | refine kA ?_ _)); refine blk_far ?_ NB1090_1091.out _; (with_reducible repeat (first | refine kN ?_ _ | refine kD ?_ | refine kA ?_ _)); exact BK1090.out) hb); have n4_ := am (blk_below (g := gb1091) (o := .cells #[.slice Ao11 t1092.length co11, .slice none 0 0] 73 (0, 0)) (by (with_reducible repeat (first | refine kN ?_ _ | refine kD ?_ | refine kA ?_ _)); refine blk_put (cs := #[.slice none 0 0, .slice none 0 0]) ?_ 0 _ rfl; (with_reducible repeat (first | refine kN ?_ _ | refine kD ?_ | refine kA ?_ _)); exact BK1091.out) hb); have n5_ := am (below_step (by repeat (first | (with_reducible first | exact HB.out | apply bA | apply bN | apply bD | refine below_set ?_ GE1089.out | refine below_set ?_ GE1090.out | refine below_set ?_ GE1091.out) | exact HB.out)) hb); clear HO1094; clear BK1089; clear BK1090; clear BK1091; clear HB; have HO1094 := n0_; have HO1097 := n1_; have BK1089 := n2_; have BK1090 := n3_; have BK1091 := n4_; have HB := n5_; clear n0_ n1_ n2_ n3_ n4_ n5_; obtain ⟨Ao16, co16, eo16⟩ := Kd.S_slice HO1097.out; subst eo16; have hcz17_0 : w15.cell? ⟨gb1091, 0, none⟩ = some (.slice Ao11 t1092.length co11) := (blk_cell BK1091.out 0).trans rfl; have hcz17_1 : w15.cell? ⟨gb1091, 1, none⟩ = some (.slice none 0 0) := (blk_cell BK1091.out 1).trans rfl; have hfz17_0 := blk_frozen BK1091.out 0; have hfz17_1 := blk_frozen BK1091.out 1; have hcz18_0 : w15.cell? ⟨gb1090, 0, none⟩ = some (.slice none 0 0) := (blk_cell BK1090.out 0).trans rfl; have hcz18_1 : w15.cell? ⟨gb1090, 1, none⟩ = some (.slice none 0 0) := (blk_cell BK1090.out 1).trans rfl; have hfz18_0 := blk_frozen BK1090.out 0; have hfz18_1 := blk_frozen BK1090.out 1))
  refine bodyPost_ret (results_cell_row rfl _ _ gb1090 73 #[.slice Ao11 t1092.length co11, .slice Ao16 t1095.length co16] (0, 0) _ rfl (by (with_reducible repeat (first | refine kN ?_ _ | refine kD ?_ | refine kA ?_ _)); refine blk_put (cs := #[.slice Ao11 t1092.length co11, .slice none 0 0]) ?_ 1 _ rfl; (with_reducible repeat (first | refine kN ?_ _ | refine kD ?_ | refine kA ?_ _)); refine blk_put (cs := #[.slice none 0 0, .slice none 0 0]) ?_ 0 _ rfl; (with_reducible repeat (first | refine kN ?_ _ | refine kD ?_ | refine kA ?_ _)); refine blk_far ?_ NB1090_1091.out _; (with_reducible repeat (first | refine kN ?_ _ | refine kD ?_ | refine kA ?_ _)); exact BK1090.out) Try.underlying73 rfl (by kernel_rfl)) rfl ?_
  exact ⟨_, _, by first | rfl | (simp [errW_none, errW_some] <;> rfl) | (simp [*, errW_none, errW_some] <;> rfl), by (with_reducible repeat (first | apply rA | apply rN | apply rD)); exact Kd.R_mono (Kd.R_far (p := ⟨gb1090, 1, none⟩) (Kd.R_far (p := ⟨gb1090, 0, none⟩) (Kd.R_far (p := ⟨gb1091, 1, none⟩) (Kd.R_types (Kd.R_types HO1094.out BK1091.out (by decide)) BK1090.out (by decide)) (fun _ hk => hk.1.2) (.slice Ao16 t1095.length co16)) (fun _ hk => hk.2) (.slice Ao11 t1092.length co11)) (fun _ hk => hk.2) (.slice Ao16 t1095.length co16)) (fun _ hk => trivial), by (with_reducible repeat (first | apply Kd.S_alloc | apply Kd.S_drewN | apply Kd.S_drew)); exact Kd.S_mono (Kd.S_far (p := ⟨gb1090, 1, none⟩) (Kd.S_far (p := ⟨gb1090, 0, none⟩) (Kd.S_far (p := ⟨gb1091, 1, none⟩) (Kd.S_types (Kd.S_types HO1097.out BK1091.out (by decide)) BK1090.out (by decide)) (fun _ hk => hk.1.2) (.slice Ao16 t1095.length co16)) (fun _ hk => hk.2) (.slice Ao11 t1092.length co11)) (fun _ hk => hk.2) (.slice Ao16 t1095.length co16)) (fun _ hk => hk.1.1.2), by repeat (first | (with_reducible first | exact HB.out | apply bA | apply bN | apply bD | refine below_set ?_ GE1089.out | refine below_set ?_ GE1090.out | refine below_set ?_ GE1091.out) | exact HB.out)⟩

end Go.Proofs.Ytdgjddkibiffnaa.F
