/- The printed functions of the law FnExactLateness, part 6 (set anew by a program of this session). -/
import Derived.Test.YtomkglmlhoaniaaCFnExactLatenessx0
namespace Go.Proofs.Ytomkglmlhoaniaa.PFnExactLateness
open Go.RowKit Go.Proofs.YtomkglmlhoaniaaW.PrintWords Go.Proofs.YtomkglmlhoaniaaW.PrintLast Go.Proofs.YtomkglmlhoaniaaW.PrintMore
attribute [local go_sem] max2_int min2_int max_two min_two max_three min_three max_four min_four   -- for this text's walks alone
set_option linter.unusedVariables false
set_option linter.unusedSimpArgs false
/-! ### spec_l11Play: function 50 -/
mutual
def spec_l11Play.l0 : Nat → List Int → List Int → List Bool → Int → List Int → List (S53) → Int → Option (List Int × List Bool)
 | 0, _, _, _, _, _, _, _ => none
 | k + 1, x1, x6, x7, x8, x168000, x168001, x168002 => if x8 < (x168001.length : Int) then (if 0 ≤ x8 then (if x7.length < 140737488355328 then (spec_l11Play.l0 k x1 x6 (x7 ++ [(((rd_T53 x168001 x8).f3) == 0)]) (wrap64 (x8 + 1)) x168000 x168001 x168002) else (none)) else (none)) else (spec_l11Play.l1 k x1 x6 x7 0 x168000 x168001 x168002)
def spec_l11Play.l1 : Nat → List Int → List Int → List Bool → Int → List Int → List (S53) → Int → Option (List Int × List Bool)
 | 0, _, _, _, _, _, _, _ => none
 | k + 1, x1, x6, x7, x9, x168000, x168001, x168002 => if x9 < (x168000.length : Int) then (if 0 ≤ x9 then (spec_l11Play.l2 k x1 x6 x7 x9 (rd x168000 x9) 0 x168000 x168001 x168002) else (none)) else (some (x6, x7))
def spec_l11Play.l2 : Nat → List Int → List Int → List Bool → Int → Int → Int → List Int → List (S53) → Int → Option (List Int × List Bool)
 | 0, _, _, _, _, _, _, _, _, _ => none
 | k + 1, x1, x6, x7, x9, x10, x11, x168000, x168001, x168002 => if x11 < (x168001.length : Int) then (if 0 ≤ x11 then (if ((rd_T53 x168001 x11).f1) = x9 then (if ((rd_T53 x168001 x11).f3) = 0 then (if 0 ≤ ((rd_T53 x168001 x11).f0) then (if ((rd_T53 x168001 x11).f0) < (x6.length : Int) then (if (wrap64 ((rd x6 ((rd_T53 x168001 x11).f0)) + ((rd_T53 x168001 x11).f2))) > x10 then (spec_l11Play.l2 k x1 x6 x7 x9 (wrap64 ((rd x6 ((rd_T53 x168001 x11).f0)) + ((rd_T53 x168001 x11).f2))) (wrap64 (x11 + 1)) x168000 x168001 x168002) else (spec_l11Play.l2 k x1 x6 x7 x9 x10 (wrap64 (x11 + 1)) x168000 x168001 x168002)) else (none)) else (none)) else (spec_l11Play.l2 k x1 x6 x7 x9 x10 (wrap64 (x11 + 1)) x168000 x168001 x168002)) else (spec_l11Play.l2 k x1 x6 x7 x9 x10 (wrap64 (x11 + 1)) x168000 x168001 x168002)) else (none)) else (spec_l11Play.l3 k x1 x6 x7 x9 x10 x10 0 x168000 x168001 x168002)
def spec_l11Play.l3 : Nat → List Int → List Int → List Bool → Int → Int → Int → Int → List Int → List (S53) → Int → Option (List Int × List Bool)
 | 0, _, _, _, _, _, _, _, _, _, _ => none
 | k + 1, x1, x6, x7, x9, x10, x13, x14, x168000, x168001, x168002 => if x14 < (x168001.length : Int) then (if 0 ≤ x14 then (if ((rd_T53 x168001 x14).f1) = x9 then (if ((rd_T53 x168001 x14).f3) = 1 then (if 0 ≤ ((rd_T53 x168001 x14).f0) then (if ((rd_T53 x168001 x14).f0) < (x6.length : Int) then (spec_l11Play.j4 k x1 x6 x7 x9 x10 x13 x14 (decide ((wrap64 ((rd x6 ((rd_T53 x168001 x14).f0)) + ((rd_T53 x168001 x14).f2))) ≤ (wrap64 (x10 + x168002)))) x168000 x168001 x168002 ((rd_T53 x168001 x14).f0) ((rd_T53 x168001 x14).f1) ((rd_T53 x168001 x14).f2) ((rd_T53 x168001 x14).f3)) else (none)) else (none)) else (spec_l11Play.j4 k x1 x6 x7 x9 x10 x13 x14 false x168000 x168001 x168002 ((rd_T53 x168001 x14).f0) ((rd_T53 x168001 x14).f1) ((rd_T53 x168001 x14).f2) ((rd_T53 x168001 x14).f3))) else (spec_l11Play.j4 k x1 x6 x7 x9 x10 x13 x14 false x168000 x168001 x168002 ((rd_T53 x168001 x14).f0) ((rd_T53 x168001 x14).f1) ((rd_T53 x168001 x14).f2) ((rd_T53 x168001 x14).f3))) else (none)) else (if 0 ≤ x9 then (if x9 < (x1.length : Int) then (if x6.length < 17592186044416 then (spec_l11Play.l1 k x1 (x6 ++ [wrap64 (x13 + (rd x1 x9))]) x7 (wrap64 (x9 + 1)) x168000 x168001 x168002) else (none)) else (none)) else (none))
def spec_l11Play.j4 : Nat → List Int → List Int → List Bool → Int → Int → Int → Int → Bool → List Int → List (S53) → Int → Int → Int → Int → Int → Option (List Int × List Bool)
 | 0, _, _, _, _, _, _, _, _, _, _, _, _, _, _, _ => none
 | k + 1, x1, x6, x7, x9, x10, x13, x14, x124, x168000, x168001, x168002, x189000, x189001, x189002, x189003 => if x124 = true then (if 0 ≤ x14 then (if x14 < (x7.length : Int) then ((some (x7.set (x14 : Int).toNat true : List Bool)).bind fun y190 => (if 0 ≤ x189000 then (if x189000 < (x6.length : Int) then (if (wrap64 ((rd x6 x189000) + x189002)) > x13 then (spec_l11Play.l3 k x1 x6 y190 x9 x10 (wrap64 ((rd x6 x189000) + x189002)) (wrap64 (x14 + 1)) x168000 x168001 x168002) else (spec_l11Play.l3 k x1 x6 y190 x9 x10 x13 (wrap64 (x14 + 1)) x168000 x168001 x168002)) else (none)) else (none))) else (none)) else (none)) else (spec_l11Play.l3 k x1 x6 x7 x9 x10 x13 (wrap64 (x14 + 1)) x168000 x168001 x168002)
end
def spec_l11Play.f (k : Nat) (l0_0 : List Int) (l0_1 : List (S53)) (a0_2 : Int) (l1 : List Int) : Option (List Int × List Bool) := spec_l11Play.l0 k l1 (([] : List Int)) (([] : List Bool)) 0 l0_0 l0_1 a0_2
theorem spec_l11Play.mono_l : ∀ k, (∀ y0 y1 y2 y3 y4 y5 y6, LeO (spec_l11Play.l0 k y0 y1 y2 y3 y4 y5 y6) (spec_l11Play.l0 (k + 1) y0 y1 y2 y3 y4 y5 y6)) ∧ (∀ y0 y1 y2 y3 y4 y5 y6, LeO (spec_l11Play.l1 k y0 y1 y2 y3 y4 y5 y6) (spec_l11Play.l1 (k + 1) y0 y1 y2 y3 y4 y5 y6)) ∧ (∀ y0 y1 y2 y3 y4 y5 y6 y7 y8, LeO (spec_l11Play.l2 k y0 y1 y2 y3 y4 y5 y6 y7 y8) (spec_l11Play.l2 (k + 1) y0 y1 y2 y3 y4 y5 y6 y7 y8)) ∧ (∀ y0 y1 y2 y3 y4 y5 y6 y7 y8 y9, LeO (spec_l11Play.l3 k y0 y1 y2 y3 y4 y5 y6 y7 y8 y9) (spec_l11Play.l3 (k + 1) y0 y1 y2 y3 y4 y5 y6 y7 y8 y9)) ∧ (∀ y0 y1 y2 y3 y4 y5 y6 y7 y8 y9 y10 y11 y12 y13 y14, LeO (spec_l11Play.j4 k y0 y1 y2 y3 y4 y5 y6 y7 y8 y9 y10 y11 y12 y13 y14) (spec_l11Play.j4 (k + 1) y0 y1 y2 y3 y4 y5 y6 y7 y8 y9 y10 y11 y12 y13 y14))
 | 0 => ⟨fun _ _ _ _ _ _ _ r h => by simp [spec_l11Play.l0] at h, fun _ _ _ _ _ _ _ r h => by simp [spec_l11Play.l1] at h, fun _ _ _ _ _ _ _ _ _ r h => by simp [spec_l11Play.l2] at h, fun _ _ _ _ _ _ _ _ _ _ r h => by simp [spec_l11Play.l3] at h, fun _ _ _ _ _ _ _ _ _ _ _ _ _ _ _ r h => by simp [spec_l11Play.j4] at h⟩
 | k + 1 => by
  obtain ⟨ih0, ih1, ih2, ih3, ih4⟩ := spec_l11Play.mono_l k
  refine ⟨?_, ?_, ?_, ?_, ?_⟩
  ·
   intro y0 y1 y2 y3 y4 y5 y6
   unfold spec_l11Play.l0
   repeat' first
   | (with_reducible exact ih0 _ _ _ _ _ _ _)
   | (with_reducible exact ih1 _ _ _ _ _ _ _)
   | (with_reducible exact ih2 _ _ _ _ _ _ _ _ _)
   | (with_reducible exact ih3 _ _ _ _ _ _ _ _ _ _)
   | (with_reducible exact ih4 _ _ _ _ _ _ _ _ _ _ _ _ _ _ _)
   | (with_reducible exact LeO.refl _)
   | (with_reducible exact LeO.none _)
   | (with_reducible refine LeO.ite ?_ ?_)
   | (with_reducible refine LeO.bind ?_ (fun _ => ?_))
   | exact ih0 _ _ _ _ _ _ _
   | exact ih1 _ _ _ _ _ _ _
   | exact ih2 _ _ _ _ _ _ _ _ _
   | exact ih3 _ _ _ _ _ _ _ _ _ _
   | exact ih4 _ _ _ _ _ _ _ _ _ _ _ _ _ _ _
   | exact LeO.none _
   | refine LeO.ite ?_ ?_
   | refine LeO.bind ?_ (fun _ => ?_)
  ·
   intro y0 y1 y2 y3 y4 y5 y6
   unfold spec_l11Play.l1
   repeat' first
   | (with_reducible exact ih0 _ _ _ _ _ _ _)
   | (with_reducible exact ih1 _ _ _ _ _ _ _)
   | (with_reducible exact ih2 _ _ _ _ _ _ _ _ _)
   | (with_reducible exact ih3 _ _ _ _ _ _ _ _ _ _)
   | (with_reducible exact ih4 _ _ _ _ _ _ _ _ _ _ _ _ _ _ _)
   | (with_reducible exact LeO.refl _)
   | (with_reducible exact LeO.none _)
   | (with_reducible refine LeO.ite ?_ ?_)
   | (with_reducible refine LeO.bind ?_ (fun _ => ?_))
   | exact ih0 _ _ _ _ _ _ _
   | exact ih1 _ _ _ _ _ _ _
   | exact ih2 _ _ _ _ _ _ _ _ _
   | exact ih3 _ _ _ _ _ _ _ _ _ _
   | exact ih4 _ _ _ _ _ _ _ _ _ _ _ _ _ _ _
   | exact LeO.none _
   | refine LeO.ite ?_ ?_
   | refine LeO.bind ?_ (fun _ => ?_)
  ·
   intro y0 y1 y2 y3 y4 y5 y6 y7 y8
   unfold spec_l11Play.l2
   repeat' first
   | (with_reducible exact ih0 _ _ _ _ _ _ _)
   | (with_reducible exact ih1 _ _ _ _ _ _ _)
   | (with_reducible exact ih2 _ _ _ _ _ _ _ _ _)
   | (with_reducible exact ih3 _ _ _ _ _ _ _ _ _ _)
   | (with_reducible exact ih4 _ _ _ _ _ _ _ _ _ _ _ _ _ _ _)
   | (with_reducible exact LeO.refl _)
   | (with_reducible exact LeO.none _)
   | (with_reducible refine LeO.ite ?_ ?_)
   | (with_reducible refine LeO.bind ?_ (fun _ => ?_))
   | exact ih0 _ _ _ _ _ _ _
   | exact ih1 _ _ _ _ _ _ _
   | exact ih2 _ _ _ _ _ _ _ _ _
   | exact ih3 _ _ _ _ _ _ _ _ _ _
   | exact ih4 _ _ _ _ _ _ _ _ _ _ _ _ _ _ _
   | exact LeO.none _
   | refine LeO.ite ?_ ?_
   | refine LeO.bind ?_ (fun _ => ?_)
  ·
   intro y0 y1 y2 y3 y4 y5 y6 y7 y8 y9
   unfold spec_l11Play.l3
   repeat' first
   | (with_reducible exact ih0 _ _ _ _ _ _ _)
   | (with_reducible exact ih1 _ _ _ _ _ _ _)
   | (with_reducible exact ih2 _ _ _ _ _ _ _ _ _)
   | (with_reducible exact ih3 _ _ _ _ _ _ _ _ _ _)
   | (with_reducible exact ih4 _ _ _ _ _ _ _ _ _ _ _ _ _ _ _)
   | (with_reducible exact LeO.refl _)
   | (with_reducible exact LeO.none _)
   | (with_reducible refine LeO.ite ?_ ?_)
   | (with_reducible refine LeO.bind ?_ (fun _ => ?_))
   | exact ih0 _ _ _ _ _ _ _
   | exact ih1 _ _ _ _ _ _ _
   | exact ih2 _ _ _ _ _ _ _ _ _
   | exact ih3 _ _ _ _ _ _ _ _ _ _
   | exact ih4 _ _ _ _ _ _ _ _ _ _ _ _ _ _ _
   | exact LeO.none _
   | refine LeO.ite ?_ ?_
   | refine LeO.bind ?_ (fun _ => ?_)
  ·
   intro y0 y1 y2 y3 y4 y5 y6 y7 y8 y9 y10 y11 y12 y13 y14
   unfold spec_l11Play.j4
   repeat' first
   | (with_reducible exact ih0 _ _ _ _ _ _ _)
   | (with_reducible exact ih1 _ _ _ _ _ _ _)
   | (with_reducible exact ih2 _ _ _ _ _ _ _ _ _)
   | (with_reducible exact ih3 _ _ _ _ _ _ _ _ _ _)
   | (with_reducible exact ih4 _ _ _ _ _ _ _ _ _ _ _ _ _ _ _)
   | (with_reducible exact LeO.refl _)
   | (with_reducible exact LeO.none _)
   | (with_reducible refine LeO.ite ?_ ?_)
   | (with_reducible refine LeO.bind ?_ (fun _ => ?_))
   | exact ih0 _ _ _ _ _ _ _
   | exact ih1 _ _ _ _ _ _ _
   | exact ih2 _ _ _ _ _ _ _ _ _
   | exact ih3 _ _ _ _ _ _ _ _ _ _
   | exact ih4 _ _ _ _ _ _ _ _ _ _ _ _ _ _ _
   | exact LeO.none _
   | refine LeO.ite ?_ ?_
   | refine LeO.bind ?_ (fun _ => ?_)
theorem spec_l11Play.mono : ∀ a0 a1 a2 a3 k, LeO (spec_l11Play.f k a0 a1 a2 a3) (spec_l11Play.f (k + 1) a0 a1 a2 a3) := by
 intro a0 a1 a2 a3 k
 obtain ⟨ih0, ih1, ih2, ih3, ih4⟩ := spec_l11Play.mono_l k
 unfold spec_l11Play.f
 repeat' first
  | (with_reducible exact ih0 _ _ _ _ _ _ _)
  | (with_reducible exact ih1 _ _ _ _ _ _ _)
  | (with_reducible exact ih2 _ _ _ _ _ _ _ _ _)
  | (with_reducible exact ih3 _ _ _ _ _ _ _ _ _ _)
  | (with_reducible exact ih4 _ _ _ _ _ _ _ _ _ _ _ _ _ _ _)
  | (with_reducible exact LeO.refl _)
  | (with_reducible exact LeO.none _)
  | (with_reducible refine LeO.ite ?_ ?_)
  | (with_reducible refine LeO.bind ?_ (fun _ => ?_))
  | exact ih0 _ _ _ _ _ _ _
  | exact ih1 _ _ _ _ _ _ _
  | exact ih2 _ _ _ _ _ _ _ _ _
  | exact ih3 _ _ _ _ _ _ _ _ _ _
  | exact ih4 _ _ _ _ _ _ _ _ _ _ _ _ _ _ _
  | exact LeO.none _
  | refine LeO.ite ?_ ?_
  | refine LeO.bind ?_ (fun _ => ?_)
set_option maxHeartbeats 8000000 in
set_option maxRecDepth 100000 in
theorem spec_l11Play.calls (k : Nat) (A0_0 : Option Addr) (c0_0 : Nat) (l0_0 : List Int) (A0_1 : Option Addr) (c0_1 : Nat) (l0_1 : List (S53)) (a0_2 : Int) (A1 : Option Addr) (c1 : Nat) (l1 : List Int) (r1 : List Int) (r2 : List Bool) (w : World) (hr0_0 : Kd.C (Kd.int .i64) w A0_0 l0_0.length l0_0) (hc0_0 : l0_0.length ≤ c0_0) (hr0_1 : Kd.C k53 w A0_1 l0_1.length l0_1) (hc0_1 : l0_1.length ≤ c0_1) (hr1 : Kd.C (Kd.int .i64) w A1 l1.length l1) (hc1 : l1.length ≤ c1) (h : spec_l11Play.f k l0_0 l0_1 a0_2 l1 = some (r1, r2)) :
 Calls Try.prog 50 #[.agg #[.slice A0_0 l0_0.length c0_0, .slice A0_1 l0_1.length c0_1, .int .i64 a0_2], .slice A1 l1.length c1] w fun e w' => ∃ v0_ v1_ : Value, e = .returned (.tuple #[v0_, v1_]) ∧ Kd.R (Kd.int .i64) 3 w' w.heap.size (fun _ => True) v0_ r1 ∧ Kd.R Kd.bool 4 w' w.heap.size (fun _ => True) v1_ r2 ∧ Below w.heap.size w w' := by
 have hu30 := Try.underlying30
 have hu53 := Try.underlying53
 have HR0_0 := Aside0.mk hr0_0
 have HC0_0 := Aside0.mk hc0_0
 clear hr0_0 hc0_0
 have HR0_1 := Aside0.mk hr0_1
 have HC0_1 := Aside0.mk hc0_1
 clear hr0_1 hc0_1
 have HR1 := Aside0.mk hr1
 have HC1 := Aside0.mk hc1
 clear hr1 hc1
 have HB := Aside0.mk (Below.refl w.heap.size w)
 have H : (spec_l11Play.l0 k l1 (([] : List Int)) (([] : List Bool)) 0 l0_0 l0_1 a0_2) = some (r1, r2) := h
 clear h
 obtain ⟨y168, hy168⟩ : ∃ y_ : List Int, y_ = (([] : List Int)) := ⟨_, rfl⟩
 replace H : (spec_l11Play.l0 k l1 y168 (([] : List Bool)) 0 l0_0 l0_1 a0_2) = some (r1, r2) := by first | (rw [hy168]; with_reducible exact H) | (have H2_ := (Option.bind_some _ _).symm.trans H; rw [hy168]; with_reducible exact H2_) | (have H2_ := (Option.bind_some _ _).symm.trans H; with_reducible exact H2_) | with_reducible exact H | (rw [hy168]; exact H) | exact H
 have Ny168 := Aside0.mk hy168
 clear hy168
 obtain ⟨y171, hy171⟩ : ∃ y_ : List Bool, y_ = (([] : List Bool)) := ⟨_, rfl⟩
 replace H : (spec_l11Play.l0 k l1 y168 y171 0 l0_0 l0_1 a0_2) = some (r1, r2) := by first | (rw [hy171]; with_reducible exact H) | (have H2_ := (Option.bind_some _ _).symm.trans H; rw [hy171]; with_reducible exact H2_) | (have H2_ := (Option.bind_some _ _).symm.trans H; with_reducible exact H2_) | with_reducible exact H | (rw [hy171]; exact H) | exact H
 have Ny171 := Aside0.mk hy171
 clear hy171
 have H' := Aside0.mk H
 clear H
 go_enter Try.func50, Try.ntmps50
 go_wp2_with (first | ((with_reducible refine gate_dst (N := 2) rfl ?_); refine box_event ?hg (N := 2) ?hd (cs := #[.slice A0_0 l0_0.length c0_0, .slice A0_1 l0_1.length c0_1, .int .i64 a0_2]) (t := 30) ?hr ?_; (case hd => rfl); (case hg => rfl); (case hr => first | (go_simp; done) | (go_simp; rfl)); intro gb167 hg w3 hbox hb; have n0_ := Aside0.mk (below_step (by repeat (first | (with_reducible first | exact HB.out | apply below_alloc | apply pw_below_drewN | apply below_drew1) | exact HB.out)) hb); have n1_ := Aside0.mk (hbox); have n2_ := Aside0.mk ((by rw [hg]; exact (below_size (by repeat (first | (with_reducible first | exact HB.out | apply below_alloc | apply pw_below_drewN | apply below_drew1) | exact HB.out))) : w.heap.size ≤ gb167)); have n3_ := Aside0.mk ((by rw [hg]; exact (below_size (by repeat (first | (with_reducible first | exact HB.out | apply below_alloc | apply pw_below_drewN | apply below_drew1) | exact HB.out))) : w.heap.size ≤ gb167)); clear HB; have HB := n0_; have BK167 := n1_; have GW167 := n2_; have GE167 := n3_; clear n0_ n1_ n2_ n3_; clear hb hbox hg) | ((with_reducible refine gate_dst (N := 16) rfl ?_); refine Kd.R_lit (Kd.int .i64) _ 3 ?hg (N := 16) ?hd (xs := ([] : List Int)) (inner := []) (ok := fun _ => True) (okp := fun _ => True) ?hr ?hp (fun _ hk => hk) trivial (Below.refl _ _) (Nat.le_refl _) (by simp) ?_; (case hd => rfl); (case hg => rfl); (case hr => first | (go_simp; done) | (go_simp; rfl)); (case hp => exact (Reps.none _ _)); intro v169 w4 ho5 hb hg_ hnew_; clear hg_ hnew_; (first | rw [← Ny168.out] at ho5 | (simp only [Int.reduceToNat] at ho5; rw [← Ny168.out] at ho5)); have n0_ := Aside0.mk (Kd.R_lower ho5 (below_size (by repeat (first | (with_reducible first | exact HB.out | apply below_alloc | apply pw_below_drewN | apply below_drew1 | refine below_set ?_ GE167.out) | exact HB.out)))); have n1_ := Aside0.mk (blk_below (g := gb167) (o := .cells #[.slice A0_0 l0_0.length c0_0, .slice A0_1 l0_1.length c0_1, .int .i64 a0_2] 30 (0, 0)) (by (with_reducible repeat (first | refine blk_drewN ?_ _ | refine blk_drew ?_ | refine blk_alloc ?_ _)); exact BK167.out) hb); have n2_ := Aside0.mk (below_step (by repeat (first | (with_reducible first | exact HB.out | apply below_alloc | apply pw_below_drewN | apply below_drew1 | refine below_set ?_ GE167.out) | exact HB.out)) hb); clear BK167; clear HB; have HO170 := n0_; have BK167 := n1_; have HB := n2_; clear n0_ n1_ n2_; clear hb ho5) | ((with_reducible refine gate_dst (N := 17) rfl ?_); refine Kd.R_lit Kd.bool _ 4 ?hg (N := 17) ?hd (xs := ([] : List Bool)) (inner := []) (ok := fun _ => True) (okp := fun _ => True) ?hr ?hp (fun _ hk => hk) trivial (Below.refl _ _) (Nat.le_refl _) (by simp) ?_; (case hd => rfl); (case hg => rfl); (case hr => first | (go_simp; done) | (go_simp; rfl)); (case hp => exact (Reps.none _ _)); intro v172 w6 ho7 hb hg_ hnew_; clear hg_ hnew_; (first | rw [← Ny171.out] at ho7 | (simp only [Int.reduceToNat] at ho7; rw [← Ny171.out] at ho7)); have n0_ := Aside0.mk (Kd.R_below (by (with_reducible repeat (first | apply Kd.R_alloc | apply Kd.R_drewN | apply Kd.R_drew)); exact HO170.out) hb); have n1_ := Aside0.mk (Kd.R_lower ho7 (below_size (by repeat (first | (with_reducible first | exact HB.out | apply below_alloc | apply pw_below_drewN | apply below_drew1 | refine below_set ?_ GE167.out) | exact HB.out)))); have n2_ := Aside0.mk (blk_below (g := gb167) (o := .cells #[.slice A0_0 l0_0.length c0_0, .slice A0_1 l0_1.length c0_1, .int .i64 a0_2] 30 (0, 0)) (by (with_reducible repeat (first | refine blk_drewN ?_ _ | refine blk_drew ?_ | refine blk_alloc ?_ _)); exact BK167.out) hb); have n3_ := Aside0.mk (below_step (by repeat (first | (with_reducible first | exact HB.out | apply below_alloc | apply pw_below_drewN | apply below_drew1 | refine below_set ?_ GE167.out) | exact HB.out)) hb); clear HO170; clear BK167; clear HB; have HO170 := n0_; have HO173 := n1_; have BK167 := n2_; have HB := n3_; clear n0_ n1_ n2_ n3_; clear hb ho7))
 repeat (go_quiet (first | ((with_reducible refine gate_dst (N := 2) rfl ?_); refine box_event ?hg (N := 2) ?hd (cs := #[.slice A0_0 l0_0.length c0_0, .slice A0_1 l0_1.length c0_1, .int .i64 a0_2]) (t := 30) ?hr ?_; (case hd => rfl); (case hg => rfl); (case hr => first | (go_simp; done) | (go_simp; rfl)); intro gb167 hg w3 hbox hb; have n0_ := Aside0.mk (below_step (by repeat (first | (with_reducible first | exact HB.out | apply below_alloc | apply pw_below_drewN | apply below_drew1) | exact HB.out)) hb); have n1_ := Aside0.mk (hbox); have n2_ := Aside0.mk ((by rw [hg]; exact (below_size (by repeat (first | (with_reducible first | exact HB.out | apply below_alloc | apply pw_below_drewN | apply below_drew1) | exact HB.out))) : w.heap.size ≤ gb167)); have n3_ := Aside0.mk ((by rw [hg]; exact (below_size (by repeat (first | (with_reducible first | exact HB.out | apply below_alloc | apply pw_below_drewN | apply below_drew1) | exact HB.out))) : w.heap.size ≤ gb167)); clear HB; have HB := n0_; have BK167 := n1_; have GW167 := n2_; have GE167 := n3_; clear n0_ n1_ n2_ n3_; clear hb hbox hg) | ((with_reducible refine gate_dst (N := 16) rfl ?_); refine Kd.R_lit (Kd.int .i64) _ 3 ?hg (N := 16) ?hd (xs := ([] : List Int)) (inner := []) (ok := fun _ => True) (okp := fun _ => True) ?hr ?hp (fun _ hk => hk) trivial (Below.refl _ _) (Nat.le_refl _) (by simp) ?_; (case hd => rfl); (case hg => rfl); (case hr => first | (go_simp; done) | (go_simp; rfl)); (case hp => exact (Reps.none _ _)); intro v169 w4 ho5 hb hg_ hnew_; clear hg_ hnew_; (first | rw [← Ny168.out] at ho5 | (simp only [Int.reduceToNat] at ho5; rw [← Ny168.out] at ho5)); have n0_ := Aside0.mk (Kd.R_lower ho5 (below_size (by repeat (first | (with_reducible first | exact HB.out | apply below_alloc | apply pw_below_drewN | apply below_drew1 | refine below_set ?_ GE167.out) | exact HB.out)))); have n1_ := Aside0.mk (blk_below (g := gb167) (o := .cells #[.slice A0_0 l0_0.length c0_0, .slice A0_1 l0_1.length c0_1, .int .i64 a0_2] 30 (0, 0)) (by (with_reducible repeat (first | refine blk_drewN ?_ _ | refine blk_drew ?_ | refine blk_alloc ?_ _)); exact BK167.out) hb); have n2_ := Aside0.mk (below_step (by repeat (first | (with_reducible first | exact HB.out | apply below_alloc | apply pw_below_drewN | apply below_drew1 | refine below_set ?_ GE167.out) | exact HB.out)) hb); clear BK167; clear HB; have HO170 := n0_; have BK167 := n1_; have HB := n2_; clear n0_ n1_ n2_; clear hb ho5) | ((with_reducible refine gate_dst (N := 17) rfl ?_); refine Kd.R_lit Kd.bool _ 4 ?hg (N := 17) ?hd (xs := ([] : List Bool)) (inner := []) (ok := fun _ => True) (okp := fun _ => True) ?hr ?hp (fun _ hk => hk) trivial (Below.refl _ _) (Nat.le_refl _) (by simp) ?_; (case hd => rfl); (case hg => rfl); (case hr => first | (go_simp; done) | (go_simp; rfl)); (case hp => exact (Reps.none _ _)); intro v172 w6 ho7 hb hg_ hnew_; clear hg_ hnew_; (first | rw [← Ny171.out] at ho7 | (simp only [Int.reduceToNat] at ho7; rw [← Ny171.out] at ho7)); have n0_ := Aside0.mk (Kd.R_below (by (with_reducible repeat (first | apply Kd.R_alloc | apply Kd.R_drewN | apply Kd.R_drew)); exact HO170.out) hb); have n1_ := Aside0.mk (Kd.R_lower ho7 (below_size (by repeat (first | (with_reducible first | exact HB.out | apply below_alloc | apply pw_below_drewN | apply below_drew1 | refine below_set ?_ GE167.out) | exact HB.out)))); have n2_ := Aside0.mk (blk_below (g := gb167) (o := .cells #[.slice A0_0 l0_0.length c0_0, .slice A0_1 l0_1.length c0_1, .int .i64 a0_2] 30 (0, 0)) (by (with_reducible repeat (first | refine blk_drewN ?_ _ | refine blk_drew ?_ | refine blk_alloc ?_ _)); exact BK167.out) hb); have n3_ := Aside0.mk (below_step (by repeat (first | (with_reducible first | exact HB.out | apply below_alloc | apply pw_below_drewN | apply below_drew1 | refine below_set ?_ GE167.out) | exact HB.out)) hb); clear HO170; clear BK167; clear HB; have HO170 := n0_; have HO173 := n1_; have BK167 := n2_; have HB := n3_; clear n0_ n1_ n2_ n3_; clear hb ho7)); try go_wp2_with (first | ((with_reducible refine gate_dst (N := 2) rfl ?_); refine box_event ?hg (N := 2) ?hd (cs := #[.slice A0_0 l0_0.length c0_0, .slice A0_1 l0_1.length c0_1, .int .i64 a0_2]) (t := 30) ?hr ?_; (case hd => rfl); (case hg => rfl); (case hr => first | (go_simp; done) | (go_simp; rfl)); intro gb167 hg w3 hbox hb; have n0_ := Aside0.mk (below_step (by repeat (first | (with_reducible first | exact HB.out | apply below_alloc | apply pw_below_drewN | apply below_drew1) | exact HB.out)) hb); have n1_ := Aside0.mk (hbox); have n2_ := Aside0.mk ((by rw [hg]; exact (below_size (by repeat (first | (with_reducible first | exact HB.out | apply below_alloc | apply pw_below_drewN | apply below_drew1) | exact HB.out))) : w.heap.size ≤ gb167)); have n3_ := Aside0.mk ((by rw [hg]; exact (below_size (by repeat (first | (with_reducible first | exact HB.out | apply below_alloc | apply pw_below_drewN | apply below_drew1) | exact HB.out))) : w.heap.size ≤ gb167)); clear HB; have HB := n0_; have BK167 := n1_; have GW167 := n2_; have GE167 := n3_; clear n0_ n1_ n2_ n3_; clear hb hbox hg) | ((with_reducible refine gate_dst (N := 16) rfl ?_); refine Kd.R_lit (Kd.int .i64) _ 3 ?hg (N := 16) ?hd (xs := ([] : List Int)) (inner := []) (ok := fun _ => True) (okp := fun _ => True) ?hr ?hp (fun _ hk => hk) trivial (Below.refl _ _) (Nat.le_refl _) (by simp) ?_; (case hd => rfl); (case hg => rfl); (case hr => first | (go_simp; done) | (go_simp; rfl)); (case hp => exact (Reps.none _ _)); intro v169 w4 ho5 hb hg_ hnew_; clear hg_ hnew_; (first | rw [← Ny168.out] at ho5 | (simp only [Int.reduceToNat] at ho5; rw [← Ny168.out] at ho5)); have n0_ := Aside0.mk (Kd.R_lower ho5 (below_size (by repeat (first | (with_reducible first | exact HB.out | apply below_alloc | apply pw_below_drewN | apply below_drew1 | refine below_set ?_ GE167.out) | exact HB.out)))); have n1_ := Aside0.mk (blk_below (g := gb167) (o := .cells #[.slice A0_0 l0_0.length c0_0, .slice A0_1 l0_1.length c0_1, .int .i64 a0_2] 30 (0, 0)) (by (with_reducible repeat (first | refine blk_drewN ?_ _ | refine blk_drew ?_ | refine blk_alloc ?_ _)); exact BK167.out) hb); have n2_ := Aside0.mk (below_step (by repeat (first | (with_reducible first | exact HB.out | apply below_alloc | apply pw_below_drewN | apply below_drew1 | refine below_set ?_ GE167.out) | exact HB.out)) hb); clear BK167; clear HB; have HO170 := n0_; have BK167 := n1_; have HB := n2_; clear n0_ n1_ n2_; clear hb ho5) | ((with_reducible refine gate_dst (N := 17) rfl ?_); refine Kd.R_lit Kd.bool _ 4 ?hg (N := 17) ?hd (xs := ([] : List Bool)) (inner := []) (ok := fun _ => True) (okp := fun _ => True) ?hr ?hp (fun _ hk => hk) trivial (Below.refl _ _) (Nat.le_refl _) (by simp) ?_; (case hd => rfl); (case hg => rfl); (case hr => first | (go_simp; done) | (go_simp; rfl)); (case hp => exact (Reps.none _ _)); intro v172 w6 ho7 hb hg_ hnew_; clear hg_ hnew_; (first | rw [← Ny171.out] at ho7 | (simp only [Int.reduceToNat] at ho7; rw [← Ny171.out] at ho7)); have n0_ := Aside0.mk (Kd.R_below (by (with_reducible repeat (first | apply Kd.R_alloc | apply Kd.R_drewN | apply Kd.R_drew)); exact HO170.out) hb); have n1_ := Aside0.mk (Kd.R_lower ho7 (below_size (by repeat (first | (with_reducible first | exact HB.out | apply below_alloc | apply pw_below_drewN | apply below_drew1 | refine below_set ?_ GE167.out) | exact HB.out)))); have n2_ := Aside0.mk (blk_below (g := gb167) (o := .cells #[.slice A0_0 l0_0.length c0_0, .slice A0_1 l0_1.length c0_1, .int .i64 a0_2] 30 (0, 0)) (by (with_reducible repeat (first | refine blk_drewN ?_ _ | refine blk_drew ?_ | refine blk_alloc ?_ _)); exact BK167.out) hb); have n3_ := Aside0.mk (below_step (by repeat (first | (with_reducible first | exact HB.out | apply below_alloc | apply pw_below_drewN | apply below_drew1 | refine below_set ?_ GE167.out) | exact HB.out)) hb); clear HO170; clear BK167; clear HB; have HO170 := n0_; have HO173 := n1_; have BK167 := n2_; have HB := n3_; clear n0_ n1_ n2_ n3_; clear hb ho7)))
 go_loopg [7, 8] k (fun kq v7 v8 w' => ∃ (x7_1 : List Bool) (x8_1 : Int), v8 = .int .i64 x8_1 ∧ Aside0 (spec_l11Play.l0 kq l1 y168 x7_1 x8_1 l0_0 l0_1 a0_2 = some (r1, r2)) ∧ Aside0 (kq ≤ k) ∧ Aside0 (Kd.R (Kd.int .i64) 3 w' w.heap.size (fun _ => True) v169 y168) ∧ Aside0 (Kd.R Kd.bool 4 w' w.heap.size (fun _ => True) v7 x7_1) ∧ Aside0 (w'.heap[gb167]? = some (.cells #[(.slice A0_0 l0_0.length c0_0), (.slice A0_1 l0_1.length c0_1), .int .i64 a0_2] 30 (0, 0))) ∧ Aside0 (Below w.heap.size w w'))
 case atStart => exact ⟨(y171), (0), (by first | rfl | (simp; done) | (simp [*]; done)), H', ⟨Nat.le_refl _⟩, ⟨by (with_reducible repeat (first | apply Kd.R_alloc | apply Kd.R_drewN | apply Kd.R_drew)); exact HO170.out⟩, ⟨by (with_reducible repeat (first | apply Kd.R_alloc | apply Kd.R_drewN | apply Kd.R_drew)); exact HO173.out⟩, ⟨by (with_reducible repeat (first | refine blk_drewN ?_ _ | refine blk_drew ?_ | refine blk_alloc ?_ _)); exact BK167.out⟩, ⟨by repeat (first | (with_reducible first | exact HB.out | apply below_alloc | apply pw_below_drewN | apply below_drew1 | refine below_set ?_ GE167.out) | exact HB.out)⟩⟩
 case round =>
  clear H'
  try clear c1
  try clear p2
  try clear c5
  obtain ⟨x7_1, x8_1, rfl, HA, HK1, HO_6, HO_7, BK167, HB⟩ := hrel
  cases gk with
  | zero => exact absurd HA.out (by simp [spec_l11Play.l0])
  | succ k1 =>
   have H := HA.out
   clear HA
   simp only [spec_l11Play.l0] at H
   by_cases c8 : x8_1 < (l0_1.length : Int)
   ·
    rw [if_pos c8] at H
    have c8b0 : decide (x8_1 < (l0_1.length : Int)) = true := decide_eq_true c8
    clear c8
    by_cases c9 : 0 ≤ x8_1
    ·
     rw [if_pos c9] at H
     have c9b0 : decide (0 ≤ x8_1) = true := decide_eq_true c9
     clear c9
     by_cases c10 : x7_1.length < 140737488355328
     ·
      rw [if_pos c10] at H
      have LMc10 := Aside0.mk c10
      clear c10
      obtain ⟨y175, hy175⟩ : ∃ y_ : List Bool, y_ = (x7_1 ++ [(((rd_T53 l0_1 x8_1).f3) == 0)]) := ⟨_, rfl⟩
      replace H : (spec_l11Play.l0 k1 l1 y168 y175 (wrap64 (x8_1 + 1)) l0_0 l0_1 a0_2) = some (r1, r2) := by first | (rw [hy175]; with_reducible exact H) | (have H2_ := (Option.bind_some _ _).symm.trans H; rw [hy175]; with_reducible exact H2_) | (have H2_ := (Option.bind_some _ _).symm.trans H; with_reducible exact H2_) | with_reducible exact H | (rw [hy175]; exact H) | exact H
      have Ny175 := Aside0.mk hy175
      clear hy175
      have H' := Aside0.mk H
      clear H
      have hcz11_0 : wr.cell? ⟨gb167, 0, none⟩ = some (.slice A0_0 l0_0.length c0_0) := (blk_cell BK167.out 0).trans rfl
      have hcz11_1 : wr.cell? ⟨gb167, 1, none⟩ = some (.slice A0_1 l0_1.length c0_1) := (blk_cell BK167.out 1).trans rfl
      have hcz11_2 : wr.cell? ⟨gb167, 2, none⟩ = some (.int .i64 a0_2) := (blk_cell BK167.out 2).trans rfl
      have hfz11_0 := blk_frozen BK167.out 0
      have hfz11_1 := blk_frozen BK167.out 1
      have hfz11_2 := blk_frozen BK167.out 2
      have p174 : 0 ≤ (x8_1 : Int) := of_decide_eq_true (by first | (with_reducible assumption) | assumption)
      have q174 : x8_1 < (l0_1.length : Int) := of_decide_eq_true (by first | (with_reducible assumption) | assumption)
      obtain ⟨ad174, e174, hx174_0, hx174_1, hx174_2, hx174_3⟩ := at_T53 HR0_1.out x8_1 p174 q174
      cases e174
      replace hx174_0 := (HB.out.cell (World.block_lt_of_cell? w _ hx174_0)).trans hx174_0
      replace hx174_1 := (HB.out.cell (World.block_lt_of_cell? w _ hx174_1)).trans hx174_1
      replace hx174_2 := (HB.out.cell (World.block_lt_of_cell? w _ hx174_2)).trans hx174_2
      replace hx174_3 := (HB.out.cell (World.block_lt_of_cell? w _ hx174_3)).trans hx174_3
      replace p174 := eq_true p174
      replace q174 := eq_true q174
      go_wp2_with (first | ((with_reducible refine gate_builtin (b := .append) (xs := #[.tmp 25, .tmp 33]) rfl ?_); at_builtin; refine Kd.R_append Kd.bool (w0 := w) w.heap.size rfl (.tmp 25) (.tmp 33) 42 4 (.bool false) 1 rfl Try.underlying42 info4 rfl (by decide) (by omega) u7 x7_1 (((rd_T53 l0_1 x8_1).f3) == 0) [.bool (((rd_T53 l0_1 x8_1).f3) == 0)] (fun _ => True) (fun _ => False) rfl rfl ?aP (fun _ hk => hk.elim) ?aF ?aO ?aB ?aS ?aL ?_; (case aP => exact rfl); (case aB => exact (by repeat (first | (with_reducible first | exact HB.out | apply below_alloc | apply pw_below_drewN | apply below_drew1 | refine below_set ?_ GE167.out) | exact HB.out))); (case aF => exact (fun _ _ => trivial)); (case aO => exact (by (with_reducible repeat (first | apply Kd.R_alloc | apply Kd.R_drewN | apply Kd.R_drew)); exact HO_7.out)); (case aS => exact (below_size (by repeat (first | (with_reducible first | exact HB.out | apply below_alloc | apply pw_below_drewN | apply below_drew1 | refine below_set ?_ GE167.out) | exact HB.out)))); (case aL => have := LMc10.out; omega); intro v176 w12 ho hb hg hat; rw [← Ny175.out] at ho; have n0_ := Aside0.mk (Kd.R_over' (by (with_reducible repeat (first | apply Kd.R_alloc | apply Kd.R_drewN | apply Kd.R_drew)); exact HO_6.out) (Kd.R_typed (by (with_reducible repeat (first | apply Kd.R_alloc | apply Kd.R_drewN | apply Kd.R_drew)); exact HO_7.out)) (by decide) hg); have n1_ := Aside0.mk (blk_grown (g := gb167) (o := .cells #[.slice A0_0 l0_0.length c0_0, .slice (some ad174) l0_1.length c0_1, .int .i64 a0_2] 30 (0, 0)) (by (with_reducible repeat (first | refine blk_drewN ?_ _ | refine blk_drew ?_ | refine blk_alloc ?_ _)); exact BK167.out) hg (Kd.R_ne HO_7.out BK167.out (by decide))); have n2_ := Aside0.mk (hb); have n3_ := Aside0.mk (ho); clear HO_6; clear BK167; clear HB; clear HO_7; have HO_6 := n0_; have BK167 := n1_; have HB := n2_; have HO177 := n3_; clear n0_ n1_ n2_ n3_; clear ho hb hg hat))
      repeat (go_quiet (first | ((with_reducible refine gate_builtin (b := .append) (xs := #[.tmp 25, .tmp 33]) rfl ?_); at_builtin; refine Kd.R_append Kd.bool (w0 := w) w.heap.size rfl (.tmp 25) (.tmp 33) 42 4 (.bool false) 1 rfl Try.underlying42 info4 rfl (by decide) (by omega) u7 x7_1 (((rd_T53 l0_1 x8_1).f3) == 0) [.bool (((rd_T53 l0_1 x8_1).f3) == 0)] (fun _ => True) (fun _ => False) rfl rfl ?aP (fun _ hk => hk.elim) ?aF ?aO ?aB ?aS ?aL ?_; (case aP => exact rfl); (case aB => exact (by repeat (first | (with_reducible first | exact HB.out | apply below_alloc | apply pw_below_drewN | apply below_drew1 | refine below_set ?_ GE167.out) | exact HB.out))); (case aF => exact (fun _ _ => trivial)); (case aO => exact (by (with_reducible repeat (first | apply Kd.R_alloc | apply Kd.R_drewN | apply Kd.R_drew)); exact HO_7.out)); (case aS => exact (below_size (by repeat (first | (with_reducible first | exact HB.out | apply below_alloc | apply pw_below_drewN | apply below_drew1 | refine below_set ?_ GE167.out) | exact HB.out)))); (case aL => have := LMc10.out; omega); intro v176 w12 ho hb hg hat; rw [← Ny175.out] at ho; have n0_ := Aside0.mk (Kd.R_over' (by (with_reducible repeat (first | apply Kd.R_alloc | apply Kd.R_drewN | apply Kd.R_drew)); exact HO_6.out) (Kd.R_typed (by (with_reducible repeat (first | apply Kd.R_alloc | apply Kd.R_drewN | apply Kd.R_drew)); exact HO_7.out)) (by decide) hg); have n1_ := Aside0.mk (blk_grown (g := gb167) (o := .cells #[.slice A0_0 l0_0.length c0_0, .slice (some ad174) l0_1.length c0_1, .int .i64 a0_2] 30 (0, 0)) (by (with_reducible repeat (first | refine blk_drewN ?_ _ | refine blk_drew ?_ | refine blk_alloc ?_ _)); exact BK167.out) hg (Kd.R_ne HO_7.out BK167.out (by decide))); have n2_ := Aside0.mk (hb); have n3_ := Aside0.mk (ho); clear HO_6; clear BK167; clear HB; clear HO_7; have HO_6 := n0_; have BK167 := n1_; have HB := n2_; have HO177 := n3_; clear n0_ n1_ n2_ n3_; clear ho hb hg hat)); try go_wp2_with (first | ((with_reducible refine gate_builtin (b := .append) (xs := #[.tmp 25, .tmp 33]) rfl ?_); at_builtin; refine Kd.R_append Kd.bool (w0 := w) w.heap.size rfl (.tmp 25) (.tmp 33) 42 4 (.bool false) 1 rfl Try.underlying42 info4 rfl (by decide) (by omega) u7 x7_1 (((rd_T53 l0_1 x8_1).f3) == 0) [.bool (((rd_T53 l0_1 x8_1).f3) == 0)] (fun _ => True) (fun _ => False) rfl rfl ?aP (fun _ hk => hk.elim) ?aF ?aO ?aB ?aS ?aL ?_; (case aP => exact rfl); (case aB => exact (by repeat (first | (with_reducible first | exact HB.out | apply below_alloc | apply pw_below_drewN | apply below_drew1 | refine below_set ?_ GE167.out) | exact HB.out))); (case aF => exact (fun _ _ => trivial)); (case aO => exact (by (with_reducible repeat (first | apply Kd.R_alloc | apply Kd.R_drewN | apply Kd.R_drew)); exact HO_7.out)); (case aS => exact (below_size (by repeat (first | (with_reducible first | exact HB.out | apply below_alloc | apply pw_below_drewN | apply below_drew1 | refine below_set ?_ GE167.out) | exact HB.out)))); (case aL => have := LMc10.out; omega); intro v176 w12 ho hb hg hat; rw [← Ny175.out] at ho; have n0_ := Aside0.mk (Kd.R_over' (by (with_reducible repeat (first | apply Kd.R_alloc | apply Kd.R_drewN | apply Kd.R_drew)); exact HO_6.out) (Kd.R_typed (by (with_reducible repeat (first | apply Kd.R_alloc | apply Kd.R_drewN | apply Kd.R_drew)); exact HO_7.out)) (by decide) hg); have n1_ := Aside0.mk (blk_grown (g := gb167) (o := .cells #[.slice A0_0 l0_0.length c0_0, .slice (some ad174) l0_1.length c0_1, .int .i64 a0_2] 30 (0, 0)) (by (with_reducible repeat (first | refine blk_drewN ?_ _ | refine blk_drew ?_ | refine blk_alloc ?_ _)); exact BK167.out) hg (Kd.R_ne HO_7.out BK167.out (by decide))); have n2_ := Aside0.mk (hb); have n3_ := Aside0.mk (ho); clear HO_6; clear BK167; clear HB; clear HO_7; have HO_6 := n0_; have BK167 := n1_; have HB := n2_; have HO177 := n3_; clear n0_ n1_ n2_ n3_; clear ho hb hg hat)))
      go_roundg k1
      case measure => have := HK1.out; omega
      case rel => exact ⟨(y175), (wrap64 (x8_1 + 1)), (by first | rfl | (simp; done) | (simp [*]; done)), H', ⟨by have := HK1.out; omega⟩, ⟨by (with_reducible repeat (first | apply Kd.R_alloc | apply Kd.R_drewN | apply Kd.R_drew)); exact HO_6.out⟩, ⟨by (with_reducible repeat (first | apply Kd.R_alloc | apply Kd.R_drewN | apply Kd.R_drew)); exact HO177.out⟩, ⟨by (with_reducible repeat (first | refine blk_drewN ?_ _ | refine blk_drew ?_ | refine blk_alloc ?_ _)); exact BK167.out⟩, ⟨by repeat (first | (with_reducible first | exact HB.out | apply below_alloc | apply pw_below_drewN | apply below_drew1 | refine below_set ?_ GE167.out) | exact HB.out)⟩⟩
     ·
      rw [if_neg c10] at H
      exact absurd H (by simp)
    ·
     rw [if_neg c9] at H
     exact absurd H (by simp)
   ·
    rw [if_neg c8] at H
    have c8b0 : decide (x8_1 < (l0_1.length : Int)) = false := decide_eq_false c8
    clear c8
    have H' := Aside0.mk H
    clear H
    have hcz13_0 : wr.cell? ⟨gb167, 0, none⟩ = some (.slice A0_0 l0_0.length c0_0) := (blk_cell BK167.out 0).trans rfl
    have hcz13_1 : wr.cell? ⟨gb167, 1, none⟩ = some (.slice A0_1 l0_1.length c0_1) := (blk_cell BK167.out 1).trans rfl
    have hcz13_2 : wr.cell? ⟨gb167, 2, none⟩ = some (.int .i64 a0_2) := (blk_cell BK167.out 2).trans rfl
    have hfz13_0 := blk_frozen BK167.out 0
    have hfz13_1 := blk_frozen BK167.out 1
    have hfz13_2 := blk_frozen BK167.out 2
    go_wp2
    repeat (go_quiet (fail); try go_wp2)
    go_loopg [6, 9] k1 (fun kq v6 v9 w' => ∃ (x6_2 : List Int) (x7_2 : List Bool) (x9_2 : Int), v9 = .int .i64 x9_2 ∧ Aside0 (spec_l11Play.l1 kq l1 x6_2 x7_2 x9_2 l0_0 l0_1 a0_2 = some (r1, r2)) ∧ Aside0 (kq ≤ k1) ∧ Aside0 (Kd.R (Kd.int .i64) 3 w' w.heap.size (fun _ => True) v6 x6_2) ∧ Aside0 (Kd.R Kd.bool 4 w' w.heap.size (fun _ => True) u7 x7_2) ∧ Aside0 (w'.heap[gb167]? = some (.cells #[(.slice A0_0 l0_0.length c0_0), (.slice A0_1 l0_1.length c0_1), .int .i64 a0_2] 30 (0, 0))) ∧ Aside0 (Below w.heap.size w w'))
    case atStart => exact ⟨(y168), (x7_1), (0), (by first | rfl | (simp; done) | (simp [*]; done)), H', ⟨Nat.le_refl _⟩, ⟨by (with_reducible repeat (first | apply Kd.R_alloc | apply Kd.R_drewN | apply Kd.R_drew)); exact HO_6.out⟩, ⟨by (with_reducible repeat (first | apply Kd.R_alloc | apply Kd.R_drewN | apply Kd.R_drew)); exact HO_7.out⟩, ⟨by (with_reducible repeat (first | refine blk_drewN ?_ _ | refine blk_drew ?_ | refine blk_alloc ?_ _)); exact BK167.out⟩, ⟨by repeat (first | (with_reducible first | exact HB.out | apply below_alloc | apply pw_below_drewN | apply below_drew1 | refine below_set ?_ GE167.out) | exact HB.out)⟩⟩
    case round =>
     clear H'
     try clear c1
     try clear p1
     try clear q1
     try clear hx1
     try clear p2
     try clear c5
     try clear p6
     try clear c8
     try clear c8b0
     try clear c9
     try clear c9b0
     try clear c10
     try clear hcz11_0
     try clear hcz11_1
     try clear hcz11_2
     try clear hcz13_0
     try clear hcz13_1
     try clear hcz13_2
     try clear hfz11_0
     try clear hfz11_1
     try clear hfz11_2
     try clear hfz13_0
     try clear hfz13_1
     try clear hfz13_2
     try clear hx174_0
     try clear hx174_1
     try clear hx174_2
     try clear hx174_3
     try clear p174
     try clear p2
     try clear q174
     obtain ⟨x6_2, x7_2, x9_2, rfl, HA, HK2, HO_6, HO_7, BK167, HB⟩ := hrel
     cases gk with
     | zero => exact absurd HA.out (by simp [spec_l11Play.l1])
     | succ k2 =>
      have H := HA.out
      clear HA
      simp only [spec_l11Play.l1] at H
      by_cases c14 : x9_2 < (l0_0.length : Int)
      ·
       rw [if_pos c14] at H
       have c14b0 : decide (x9_2 < (l0_0.length : Int)) = true := decide_eq_true c14
       clear c14
       by_cases c15 : 0 ≤ x9_2
       ·
        rw [if_pos c15] at H
        have c15b0 : decide (0 ≤ x9_2) = true := decide_eq_true c15
        clear c15
        have H' := Aside0.mk H
        clear H
        have hcz16_0 : wr.cell? ⟨gb167, 0, none⟩ = some (.slice A0_0 l0_0.length c0_0) := (blk_cell BK167.out 0).trans rfl
        have hcz16_1 : wr.cell? ⟨gb167, 1, none⟩ = some (.slice A0_1 l0_1.length c0_1) := (blk_cell BK167.out 1).trans rfl
        have hcz16_2 : wr.cell? ⟨gb167, 2, none⟩ = some (.int .i64 a0_2) := (blk_cell BK167.out 2).trans rfl
        have hfz16_0 := blk_frozen BK167.out 0
        have hfz16_1 := blk_frozen BK167.out 1
        have hfz16_2 := blk_frozen BK167.out 2
        have p178 : 0 ≤ (x9_2 : Int) := of_decide_eq_true (by first | (with_reducible assumption) | assumption)
        have q178 : x9_2 < (l0_0.length : Int) := of_decide_eq_true (by first | (with_reducible assumption) | assumption)
        obtain ⟨ad178, e178, hx178_0⟩ := Kd.at_int HR0_0.out x9_2 p178 q178
        cases e178
        replace hx178_0 := (HB.out.cell (World.block_lt_of_cell? w _ hx178_0)).trans hx178_0
        replace p178 := eq_true p178
        replace q178 := eq_true q178
        go_wp2
        repeat (go_quiet (fail); try go_wp2)
        go_loopg [10, 11] k2 (fun kq v10 v11 w' => ∃ (x10_3 : Int) (x11_3 : Int), v10 = .int .i64 x10_3 ∧ v11 = .int .i64 x11_3 ∧ Aside0 (spec_l11Play.l2 kq l1 x6_2 x7_2 x9_2 x10_3 x11_3 l0_0 l0_1 a0_2 = some (r1, r2)) ∧ Aside0 (kq ≤ k2) ∧ Aside0 (Kd.R (Kd.int .i64) 3 w' w.heap.size (fun _ => True) u6 x6_2) ∧ Aside0 (Kd.R Kd.bool 4 w' w.heap.size (fun _ => True) u7 x7_2) ∧ Aside0 (w'.heap[gb167]? = some (.cells #[(.slice (some ad178) l0_0.length c0_0), (.slice A0_1 l0_1.length c0_1), .int .i64 a0_2] 30 (0, 0))) ∧ Aside0 (Below w.heap.size w w'))
        case atStart => exact ⟨(rd l0_0 x9_2), (0), (by first | rfl | (simp; done) | (simp [*]; done)), (by first | rfl | (simp; done) | (simp [*]; done)), H', ⟨Nat.le_refl _⟩, ⟨by (with_reducible repeat (first | apply Kd.R_alloc | apply Kd.R_drewN | apply Kd.R_drew)); exact HO_6.out⟩, ⟨by (with_reducible repeat (first | apply Kd.R_alloc | apply Kd.R_drewN | apply Kd.R_drew)); exact HO_7.out⟩, ⟨by (with_reducible repeat (first | refine blk_drewN ?_ _ | refine blk_drew ?_ | refine blk_alloc ?_ _)); exact BK167.out⟩, ⟨by repeat (first | (with_reducible first | exact HB.out | apply below_alloc | apply pw_below_drewN | apply below_drew1 | refine below_set ?_ GE167.out) | exact HB.out)⟩⟩
        case round =>
         clear H'
         try clear c1
         try clear p1
         try clear q1
         try clear hx1
         try clear p2
         try clear c5
         try clear p6
         try clear c8
         try clear c8b0
         try clear c9
         try clear c9b0
         try clear c10
         try clear c14
         try clear c14b0
         try clear c15
         try clear c15b0
         try clear hcz11_0
         try clear hcz11_1
         try clear hcz11_2
         try clear hcz13_0
         try clear hcz13_1
         try clear hcz13_2
         try clear hcz16_0
         try clear hcz16_1
         try clear hcz16_2
         try clear hfz11_0
         try clear hfz11_1
         try clear hfz11_2
         try clear hfz13_0
         try clear hfz13_1
         try clear hfz13_2
         try clear hfz16_0
         try clear hfz16_1
         try clear hfz16_2
         try clear hx174_0
         try clear hx174_1
         try clear hx174_2
         try clear hx174_3
         try clear hx178_0
         try clear p1
         try clear p174
         try clear p178
         try clear p2
         try clear p6
         try clear q1
         try clear q174
         try clear q178
         obtain ⟨x10_3, x11_3, rfl, rfl, HA, HK3, HO_6, HO_7, BK167, HB⟩ := hrel
         cases gk with
         | zero => exact absurd HA.out (by simp [spec_l11Play.l2])
         | succ k3 =>
          have H := HA.out
          clear HA
          simp only [spec_l11Play.l2] at H
          by_cases c17 : x11_3 < (l0_1.length : Int)
          ·
           rw [if_pos c17] at H
           have c17b0 : decide (x11_3 < (l0_1.length : Int)) = true := decide_eq_true c17
           clear c17
           by_cases c18 : 0 ≤ x11_3
           ·
            rw [if_pos c18] at H
            have c18b0 : decide (0 ≤ x11_3) = true := decide_eq_true c18
            clear c18
            by_cases c19 : ((rd_T53 l0_1 x11_3).f1) = x9_2
            ·
             rw [if_pos c19] at H
             have c19b0 : (((rd_T53 l0_1 x11_3).f1) == x9_2) = true := beq_iff_eq.mpr c19
             have c19b1 : (((rd_T53 l0_1 x11_3).f1) != x9_2) = false := bne_eq_false_iff_eq.mpr c19
             clear c19
             by_cases c20 : ((rd_T53 l0_1 x11_3).f3) = 0
             ·
              rw [if_pos c20] at H
              have c20b0 : (((rd_T53 l0_1 x11_3).f3) == 0) = true := beq_iff_eq.mpr c20
              have c20b1 : (((rd_T53 l0_1 x11_3).f3) != 0) = false := bne_eq_false_iff_eq.mpr c20
              clear c20
              by_cases c21 : 0 ≤ ((rd_T53 l0_1 x11_3).f0)
              ·
               rw [if_pos c21] at H
               have c21b0 : decide (0 ≤ ((rd_T53 l0_1 x11_3).f0)) = true := decide_eq_true c21
               clear c21
               by_cases c22 : ((rd_T53 l0_1 x11_3).f0) < (x6_2.length : Int)
               ·
                rw [if_pos c22] at H
                have c22b0 : decide (((rd_T53 l0_1 x11_3).f0) < (x6_2.length : Int)) = true := decide_eq_true c22
                clear c22
                by_cases c23 : (wrap64 ((rd x6_2 ((rd_T53 l0_1 x11_3).f0)) + ((rd_T53 l0_1 x11_3).f2))) > x10_3
                ·
                 rw [if_pos c23] at H
                 have c23b0 : decide (x10_3 < (wrap64 ((rd x6_2 ((rd_T53 l0_1 x11_3).f0)) + ((rd_T53 l0_1 x11_3).f2)))) = true := decide_eq_true c23
                 clear c23
                 have H' := Aside0.mk H
                 clear H
                 have hcz24_0 : wr.cell? ⟨gb167, 0, none⟩ = some (.slice (some ad178) l0_0.length c0_0) := (blk_cell BK167.out 0).trans rfl
                 have hcz24_1 : wr.cell? ⟨gb167, 1, none⟩ = some (.slice A0_1 l0_1.length c0_1) := (blk_cell BK167.out 1).trans rfl
                 have hcz24_2 : wr.cell? ⟨gb167, 2, none⟩ = some (.int .i64 a0_2) := (blk_cell BK167.out 2).trans rfl
                 have hfz24_0 := blk_frozen BK167.out 0
                 have hfz24_1 := blk_frozen BK167.out 1
                 have hfz24_2 := blk_frozen BK167.out 2
                 have p179 : 0 ≤ (x11_3 : Int) := of_decide_eq_true (by first | (with_reducible assumption) | assumption)
                 have q179 : x11_3 < (l0_1.length : Int) := of_decide_eq_true (by first | (with_reducible assumption) | assumption)
                 obtain ⟨ad179, e179, hx179_0, hx179_1, hx179_2, hx179_3⟩ := at_T53 HR0_1.out x11_3 p179 q179
                 cases e179
                 replace hx179_0 := (HB.out.cell (World.block_lt_of_cell? w _ hx179_0)).trans hx179_0
                 replace hx179_1 := (HB.out.cell (World.block_lt_of_cell? w _ hx179_1)).trans hx179_1
                 replace hx179_2 := (HB.out.cell (World.block_lt_of_cell? w _ hx179_2)).trans hx179_2
                 replace hx179_3 := (HB.out.cell (World.block_lt_of_cell? w _ hx179_3)).trans hx179_3
                 replace p179 := eq_true p179
                 replace q179 := eq_true q179
                 go_wp2_with (first | ((with_reducible refine gate_dst (N := 12) rfl ?_); refine box_event ?hg (N := 12) ?hd (cs := #[.int .i64 0, .int .i64 0, .int .i64 0, .int .i64 0]) (t := 53) ?hr ?_; (case hd => rfl); (case hg => rfl); (case hr => first | (go_simp; done) | (go_simp; rfl)); intro gb180 hg w25 hbox hb; have n0_ := Aside0.mk (Kd.R_below (by (with_reducible repeat (first | apply Kd.R_alloc | apply Kd.R_drewN | apply Kd.R_drew)); exact HO_6.out) hb); have n1_ := Aside0.mk (Kd.R_below (by (with_reducible repeat (first | apply Kd.R_alloc | apply Kd.R_drewN | apply Kd.R_drew)); exact HO_7.out) hb); have n2_ := Aside0.mk (blk_below (g := gb167) (o := .cells #[.slice (some ad178) l0_0.length c0_0, .slice (some ad179) l0_1.length c0_1, .int .i64 a0_2] 30 (0, 0)) (by (with_reducible repeat (first | refine blk_drewN ?_ _ | refine blk_drew ?_ | refine blk_alloc ?_ _)); exact BK167.out) hb); have n3_ := Aside0.mk (below_step (by repeat (first | (with_reducible first | exact HB.out | apply below_alloc | apply pw_below_drewN | apply below_drew1 | refine below_set ?_ GE167.out) | exact HB.out)) hb); have n4_ := Aside0.mk (hbox); have n5_ := Aside0.mk ((by rw [hg]; exact (below_size (by repeat (first | (with_reducible first | exact HB.out | apply below_alloc | apply pw_below_drewN | apply below_drew1 | refine below_set ?_ GE167.out) | exact HB.out))) : w.heap.size ≤ gb180)); have n6_ := Aside0.mk ((by rw [hg]; exact (below_size (by repeat (first | (with_reducible first | exact HB.out | apply below_alloc | apply pw_below_drewN | apply below_drew1 | refine below_set ?_ GE167.out) | exact HB.out))) : w.heap.size ≤ gb180)); have n7_ := Aside0.mk ((by rw [hg]; exact Nat.ne_of_lt (blk_lt (g := gb167) (o := .cells #[.slice (some ad178) l0_0.length c0_0, .slice (some ad179) l0_1.length c0_1, .int .i64 a0_2] 30 (0, 0)) (by (with_reducible repeat (first | refine blk_drewN ?_ _ | refine blk_drew ?_ | refine blk_alloc ?_ _)); exact BK167.out)) : gb167 ≠ gb180)); have n8_ := Aside0.mk ((by rw [hg]; exact Nat.ne_of_gt (blk_lt (g := gb167) (o := .cells #[.slice (some ad178) l0_0.length c0_0, .slice (some ad179) l0_1.length c0_1, .int .i64 a0_2] 30 (0, 0)) (by (with_reducible repeat (first | refine blk_drewN ?_ _ | refine blk_drew ?_ | refine blk_alloc ?_ _)); exact BK167.out)) : gb180 ≠ gb167)); clear HO_6; clear HO_7; clear BK167; clear HB; have HO_6 := n0_; have HO_7 := n1_; have BK167 := n2_; have HB := n3_; have BK180 := n4_; have GW180 := n5_; have GE180 := n6_; have NB167_180 := n7_; have NB180_167 := n8_; clear n0_ n1_ n2_ n3_ n4_ n5_ n6_ n7_ n8_; clear hb hbox hg; have hnb26 := NB180_167.out; have hnc26 := NB167_180.out; have hcz27_0 : w25.cell? ⟨gb180, 0, none⟩ = some (.int .i64 0) := (blk_cell BK180.out 0).trans rfl; have hcz27_1 : w25.cell? ⟨gb180, 1, none⟩ = some (.int .i64 0) := (blk_cell BK180.out 1).trans rfl; have hcz27_2 : w25.cell? ⟨gb180, 2, none⟩ = some (.int .i64 0) := (blk_cell BK180.out 2).trans rfl; have hcz27_3 : w25.cell? ⟨gb180, 3, none⟩ = some (.int .i64 0) := (blk_cell BK180.out 3).trans rfl; have hfz27_0 := blk_frozen BK180.out 0; have hfz27_1 := blk_frozen BK180.out 1; have hfz27_2 := blk_frozen BK180.out 2; have hfz27_3 := blk_frozen BK180.out 3; obtain ⟨Ao28, co28, eo28⟩ := Kd.R_slice HO_6.out; subst eo28; have p181 : 0 ≤ (((rd_T53 l0_1 x11_3).f0) : Int) := of_decide_eq_true (by first | (with_reducible assumption) | assumption); have q181 : ((rd_T53 l0_1 x11_3).f0) < (x6_2.length : Int) := of_decide_eq_true (by first | (with_reducible assumption) | assumption); obtain ⟨ad181, e181, hx181_0⟩ := Kd.at_int (Kd.R_reads' HO_6.out).2.2 ((rd_T53 l0_1 x11_3).f0) p181 q181; cases e181; have hn181_0 : ad181.block ≠ gb180 := Kd.own_blk (Kd.R_ne HO_6.out BK180.out (by decide)); have hn181_1 : ad181.block ≠ gb180 := Kd.own_blk (Kd.R_ne HO_6.out BK180.out (by decide)); have hn181_2 : ad181.block ≠ gb180 := Kd.own_blk (Kd.R_ne HO_6.out BK180.out (by decide)); have hn181_3 : ad181.block ≠ gb180 := Kd.own_blk (Kd.R_ne HO_6.out BK180.out (by decide)); replace hx181_0 := (cell_far (p := ⟨gb180, 0, none⟩) (by first | (rw [add_block]; exact hn181_0) | (show (Addr.add _ _).block ≠ _; rw [add_block]; exact hn181_0) | exact hn181_0) (.int .i64 ((rd_T53 l0_1 x11_3).f0))).trans hx181_0; replace hx181_0 := (cell_far (p := ⟨gb180, 1, none⟩) (by first | (rw [add_block]; exact hn181_1) | (show (Addr.add _ _).block ≠ _; rw [add_block]; exact hn181_1) | exact hn181_1) (.int .i64 ((rd_T53 l0_1 x11_3).f1))).trans hx181_0; replace hx181_0 := (cell_far (p := ⟨gb180, 2, none⟩) (by first | (rw [add_block]; exact hn181_2) | (show (Addr.add _ _).block ≠ _; rw [add_block]; exact hn181_2) | exact hn181_2) (.int .i64 ((rd_T53 l0_1 x11_3).f2))).trans hx181_0; replace hx181_0 := (cell_far (p := ⟨gb180, 3, none⟩) (by first | (rw [add_block]; exact hn181_3) | (show (Addr.add _ _).block ≠ _; rw [add_block]; exact hn181_3) | exact hn181_3) (.int .i64 ((rd_T53 l0_1 x11_3).f3))).trans hx181_0; (try have hy181_0 := fun (n_ : Nat) => (show ((((((w25.drewN n_).setCell ⟨gb180, 0, none⟩ (.int .i64 ((rd_T53 l0_1 x11_3).f0))).setCell ⟨gb180, 1, none⟩ (.int .i64 ((rd_T53 l0_1 x11_3).f1))).setCell ⟨gb180, 2, none⟩ (.int .i64 ((rd_T53 l0_1 x11_3).f2))).setCell ⟨gb180, 3, none⟩ (.int .i64 ((rd_T53 l0_1 x11_3).f3)))).cell? _ = some _ from hx181_0)); clear hn181_0; clear hn181_1; clear hn181_2; clear hn181_3; replace p181 := eq_true p181; replace q181 := eq_true q181; have p182 : 0 ≤ (((rd_T53 l0_1 x11_3).f0) : Int) := of_decide_eq_true (by first | (with_reducible assumption) | assumption); have q182 : ((rd_T53 l0_1 x11_3).f0) < (x6_2.length : Int) := of_decide_eq_true (by first | (with_reducible assumption) | assumption); obtain ⟨ad182, e182, hx182_0⟩ := Kd.at_int (Kd.R_reads' HO_6.out).2.2 ((rd_T53 l0_1 x11_3).f0) p182 q182; obtain rfl : ad181 = ad182 := (by injection e182); have hn182_0 : ad181.block ≠ gb180 := Kd.own_blk (Kd.R_ne HO_6.out BK180.out (by decide)); have hn182_1 : ad181.block ≠ gb180 := Kd.own_blk (Kd.R_ne HO_6.out BK180.out (by decide)); have hn182_2 : ad181.block ≠ gb180 := Kd.own_blk (Kd.R_ne HO_6.out BK180.out (by decide)); have hn182_3 : ad181.block ≠ gb180 := Kd.own_blk (Kd.R_ne HO_6.out BK180.out (by decide)); replace hx182_0 := (cell_far (p := ⟨gb180, 0, none⟩) (by first | (rw [add_block]; exact hn182_0) | (show (Addr.add _ _).block ≠ _; rw [add_block]; exact hn182_0) | exact hn182_0) (.int .i64 ((rd_T53 l0_1 x11_3).f0))).trans hx182_0; replace hx182_0 := (cell_far (p := ⟨gb180, 1, none⟩) (by first | (rw [add_block]; exact hn182_1) | (show (Addr.add _ _).block ≠ _; rw [add_block]; exact hn182_1) | exact hn182_1) (.int .i64 ((rd_T53 l0_1 x11_3).f1))).trans hx182_0; replace hx182_0 := (cell_far (p := ⟨gb180, 2, none⟩) (by first | (rw [add_block]; exact hn182_2) | (show (Addr.add _ _).block ≠ _; rw [add_block]; exact hn182_2) | exact hn182_2) (.int .i64 ((rd_T53 l0_1 x11_3).f2))).trans hx182_0; replace hx182_0 := (cell_far (p := ⟨gb180, 3, none⟩) (by first | (rw [add_block]; exact hn182_3) | (show (Addr.add _ _).block ≠ _; rw [add_block]; exact hn182_3) | exact hn182_3) (.int .i64 ((rd_T53 l0_1 x11_3).f3))).trans hx182_0; (try have hy182_0 := fun (n_ : Nat) => (show ((((((w25.drewN n_).setCell ⟨gb180, 0, none⟩ (.int .i64 ((rd_T53 l0_1 x11_3).f0))).setCell ⟨gb180, 1, none⟩ (.int .i64 ((rd_T53 l0_1 x11_3).f1))).setCell ⟨gb180, 2, none⟩ (.int .i64 ((rd_T53 l0_1 x11_3).f2))).setCell ⟨gb180, 3, none⟩ (.int .i64 ((rd_T53 l0_1 x11_3).f3)))).cell? _ = some _ from hx182_0)); clear hn182_0; clear hn182_1; clear hn182_2; clear hn182_3; replace p182 := eq_true p182; replace q182 := eq_true q182))
                 repeat (go_quiet (first | ((with_reducible refine gate_dst (N := 12) rfl ?_); refine box_event ?hg (N := 12) ?hd (cs := #[.int .i64 0, .int .i64 0, .int .i64 0, .int .i64 0]) (t := 53) ?hr ?_; (case hd => rfl); (case hg => rfl); (case hr => first | (go_simp; done) | (go_simp; rfl)); intro gb180 hg w25 hbox hb; have n0_ := Aside0.mk (Kd.R_below (by (with_reducible repeat (first | apply Kd.R_alloc | apply Kd.R_drewN | apply Kd.R_drew)); exact HO_6.out) hb); have n1_ := Aside0.mk (Kd.R_below (by (with_reducible repeat (first | apply Kd.R_alloc | apply Kd.R_drewN | apply Kd.R_drew)); exact HO_7.out) hb); have n2_ := Aside0.mk (blk_below (g := gb167) (o := .cells #[.slice (some ad178) l0_0.length c0_0, .slice (some ad179) l0_1.length c0_1, .int .i64 a0_2] 30 (0, 0)) (by (with_reducible repeat (first | refine blk_drewN ?_ _ | refine blk_drew ?_ | refine blk_alloc ?_ _)); exact BK167.out) hb); have n3_ := Aside0.mk (below_step (by repeat (first | (with_reducible first | exact HB.out | apply below_alloc | apply pw_below_drewN | apply below_drew1 | refine below_set ?_ GE167.out) | exact HB.out)) hb); have n4_ := Aside0.mk (hbox); have n5_ := Aside0.mk ((by rw [hg]; exact (below_size (by repeat (first | (with_reducible first | exact HB.out | apply below_alloc | apply pw_below_drewN | apply below_drew1 | refine below_set ?_ GE167.out) | exact HB.out))) : w.heap.size ≤ gb180)); have n6_ := Aside0.mk ((by rw [hg]; exact (below_size (by repeat (first | (with_reducible first | exact HB.out | apply below_alloc | apply pw_below_drewN | apply below_drew1 | refine below_set ?_ GE167.out) | exact HB.out))) : w.heap.size ≤ gb180)); have n7_ := Aside0.mk ((by rw [hg]; exact Nat.ne_of_lt (blk_lt (g := gb167) (o := .cells #[.slice (some ad178) l0_0.length c0_0, .slice (some ad179) l0_1.length c0_1, .int .i64 a0_2] 30 (0, 0)) (by (with_reducible repeat (first | refine blk_drewN ?_ _ | refine blk_drew ?_ | refine blk_alloc ?_ _)); exact BK167.out)) : gb167 ≠ gb180)); have n8_ := Aside0.mk ((by rw [hg]; exact Nat.ne_of_gt (blk_lt (g := gb167) (o := .cells #[.slice (some ad178) l0_0.length c0_0, .slice (some ad179) l0_1.length c0_1, .int .i64 a0_2] 30 (0, 0)) (by (with_reducible repeat (first | refine blk_drewN ?_ _ | refine blk_drew ?_ | refine blk_alloc ?_ _)); exact BK167.out)) : gb180 ≠ gb167)); clear HO_6; clear HO_7; clear BK167; clear HB; have HO_6 := n0_; have HO_7 := n1_; have BK167 := n2_; have HB := n3_; have BK180 := n4_; have GW180 := n5_; have GE180 := n6_; have NB167_180 := n7_; have NB180_167 := n8_; clear n0_ n1_ n2_ n3_ n4_ n5_ n6_ n7_ n8_; clear hb hbox hg; have hnb26 := NB180_167.out; have hnc26 := NB167_180.out; have hcz27_0 : w25.cell? ⟨gb180, 0, none⟩ = some (.int .i64 0) := (blk_cell BK180.out 0).trans rfl; have hcz27_1 : w25.cell? ⟨gb180, 1, none⟩ = some (.int .i64 0) := (blk_cell BK180.out 1).trans rfl; have hcz27_2 : w25.cell? ⟨gb180, 2, none⟩ = some (.int .i64 0) := (blk_cell BK180.out 2).trans rfl; have hcz27_3 : w25.cell? ⟨gb180, 3, none⟩ = some (.int .i64 0) := (blk_cell BK180.out 3).trans rfl; have hfz27_0 := blk_frozen BK180.out 0; have hfz27_1 := blk_frozen BK180.out 1; have hfz27_2 := blk_frozen BK180.out 2; have hfz27_3 := blk_frozen BK180.out 3; obtain ⟨Ao28, co28, eo28⟩ := Kd.R_slice HO_6.out; subst eo28; have p181 : 0 ≤ (((rd_T53 l0_1 x11_3).f0) : Int) := of_decide_eq_true (by first | (with_reducible assumption) | assumption); have q181 : ((rd_T53 l0_1 x11_3).f0) < (x6_2.length : Int) := of_decide_eq_true (by first | (with_reducible assumption) | assumption); obtain ⟨ad181, e181, hx181_0⟩ := Kd.at_int (Kd.R_reads' HO_6.out).2.2 ((rd_T53 l0_1 x11_3).f0) p181 q181; cases e181; have hn181_0 : ad181.block ≠ gb180 := Kd.own_blk (Kd.R_ne HO_6.out BK180.out (by decide)); have hn181_1 : ad181.block ≠ gb180 := Kd.own_blk (Kd.R_ne HO_6.out BK180.out (by decide)); have hn181_2 : ad181.block ≠ gb180 := Kd.own_blk (Kd.R_ne HO_6.out BK180.out (by decide)); have hn181_3 : ad181.block ≠ gb180 := Kd.own_blk (Kd.R_ne HO_6.out BK180.out (by decide)); replace hx181_0 := (cell_far (p := ⟨gb180, 0, none⟩) (by first | (rw [add_block]; exact hn181_0) | (show (Addr.add _ _).block ≠ _; rw [add_block]; exact hn181_0) | exact hn181_0) (.int .i64 ((rd_T53 l0_1 x11_3).f0))).trans hx181_0; replace hx181_0 := (cell_far (p := ⟨gb180, 1, none⟩) (by first | (rw [add_block]; exact hn181_1) | (show (Addr.add _ _).block ≠ _; rw [add_block]; exact hn181_1) | exact hn181_1) (.int .i64 ((rd_T53 l0_1 x11_3).f1))).trans hx181_0; replace hx181_0 := (cell_far (p := ⟨gb180, 2, none⟩) (by first | (rw [add_block]; exact hn181_2) | (show (Addr.add _ _).block ≠ _; rw [add_block]; exact hn181_2) | exact hn181_2) (.int .i64 ((rd_T53 l0_1 x11_3).f2))).trans hx181_0; replace hx181_0 := (cell_far (p := ⟨gb180, 3, none⟩) (by first | (rw [add_block]; exact hn181_3) | (show (Addr.add _ _).block ≠ _; rw [add_block]; exact hn181_3) | exact hn181_3) (.int .i64 ((rd_T53 l0_1 x11_3).f3))).trans hx181_0; (try have hy181_0 := fun (n_ : Nat) => (show ((((((w25.drewN n_).setCell ⟨gb180, 0, none⟩ (.int .i64 ((rd_T53 l0_1 x11_3).f0))).setCell ⟨gb180, 1, none⟩ (.int .i64 ((rd_T53 l0_1 x11_3).f1))).setCell ⟨gb180, 2, none⟩ (.int .i64 ((rd_T53 l0_1 x11_3).f2))).setCell ⟨gb180, 3, none⟩ (.int .i64 ((rd_T53 l0_1 x11_3).f3)))).cell? _ = some _ from hx181_0)); clear hn181_0; clear hn181_1; clear hn181_2; clear hn181_3; replace p181 := eq_true p181; replace q181 := eq_true q181; have p182 : 0 ≤ (((rd_T53 l0_1 x11_3).f0) : Int) := of_decide_eq_true (by first | (with_reducible assumption) | assumption); have q182 : ((rd_T53 l0_1 x11_3).f0) < (x6_2.length : Int) := of_decide_eq_true (by first | (with_reducible assumption) | assumption); obtain ⟨ad182, e182, hx182_0⟩ := Kd.at_int (Kd.R_reads' HO_6.out).2.2 ((rd_T53 l0_1 x11_3).f0) p182 q182; obtain rfl : ad181 = ad182 := (by injection e182); have hn182_0 : ad181.block ≠ gb180 := Kd.own_blk (Kd.R_ne HO_6.out BK180.out (by decide)); have hn182_1 : ad181.block ≠ gb180 := Kd.own_blk (Kd.R_ne HO_6.out BK180.out (by decide)); have hn182_2 : ad181.block ≠ gb180 := Kd.own_blk (Kd.R_ne HO_6.out BK180.out (by decide)); have hn182_3 : ad181.block ≠ gb180 := Kd.own_blk (Kd.R_ne HO_6.out BK180.out (by decide)); replace hx182_0 := (cell_far (p := ⟨gb180, 0, none⟩) (by first | (rw [add_block]; exact hn182_0) | (show (Addr.add _ _).block ≠ _; rw [add_block]; exact hn182_0) | exact hn182_0) (.int .i64 ((rd_T53 l0_1 x11_3).f0))).trans hx182_0; replace hx182_0 := (cell_far (p := ⟨gb180, 1, none⟩) (by first | (rw [add_block]; exact hn182_1) | (show (Addr.add _ _).block ≠ _; rw [add_block]; exact hn182_1) | exact hn182_1) (.int .i64 ((rd_T53 l0_1 x11_3).f1))).trans hx182_0; replace hx182_0 := (cell_far (p := ⟨gb180, 2, none⟩) (by first | (rw [add_block]; exact hn182_2) | (show (Addr.add _ _).block ≠ _; rw [add_block]; exact hn182_2) | exact hn182_2) (.int .i64 ((rd_T53 l0_1 x11_3).f2))).trans hx182_0; replace hx182_0 := (cell_far (p := ⟨gb180, 3, none⟩) (by first | (rw [add_block]; exact hn182_3) | (show (Addr.add _ _).block ≠ _; rw [add_block]; exact hn182_3) | exact hn182_3) (.int .i64 ((rd_T53 l0_1 x11_3).f3))).trans hx182_0; (try have hy182_0 := fun (n_ : Nat) => (show ((((((w25.drewN n_).setCell ⟨gb180, 0, none⟩ (.int .i64 ((rd_T53 l0_1 x11_3).f0))).setCell ⟨gb180, 1, none⟩ (.int .i64 ((rd_T53 l0_1 x11_3).f1))).setCell ⟨gb180, 2, none⟩ (.int .i64 ((rd_T53 l0_1 x11_3).f2))).setCell ⟨gb180, 3, none⟩ (.int .i64 ((rd_T53 l0_1 x11_3).f3)))).cell? _ = some _ from hx182_0)); clear hn182_0; clear hn182_1; clear hn182_2; clear hn182_3; replace p182 := eq_true p182; replace q182 := eq_true q182)); try go_wp2_with (first | ((with_reducible refine gate_dst (N := 12) rfl ?_); refine box_event ?hg (N := 12) ?hd (cs := #[.int .i64 0, .int .i64 0, .int .i64 0, .int .i64 0]) (t := 53) ?hr ?_; (case hd => rfl); (case hg => rfl); (case hr => first | (go_simp; done) | (go_simp; rfl)); intro gb180 hg w25 hbox hb; have n0_ := Aside0.mk (Kd.R_below (by (with_reducible repeat (first | apply Kd.R_alloc | apply Kd.R_drewN | apply Kd.R_drew)); exact HO_6.out) hb); have n1_ := Aside0.mk (Kd.R_below (by (with_reducible repeat (first | apply Kd.R_alloc | apply Kd.R_drewN | apply Kd.R_drew)); exact HO_7.out) hb); have n2_ := Aside0.mk (blk_below (g := gb167) (o := .cells #[.slice (some ad178) l0_0.length c0_0, .slice (some ad179) l0_1.length c0_1, .int .i64 a0_2] 30 (0, 0)) (by (with_reducible repeat (first | refine blk_drewN ?_ _ | refine blk_drew ?_ | refine blk_alloc ?_ _)); exact BK167.out) hb); have n3_ := Aside0.mk (below_step (by repeat (first | (with_reducible first | exact HB.out | apply below_alloc | apply pw_below_drewN | apply below_drew1 | refine below_set ?_ GE167.out) | exact HB.out)) hb); have n4_ := Aside0.mk (hbox); have n5_ := Aside0.mk ((by rw [hg]; exact (below_size (by repeat (first | (with_reducible first | exact HB.out | apply below_alloc | apply pw_below_drewN | apply below_drew1 | refine below_set ?_ GE167.out) | exact HB.out))) : w.heap.size ≤ gb180)); have n6_ := Aside0.mk ((by rw [hg]; exact (below_size (by repeat (first | (with_reducible first | exact HB.out | apply below_alloc | apply pw_below_drewN | apply below_drew1 | refine below_set ?_ GE167.out) | exact HB.out))) : w.heap.size ≤ gb180)); have n7_ := Aside0.mk ((by rw [hg]; exact Nat.ne_of_lt (blk_lt (g := gb167) (o := .cells #[.slice (some ad178) l0_0.length c0_0, .slice (some ad179) l0_1.length c0_1, .int .i64 a0_2] 30 (0, 0)) (by (with_reducible repeat (first | refine blk_drewN ?_ _ | refine blk_drew ?_ | refine blk_alloc ?_ _)); exact BK167.out)) : gb167 ≠ gb180)); have n8_ := Aside0.mk ((by rw [hg]; exact Nat.ne_of_gt (blk_lt (g := gb167) (o := .cells #[.slice (some ad178) l0_0.length c0_0, .slice (some ad179) l0_1.length c0_1, .int .i64 a0_2] 30 (0, 0)) (by (with_reducible repeat (first | refine blk_drewN ?_ _ | refine blk_drew ?_ | refine blk_alloc ?_ _)); exact BK167.out)) : gb180 ≠ gb167)); clear HO_6; clear HO_7; clear BK167; clear HB; have HO_6 := n0_; have HO_7 := n1_; have BK167 := n2_; have HB := n3_; have BK180 := n4_; have GW180 := n5_; have GE180 := n6_; have NB167_180 := n7_; have NB180_167 := n8_; clear n0_ n1_ n2_ n3_ n4_ n5_ n6_ n7_ n8_; clear hb hbox hg; have hnb26 := NB180_167.out; have hnc26 := NB167_180.out; have hcz27_0 : w25.cell? ⟨gb180, 0, none⟩ = some (.int .i64 0) := (blk_cell BK180.out 0).trans rfl; have hcz27_1 : w25.cell? ⟨gb180, 1, none⟩ = some (.int .i64 0) := (blk_cell BK180.out 1).trans rfl; have hcz27_2 : w25.cell? ⟨gb180, 2, none⟩ = some (.int .i64 0) := (blk_cell BK180.out 2).trans rfl; have hcz27_3 : w25.cell? ⟨gb180, 3, none⟩ = some (.int .i64 0) := (blk_cell BK180.out 3).trans rfl; have hfz27_0 := blk_frozen BK180.out 0; have hfz27_1 := blk_frozen BK180.out 1; have hfz27_2 := blk_frozen BK180.out 2; have hfz27_3 := blk_frozen BK180.out 3; obtain ⟨Ao28, co28, eo28⟩ := Kd.R_slice HO_6.out; subst eo28; have p181 : 0 ≤ (((rd_T53 l0_1 x11_3).f0) : Int) := of_decide_eq_true (by first | (with_reducible assumption) | assumption); have q181 : ((rd_T53 l0_1 x11_3).f0) < (x6_2.length : Int) := of_decide_eq_true (by first | (with_reducible assumption) | assumption); obtain ⟨ad181, e181, hx181_0⟩ := Kd.at_int (Kd.R_reads' HO_6.out).2.2 ((rd_T53 l0_1 x11_3).f0) p181 q181; cases e181; have hn181_0 : ad181.block ≠ gb180 := Kd.own_blk (Kd.R_ne HO_6.out BK180.out (by decide)); have hn181_1 : ad181.block ≠ gb180 := Kd.own_blk (Kd.R_ne HO_6.out BK180.out (by decide)); have hn181_2 : ad181.block ≠ gb180 := Kd.own_blk (Kd.R_ne HO_6.out BK180.out (by decide)); have hn181_3 : ad181.block ≠ gb180 := Kd.own_blk (Kd.R_ne HO_6.out BK180.out (by decide)); replace hx181_0 := (cell_far (p := ⟨gb180, 0, none⟩) (by first | (rw [add_block]; exact hn181_0) | (show (Addr.add _ _).block ≠ _; rw [add_block]; exact hn181_0) | exact hn181_0) (.int .i64 ((rd_T53 l0_1 x11_3).f0))).trans hx181_0; replace hx181_0 := (cell_far (p := ⟨gb180, 1, none⟩) (by first | (rw [add_block]; exact hn181_1) | (show (Addr.add _ _).block ≠ _; rw [add_block]; exact hn181_1) | exact hn181_1) (.int .i64 ((rd_T53 l0_1 x11_3).f1))).trans hx181_0; replace hx181_0 := (cell_far (p := ⟨gb180, 2, none⟩) (by first | (rw [add_block]; exact hn181_2) | (show (Addr.add _ _).block ≠ _; rw [add_block]; exact hn181_2) | exact hn181_2) (.int .i64 ((rd_T53 l0_1 x11_3).f2))).trans hx181_0; replace hx181_0 := (cell_far (p := ⟨gb180, 3, none⟩) (by first | (rw [add_block]; exact hn181_3) | (show (Addr.add _ _).block ≠ _; rw [add_block]; exact hn181_3) | exact hn181_3) (.int .i64 ((rd_T53 l0_1 x11_3).f3))).trans hx181_0; (try have hy181_0 := fun (n_ : Nat) => (show ((((((w25.drewN n_).setCell ⟨gb180, 0, none⟩ (.int .i64 ((rd_T53 l0_1 x11_3).f0))).setCell ⟨gb180, 1, none⟩ (.int .i64 ((rd_T53 l0_1 x11_3).f1))).setCell ⟨gb180, 2, none⟩ (.int .i64 ((rd_T53 l0_1 x11_3).f2))).setCell ⟨gb180, 3, none⟩ (.int .i64 ((rd_T53 l0_1 x11_3).f3)))).cell? _ = some _ from hx181_0)); clear hn181_0; clear hn181_1; clear hn181_2; clear hn181_3; replace p181 := eq_true p181; replace q181 := eq_true q181; have p182 : 0 ≤ (((rd_T53 l0_1 x11_3).f0) : Int) := of_decide_eq_true (by first | (with_reducible assumption) | assumption); have q182 : ((rd_T53 l0_1 x11_3).f0) < (x6_2.length : Int) := of_decide_eq_true (by first | (with_reducible assumption) | assumption); obtain ⟨ad182, e182, hx182_0⟩ := Kd.at_int (Kd.R_reads' HO_6.out).2.2 ((rd_T53 l0_1 x11_3).f0) p182 q182; obtain rfl : ad181 = ad182 := (by injection e182); have hn182_0 : ad181.block ≠ gb180 := Kd.own_blk (Kd.R_ne HO_6.out BK180.out (by decide)); have hn182_1 : ad181.block ≠ gb180 := Kd.own_blk (Kd.R_ne HO_6.out BK180.out (by decide)); have hn182_2 : ad181.block ≠ gb180 := Kd.own_blk (Kd.R_ne HO_6.out BK180.out (by decide)); have hn182_3 : ad181.block ≠ gb180 := Kd.own_blk (Kd.R_ne HO_6.out BK180.out (by decide)); replace hx182_0 := (cell_far (p := ⟨gb180, 0, none⟩) (by first | (rw [add_block]; exact hn182_0) | (show (Addr.add _ _).block ≠ _; rw [add_block]; exact hn182_0) | exact hn182_0) (.int .i64 ((rd_T53 l0_1 x11_3).f0))).trans hx182_0; replace hx182_0 := (cell_far (p := ⟨gb180, 1, none⟩) (by first | (rw [add_block]; exact hn182_1) | (show (Addr.add _ _).block ≠ _; rw [add_block]; exact hn182_1) | exact hn182_1) (.int .i64 ((rd_T53 l0_1 x11_3).f1))).trans hx182_0; replace hx182_0 := (cell_far (p := ⟨gb180, 2, none⟩) (by first | (rw [add_block]; exact hn182_2) | (show (Addr.add _ _).block ≠ _; rw [add_block]; exact hn182_2) | exact hn182_2) (.int .i64 ((rd_T53 l0_1 x11_3).f2))).trans hx182_0; replace hx182_0 := (cell_far (p := ⟨gb180, 3, none⟩) (by first | (rw [add_block]; exact hn182_3) | (show (Addr.add _ _).block ≠ _; rw [add_block]; exact hn182_3) | exact hn182_3) (.int .i64 ((rd_T53 l0_1 x11_3).f3))).trans hx182_0; (try have hy182_0 := fun (n_ : Nat) => (show ((((((w25.drewN n_).setCell ⟨gb180, 0, none⟩ (.int .i64 ((rd_T53 l0_1 x11_3).f0))).setCell ⟨gb180, 1, none⟩ (.int .i64 ((rd_T53 l0_1 x11_3).f1))).setCell ⟨gb180, 2, none⟩ (.int .i64 ((rd_T53 l0_1 x11_3).f2))).setCell ⟨gb180, 3, none⟩ (.int .i64 ((rd_T53 l0_1 x11_3).f3)))).cell? _ = some _ from hx182_0)); clear hn182_0; clear hn182_1; clear hn182_2; clear hn182_3; replace p182 := eq_true p182; replace q182 := eq_true q182)))
                 go_roundg k3
                 case measure => have := HK1.out; have := HK2.out; have := HK3.out; omega
                 case rel => exact ⟨(wrap64 ((rd x6_2 ((rd_T53 l0_1 x11_3).f0)) + ((rd_T53 l0_1 x11_3).f2))), (wrap64 (x11_3 + 1)), (by first | rfl | (simp; done) | (simp [*]; done)), (by first | rfl | (simp; done) | (simp [*]; done)), H', ⟨by have := HK1.out; have := HK2.out; have := HK3.out; omega⟩, ⟨by (with_reducible repeat (first | apply Kd.R_alloc | apply Kd.R_drewN | apply Kd.R_drew)); exact Kd.R_mono (Kd.R_far (p := ⟨gb180, 3, none⟩) (Kd.R_far (p := ⟨gb180, 2, none⟩) (Kd.R_far (p := ⟨gb180, 1, none⟩) (Kd.R_far (p := ⟨gb180, 0, none⟩) (Kd.R_types HO_6.out BK180.out (by decide)) (fun _ hk => hk.2) (.int .i64 ((rd_T53 l0_1 x11_3).f0))) (fun _ hk => hk.2) (.int .i64 ((rd_T53 l0_1 x11_3).f1))) (fun _ hk => hk.2) (.int .i64 ((rd_T53 l0_1 x11_3).f2))) (fun _ hk => hk.2) (.int .i64 ((rd_T53 l0_1 x11_3).f3))) (fun _ hk => trivial)⟩, ⟨by (with_reducible repeat (first | apply Kd.R_alloc | apply Kd.R_drewN | apply Kd.R_drew)); exact Kd.R_mono (Kd.R_far (p := ⟨gb180, 3, none⟩) (Kd.R_far (p := ⟨gb180, 2, none⟩) (Kd.R_far (p := ⟨gb180, 1, none⟩) (Kd.R_far (p := ⟨gb180, 0, none⟩) (Kd.R_types HO_7.out BK180.out (by decide)) (fun _ hk => hk.2) (.int .i64 ((rd_T53 l0_1 x11_3).f0))) (fun _ hk => hk.2) (.int .i64 ((rd_T53 l0_1 x11_3).f1))) (fun _ hk => hk.2) (.int .i64 ((rd_T53 l0_1 x11_3).f2))) (fun _ hk => hk.2) (.int .i64 ((rd_T53 l0_1 x11_3).f3))) (fun _ hk => trivial)⟩, ⟨by (with_reducible repeat (first | refine blk_drewN ?_ _ | refine blk_drew ?_ | refine blk_alloc ?_ _)); refine blk_far ?_ NB167_180.out _; (with_reducible repeat (first | refine blk_drewN ?_ _ | refine blk_drew ?_ | refine blk_alloc ?_ _)); refine blk_far ?_ NB167_180.out _; (with_reducible repeat (first | refine blk_drewN ?_ _ | refine blk_drew ?_ | refine blk_alloc ?_ _)); refine blk_far ?_ NB167_180.out _; (with_reducible repeat (first | refine blk_drewN ?_ _ | refine blk_drew ?_ | refine blk_alloc ?_ _)); refine blk_far ?_ NB167_180.out _; (with_reducible repeat (first | refine blk_drewN ?_ _ | refine blk_drew ?_ | refine blk_alloc ?_ _)); exact BK167.out⟩, ⟨by repeat (first | (with_reducible first | exact HB.out | apply below_alloc | apply pw_below_drewN | apply below_drew1 | refine below_set ?_ GE167.out | refine below_set ?_ GE180.out) | exact HB.out)⟩⟩
                ·
                 rw [if_neg c23] at H
                 have c23b0 : decide (x10_3 < (wrap64 ((rd x6_2 ((rd_T53 l0_1 x11_3).f0)) + ((rd_T53 l0_1 x11_3).f2)))) = false := decide_eq_false c23
                 clear c23
                 have H' := Aside0.mk H
                 clear H
                 have hcz29_0 : wr.cell? ⟨gb167, 0, none⟩ = some (.slice (some ad178) l0_0.length c0_0) := (blk_cell BK167.out 0).trans rfl
                 have hcz29_1 : wr.cell? ⟨gb167, 1, none⟩ = some (.slice A0_1 l0_1.length c0_1) := (blk_cell BK167.out 1).trans rfl
                 have hcz29_2 : wr.cell? ⟨gb167, 2, none⟩ = some (.int .i64 a0_2) := (blk_cell BK167.out 2).trans rfl
                 have hfz29_0 := blk_frozen BK167.out 0
                 have hfz29_1 := blk_frozen BK167.out 1
                 have hfz29_2 := blk_frozen BK167.out 2
                 have p179 : 0 ≤ (x11_3 : Int) := of_decide_eq_true (by first | (with_reducible assumption) | assumption)
                 have q179 : x11_3 < (l0_1.length : Int) := of_decide_eq_true (by first | (with_reducible assumption) | assumption)
                 obtain ⟨ad179, e179, hx179_0, hx179_1, hx179_2, hx179_3⟩ := at_T53 HR0_1.out x11_3 p179 q179
                 cases e179
                 replace hx179_0 := (HB.out.cell (World.block_lt_of_cell? w _ hx179_0)).trans hx179_0
                 replace hx179_1 := (HB.out.cell (World.block_lt_of_cell? w _ hx179_1)).trans hx179_1
                 replace hx179_2 := (HB.out.cell (World.block_lt_of_cell? w _ hx179_2)).trans hx179_2
                 replace hx179_3 := (HB.out.cell (World.block_lt_of_cell? w _ hx179_3)).trans hx179_3
                 replace p179 := eq_true p179
                 replace q179 := eq_true q179
                 go_wp2_with (first | ((with_reducible refine gate_dst (N := 12) rfl ?_); refine box_event ?hg (N := 12) ?hd (cs := #[.int .i64 0, .int .i64 0, .int .i64 0, .int .i64 0]) (t := 53) ?hr ?_; (case hd => rfl); (case hg => rfl); (case hr => first | (go_simp; done) | (go_simp; rfl)); intro gb180 hg w30 hbox hb; have n0_ := Aside0.mk (Kd.R_below (by (with_reducible repeat (first | apply Kd.R_alloc | apply Kd.R_drewN | apply Kd.R_drew)); exact HO_6.out) hb); have n1_ := Aside0.mk (Kd.R_below (by (with_reducible repeat (first | apply Kd.R_alloc | apply Kd.R_drewN | apply Kd.R_drew)); exact HO_7.out) hb); have n2_ := Aside0.mk (blk_below (g := gb167) (o := .cells #[.slice (some ad178) l0_0.length c0_0, .slice (some ad179) l0_1.length c0_1, .int .i64 a0_2] 30 (0, 0)) (by (with_reducible repeat (first | refine blk_drewN ?_ _ | refine blk_drew ?_ | refine blk_alloc ?_ _)); exact BK167.out) hb); have n3_ := Aside0.mk (below_step (by repeat (first | (with_reducible first | exact HB.out | apply below_alloc | apply pw_below_drewN | apply below_drew1 | refine below_set ?_ GE167.out) | exact HB.out)) hb); have n4_ := Aside0.mk (hbox); have n5_ := Aside0.mk ((by rw [hg]; exact (below_size (by repeat (first | (with_reducible first | exact HB.out | apply below_alloc | apply pw_below_drewN | apply below_drew1 | refine below_set ?_ GE167.out) | exact HB.out))) : w.heap.size ≤ gb180)); have n6_ := Aside0.mk ((by rw [hg]; exact (below_size (by repeat (first | (with_reducible first | exact HB.out | apply below_alloc | apply pw_below_drewN | apply below_drew1 | refine below_set ?_ GE167.out) | exact HB.out))) : w.heap.size ≤ gb180)); have n7_ := Aside0.mk ((by rw [hg]; exact Nat.ne_of_lt (blk_lt (g := gb167) (o := .cells #[.slice (some ad178) l0_0.length c0_0, .slice (some ad179) l0_1.length c0_1, .int .i64 a0_2] 30 (0, 0)) (by (with_reducible repeat (first | refine blk_drewN ?_ _ | refine blk_drew ?_ | refine blk_alloc ?_ _)); exact BK167.out)) : gb167 ≠ gb180)); have n8_ := Aside0.mk ((by rw [hg]; exact Nat.ne_of_gt (blk_lt (g := gb167) (o := .cells #[.slice (some ad178) l0_0.length c0_0, .slice (some ad179) l0_1.length c0_1, .int .i64 a0_2] 30 (0, 0)) (by (with_reducible repeat (first | refine blk_drewN ?_ _ | refine blk_drew ?_ | refine blk_alloc ?_ _)); exact BK167.out)) : gb180 ≠ gb167)); clear HO_6; clear HO_7; clear BK167; clear HB; have HO_6 := n0_; have HO_7 := n1_; have BK167 := n2_; have HB := n3_; have BK180 := n4_; have GW180 := n5_; have GE180 := n6_; have NB167_180 := n7_; have NB180_167 := n8_; clear n0_ n1_ n2_ n3_ n4_ n5_ n6_ n7_ n8_; clear hb hbox hg; have hnb31 := NB180_167.out; have hnc31 := NB167_180.out; have hcz32_0 : w30.cell? ⟨gb180, 0, none⟩ = some (.int .i64 0) := (blk_cell BK180.out 0).trans rfl; have hcz32_1 : w30.cell? ⟨gb180, 1, none⟩ = some (.int .i64 0) := (blk_cell BK180.out 1).trans rfl; have hcz32_2 : w30.cell? ⟨gb180, 2, none⟩ = some (.int .i64 0) := (blk_cell BK180.out 2).trans rfl; have hcz32_3 : w30.cell? ⟨gb180, 3, none⟩ = some (.int .i64 0) := (blk_cell BK180.out 3).trans rfl; have hfz32_0 := blk_frozen BK180.out 0; have hfz32_1 := blk_frozen BK180.out 1; have hfz32_2 := blk_frozen BK180.out 2; have hfz32_3 := blk_frozen BK180.out 3; obtain ⟨Ao33, co33, eo33⟩ := Kd.R_slice HO_6.out; subst eo33; have p181 : 0 ≤ (((rd_T53 l0_1 x11_3).f0) : Int) := of_decide_eq_true (by first | (with_reducible assumption) | assumption); have q181 : ((rd_T53 l0_1 x11_3).f0) < (x6_2.length : Int) := of_decide_eq_true (by first | (with_reducible assumption) | assumption); obtain ⟨ad181, e181, hx181_0⟩ := Kd.at_int (Kd.R_reads' HO_6.out).2.2 ((rd_T53 l0_1 x11_3).f0) p181 q181; cases e181; have hn181_0 : ad181.block ≠ gb180 := Kd.own_blk (Kd.R_ne HO_6.out BK180.out (by decide)); have hn181_1 : ad181.block ≠ gb180 := Kd.own_blk (Kd.R_ne HO_6.out BK180.out (by decide)); have hn181_2 : ad181.block ≠ gb180 := Kd.own_blk (Kd.R_ne HO_6.out BK180.out (by decide)); have hn181_3 : ad181.block ≠ gb180 := Kd.own_blk (Kd.R_ne HO_6.out BK180.out (by decide)); replace hx181_0 := (cell_far (p := ⟨gb180, 0, none⟩) (by first | (rw [add_block]; exact hn181_0) | (show (Addr.add _ _).block ≠ _; rw [add_block]; exact hn181_0) | exact hn181_0) (.int .i64 ((rd_T53 l0_1 x11_3).f0))).trans hx181_0; replace hx181_0 := (cell_far (p := ⟨gb180, 1, none⟩) (by first | (rw [add_block]; exact hn181_1) | (show (Addr.add _ _).block ≠ _; rw [add_block]; exact hn181_1) | exact hn181_1) (.int .i64 ((rd_T53 l0_1 x11_3).f1))).trans hx181_0; replace hx181_0 := (cell_far (p := ⟨gb180, 2, none⟩) (by first | (rw [add_block]; exact hn181_2) | (show (Addr.add _ _).block ≠ _; rw [add_block]; exact hn181_2) | exact hn181_2) (.int .i64 ((rd_T53 l0_1 x11_3).f2))).trans hx181_0; replace hx181_0 := (cell_far (p := ⟨gb180, 3, none⟩) (by first | (rw [add_block]; exact hn181_3) | (show (Addr.add _ _).block ≠ _; rw [add_block]; exact hn181_3) | exact hn181_3) (.int .i64 ((rd_T53 l0_1 x11_3).f3))).trans hx181_0; (try have hy181_0 := fun (n_ : Nat) => (show ((((((w30.drewN n_).setCell ⟨gb180, 0, none⟩ (.int .i64 ((rd_T53 l0_1 x11_3).f0))).setCell ⟨gb180, 1, none⟩ (.int .i64 ((rd_T53 l0_1 x11_3).f1))).setCell ⟨gb180, 2, none⟩ (.int .i64 ((rd_T53 l0_1 x11_3).f2))).setCell ⟨gb180, 3, none⟩ (.int .i64 ((rd_T53 l0_1 x11_3).f3)))).cell? _ = some _ from hx181_0)); clear hn181_0; clear hn181_1; clear hn181_2; clear hn181_3; replace p181 := eq_true p181; replace q181 := eq_true q181))
                 repeat (go_quiet (first | ((with_reducible refine gate_dst (N := 12) rfl ?_); refine box_event ?hg (N := 12) ?hd (cs := #[.int .i64 0, .int .i64 0, .int .i64 0, .int .i64 0]) (t := 53) ?hr ?_; (case hd => rfl); (case hg => rfl); (case hr => first | (go_simp; done) | (go_simp; rfl)); intro gb180 hg w30 hbox hb; have n0_ := Aside0.mk (Kd.R_below (by (with_reducible repeat (first | apply Kd.R_alloc | apply Kd.R_drewN | apply Kd.R_drew)); exact HO_6.out) hb); have n1_ := Aside0.mk (Kd.R_below (by (with_reducible repeat (first | apply Kd.R_alloc | apply Kd.R_drewN | apply Kd.R_drew)); exact HO_7.out) hb); have n2_ := Aside0.mk (blk_below (g := gb167) (o := .cells #[.slice (some ad178) l0_0.length c0_0, .slice (some ad179) l0_1.length c0_1, .int .i64 a0_2] 30 (0, 0)) (by (with_reducible repeat (first | refine blk_drewN ?_ _ | refine blk_drew ?_ | refine blk_alloc ?_ _)); exact BK167.out) hb); have n3_ := Aside0.mk (below_step (by repeat (first | (with_reducible first | exact HB.out | apply below_alloc | apply pw_below_drewN | apply below_drew1 | refine below_set ?_ GE167.out) | exact HB.out)) hb); have n4_ := Aside0.mk (hbox); have n5_ := Aside0.mk ((by rw [hg]; exact (below_size (by repeat (first | (with_reducible first | exact HB.out | apply below_alloc | apply pw_below_drewN | apply below_drew1 | refine below_set ?_ GE167.out) | exact HB.out))) : w.heap.size ≤ gb180)); have n6_ := Aside0.mk ((by rw [hg]; exact (below_size (by repeat (first | (with_reducible first | exact HB.out | apply below_alloc | apply pw_below_drewN | apply below_drew1 | refine below_set ?_ GE167.out) | exact HB.out))) : w.heap.size ≤ gb180)); have n7_ := Aside0.mk ((by rw [hg]; exact Nat.ne_of_lt (blk_lt (g := gb167) (o := .cells #[.slice (some ad178) l0_0.length c0_0, .slice (some ad179) l0_1.length c0_1, .int .i64 a0_2] 30 (0, 0)) (by (with_reducible repeat (first | refine blk_drewN ?_ _ | refine blk_drew ?_ | refine blk_alloc ?_ _)); exact BK167.out)) : gb167 ≠ gb180)); have n8_ := Aside0.mk ((by rw [hg]; exact Nat.ne_of_gt (blk_lt (g := gb167) (o := .cells #[.slice (some ad178) l0_0.length c0_0, .slice (some ad179) l0_1.length c0_1, .int .i64 a0_2] 30 (0, 0)) (by (with_reducible repeat (first | refine blk_drewN ?_ _ | refine blk_drew ?_ | refine blk_alloc ?_ _)); exact BK167.out)) : gb180 ≠ gb167)); clear HO_6; clear HO_7; clear BK167; clear HB; have HO_6 := n0_; have HO_7 := n1_; have BK167 := n2_; have HB := n3_; have BK180 := n4_; have GW180 := n5_; have GE180 := n6_; have NB167_180 := n7_; have NB180_167 := n8_; clear n0_ n1_ n2_ n3_ n4_ n5_ n6_ n7_ n8_; clear hb hbox hg; have hnb31 := NB180_167.out; have hnc31 := NB167_180.out; have hcz32_0 : w30.cell? ⟨gb180, 0, none⟩ = some (.int .i64 0) := (blk_cell BK180.out 0).trans rfl; have hcz32_1 : w30.cell? ⟨gb180, 1, none⟩ = some (.int .i64 0) := (blk_cell BK180.out 1).trans rfl; have hcz32_2 : w30.cell? ⟨gb180, 2, none⟩ = some (.int .i64 0) := (blk_cell BK180.out 2).trans rfl; have hcz32_3 : w30.cell? ⟨gb180, 3, none⟩ = some (.int .i64 0) := (blk_cell BK180.out 3).trans rfl; have hfz32_0 := blk_frozen BK180.out 0; have hfz32_1 := blk_frozen BK180.out 1; have hfz32_2 := blk_frozen BK180.out 2; have hfz32_3 := blk_frozen BK180.out 3; obtain ⟨Ao33, co33, eo33⟩ := Kd.R_slice HO_6.out; subst eo33; have p181 : 0 ≤ (((rd_T53 l0_1 x11_3).f0) : Int) := of_decide_eq_true (by first | (with_reducible assumption) | assumption); have q181 : ((rd_T53 l0_1 x11_3).f0) < (x6_2.length : Int) := of_decide_eq_true (by first | (with_reducible assumption) | assumption); obtain ⟨ad181, e181, hx181_0⟩ := Kd.at_int (Kd.R_reads' HO_6.out).2.2 ((rd_T53 l0_1 x11_3).f0) p181 q181; cases e181; have hn181_0 : ad181.block ≠ gb180 := Kd.own_blk (Kd.R_ne HO_6.out BK180.out (by decide)); have hn181_1 : ad181.block ≠ gb180 := Kd.own_blk (Kd.R_ne HO_6.out BK180.out (by decide)); have hn181_2 : ad181.block ≠ gb180 := Kd.own_blk (Kd.R_ne HO_6.out BK180.out (by decide)); have hn181_3 : ad181.block ≠ gb180 := Kd.own_blk (Kd.R_ne HO_6.out BK180.out (by decide)); replace hx181_0 := (cell_far (p := ⟨gb180, 0, none⟩) (by first | (rw [add_block]; exact hn181_0) | (show (Addr.add _ _).block ≠ _; rw [add_block]; exact hn181_0) | exact hn181_0) (.int .i64 ((rd_T53 l0_1 x11_3).f0))).trans hx181_0; replace hx181_0 := (cell_far (p := ⟨gb180, 1, none⟩) (by first | (rw [add_block]; exact hn181_1) | (show (Addr.add _ _).block ≠ _; rw [add_block]; exact hn181_1) | exact hn181_1) (.int .i64 ((rd_T53 l0_1 x11_3).f1))).trans hx181_0; replace hx181_0 := (cell_far (p := ⟨gb180, 2, none⟩) (by first | (rw [add_block]; exact hn181_2) | (show (Addr.add _ _).block ≠ _; rw [add_block]; exact hn181_2) | exact hn181_2) (.int .i64 ((rd_T53 l0_1 x11_3).f2))).trans hx181_0; replace hx181_0 := (cell_far (p := ⟨gb180, 3, none⟩) (by first | (rw [add_block]; exact hn181_3) | (show (Addr.add _ _).block ≠ _; rw [add_block]; exact hn181_3) | exact hn181_3) (.int .i64 ((rd_T53 l0_1 x11_3).f3))).trans hx181_0; (try have hy181_0 := fun (n_ : Nat) => (show ((((((w30.drewN n_).setCell ⟨gb180, 0, none⟩ (.int .i64 ((rd_T53 l0_1 x11_3).f0))).setCell ⟨gb180, 1, none⟩ (.int .i64 ((rd_T53 l0_1 x11_3).f1))).setCell ⟨gb180, 2, none⟩ (.int .i64 ((rd_T53 l0_1 x11_3).f2))).setCell ⟨gb180, 3, none⟩ (.int .i64 ((rd_T53 l0_1 x11_3).f3)))).cell? _ = some _ from hx181_0)); clear hn181_0; clear hn181_1; clear hn181_2; clear hn181_3; replace p181 := eq_true p181; replace q181 := eq_true q181)); try go_wp2_with (first | ((with_reducible refine gate_dst (N := 12) rfl ?_); refine box_event ?hg (N := 12) ?hd (cs := #[.int .i64 0, .int .i64 0, .int .i64 0, .int .i64 0]) (t := 53) ?hr ?_; (case hd => rfl); (case hg => rfl); (case hr => first | (go_simp; done) | (go_simp; rfl)); intro gb180 hg w30 hbox hb; have n0_ := Aside0.mk (Kd.R_below (by (with_reducible repeat (first | apply Kd.R_alloc | apply Kd.R_drewN | apply Kd.R_drew)); exact HO_6.out) hb); have n1_ := Aside0.mk (Kd.R_below (by (with_reducible repeat (first | apply Kd.R_alloc | apply Kd.R_drewN | apply Kd.R_drew)); exact HO_7.out) hb); have n2_ := Aside0.mk (blk_below (g := gb167) (o := .cells #[.slice (some ad178) l0_0.length c0_0, .slice (some ad179) l0_1.length c0_1, .int .i64 a0_2] 30 (0, 0)) (by (with_reducible repeat (first | refine blk_drewN ?_ _ | refine blk_drew ?_ | refine blk_alloc ?_ _)); exact BK167.out) hb); have n3_ := Aside0.mk (below_step (by repeat (first | (with_reducible first | exact HB.out | apply below_alloc | apply pw_below_drewN | apply below_drew1 | refine below_set ?_ GE167.out) | exact HB.out)) hb); have n4_ := Aside0.mk (hbox); have n5_ := Aside0.mk ((by rw [hg]; exact (below_size (by repeat (first | (with_reducible first | exact HB.out | apply below_alloc | apply pw_below_drewN | apply below_drew1 | refine below_set ?_ GE167.out) | exact HB.out))) : w.heap.size ≤ gb180)); have n6_ := Aside0.mk ((by rw [hg]; exact (below_size (by repeat (first | (with_reducible first | exact HB.out | apply below_alloc | apply pw_below_drewN | apply below_drew1 | refine below_set ?_ GE167.out) | exact HB.out))) : w.heap.size ≤ gb180)); have n7_ := Aside0.mk ((by rw [hg]; exact Nat.ne_of_lt (blk_lt (g := gb167) (o := .cells #[.slice (some ad178) l0_0.length c0_0, .slice (some ad179) l0_1.length c0_1, .int .i64 a0_2] 30 (0, 0)) (by (with_reducible repeat (first | refine blk_drewN ?_ _ | refine blk_drew ?_ | refine blk_alloc ?_ _)); exact BK167.out)) : gb167 ≠ gb180)); have n8_ := Aside0.mk ((by rw [hg]; exact Nat.ne_of_gt (blk_lt (g := gb167) (o := .cells #[.slice (some ad178) l0_0.length c0_0, .slice (some ad179) l0_1.length c0_1, .int .i64 a0_2] 30 (0, 0)) (by (with_reducible repeat (first | refine blk_drewN ?_ _ | refine blk_drew ?_ | refine blk_alloc ?_ _)); exact BK167.out)) : gb180 ≠ gb167)); clear HO_6; clear HO_7; clear BK167; clear HB; have HO_6 := n0_; have HO_7 := n1_; have BK167 := n2_; have HB := n3_; have BK180 := n4_; have GW180 := n5_; have GE180 := n6_; have NB167_180 := n7_; have NB180_167 := n8_; clear n0_ n1_ n2_ n3_ n4_ n5_ n6_ n7_ n8_; clear hb hbox hg; have hnb31 := NB180_167.out; have hnc31 := NB167_180.out; have hcz32_0 : w30.cell? ⟨gb180, 0, none⟩ = some (.int .i64 0) := (blk_cell BK180.out 0).trans rfl; have hcz32_1 : w30.cell? ⟨gb180, 1, none⟩ = some (.int .i64 0) := (blk_cell BK180.out 1).trans rfl; have hcz32_2 : w30.cell? ⟨gb180, 2, none⟩ = some (.int .i64 0) := (blk_cell BK180.out 2).trans rfl; have hcz32_3 : w30.cell? ⟨gb180, 3, none⟩ = some (.int .i64 0) := (blk_cell BK180.out 3).trans rfl; have hfz32_0 := blk_frozen BK180.out 0; have hfz32_1 := blk_frozen BK180.out 1; have hfz32_2 := blk_frozen BK180.out 2; have hfz32_3 := blk_frozen BK180.out 3; obtain ⟨Ao33, co33, eo33⟩ := Kd.R_slice HO_6.out; subst eo33; have p181 : 0 ≤ (((rd_T53 l0_1 x11_3).f0) : Int) := of_decide_eq_true (by first | (with_reducible assumption) | assumption); have q181 : ((rd_T53 l0_1 x11_3).f0) < (x6_2.length : Int) := of_decide_eq_true (by first | (with_reducible assumption) | assumption); obtain ⟨ad181, e181, hx181_0⟩ := Kd.at_int (Kd.R_reads' HO_6.out).2.2 ((rd_T53 l0_1 x11_3).f0) p181 q181; cases e181; have hn181_0 : ad181.block ≠ gb180 := Kd.own_blk (Kd.R_ne HO_6.out BK180.out (by decide)); have hn181_1 : ad181.block ≠ gb180 := Kd.own_blk (Kd.R_ne HO_6.out BK180.out (by decide)); have hn181_2 : ad181.block ≠ gb180 := Kd.own_blk (Kd.R_ne HO_6.out BK180.out (by decide)); have hn181_3 : ad181.block ≠ gb180 := Kd.own_blk (Kd.R_ne HO_6.out BK180.out (by decide)); replace hx181_0 := (cell_far (p := ⟨gb180, 0, none⟩) (by first | (rw [add_block]; exact hn181_0) | (show (Addr.add _ _).block ≠ _; rw [add_block]; exact hn181_0) | exact hn181_0) (.int .i64 ((rd_T53 l0_1 x11_3).f0))).trans hx181_0; replace hx181_0 := (cell_far (p := ⟨gb180, 1, none⟩) (by first | (rw [add_block]; exact hn181_1) | (show (Addr.add _ _).block ≠ _; rw [add_block]; exact hn181_1) | exact hn181_1) (.int .i64 ((rd_T53 l0_1 x11_3).f1))).trans hx181_0; replace hx181_0 := (cell_far (p := ⟨gb180, 2, none⟩) (by first | (rw [add_block]; exact hn181_2) | (show (Addr.add _ _).block ≠ _; rw [add_block]; exact hn181_2) | exact hn181_2) (.int .i64 ((rd_T53 l0_1 x11_3).f2))).trans hx181_0; replace hx181_0 := (cell_far (p := ⟨gb180, 3, none⟩) (by first | (rw [add_block]; exact hn181_3) | (show (Addr.add _ _).block ≠ _; rw [add_block]; exact hn181_3) | exact hn181_3) (.int .i64 ((rd_T53 l0_1 x11_3).f3))).trans hx181_0; (try have hy181_0 := fun (n_ : Nat) => (show ((((((w30.drewN n_).setCell ⟨gb180, 0, none⟩ (.int .i64 ((rd_T53 l0_1 x11_3).f0))).setCell ⟨gb180, 1, none⟩ (.int .i64 ((rd_T53 l0_1 x11_3).f1))).setCell ⟨gb180, 2, none⟩ (.int .i64 ((rd_T53 l0_1 x11_3).f2))).setCell ⟨gb180, 3, none⟩ (.int .i64 ((rd_T53 l0_1 x11_3).f3)))).cell? _ = some _ from hx181_0)); clear hn181_0; clear hn181_1; clear hn181_2; clear hn181_3; replace p181 := eq_true p181; replace q181 := eq_true q181)))
                 go_roundg k3
                 case measure => have := HK1.out; have := HK2.out; have := HK3.out; omega
                 case rel => exact ⟨(x10_3), (wrap64 (x11_3 + 1)), (by first | rfl | (simp; done) | (simp [*]; done)), (by first | rfl | (simp; done) | (simp [*]; done)), H', ⟨by have := HK1.out; have := HK2.out; have := HK3.out; omega⟩, ⟨by (with_reducible repeat (first | apply Kd.R_alloc | apply Kd.R_drewN | apply Kd.R_drew)); exact Kd.R_mono (Kd.R_far (p := ⟨gb180, 3, none⟩) (Kd.R_far (p := ⟨gb180, 2, none⟩) (Kd.R_far (p := ⟨gb180, 1, none⟩) (Kd.R_far (p := ⟨gb180, 0, none⟩) (Kd.R_types HO_6.out BK180.out (by decide)) (fun _ hk => hk.2) (.int .i64 ((rd_T53 l0_1 x11_3).f0))) (fun _ hk => hk.2) (.int .i64 ((rd_T53 l0_1 x11_3).f1))) (fun _ hk => hk.2) (.int .i64 ((rd_T53 l0_1 x11_3).f2))) (fun _ hk => hk.2) (.int .i64 ((rd_T53 l0_1 x11_3).f3))) (fun _ hk => trivial)⟩, ⟨by (with_reducible repeat (first | apply Kd.R_alloc | apply Kd.R_drewN | apply Kd.R_drew)); exact Kd.R_mono (Kd.R_far (p := ⟨gb180, 3, none⟩) (Kd.R_far (p := ⟨gb180, 2, none⟩) (Kd.R_far (p := ⟨gb180, 1, none⟩) (Kd.R_far (p := ⟨gb180, 0, none⟩) (Kd.R_types HO_7.out BK180.out (by decide)) (fun _ hk => hk.2) (.int .i64 ((rd_T53 l0_1 x11_3).f0))) (fun _ hk => hk.2) (.int .i64 ((rd_T53 l0_1 x11_3).f1))) (fun _ hk => hk.2) (.int .i64 ((rd_T53 l0_1 x11_3).f2))) (fun _ hk => hk.2) (.int .i64 ((rd_T53 l0_1 x11_3).f3))) (fun _ hk => trivial)⟩, ⟨by (with_reducible repeat (first | refine blk_drewN ?_ _ | refine blk_drew ?_ | refine blk_alloc ?_ _)); refine blk_far ?_ NB167_180.out _; (with_reducible repeat (first | refine blk_drewN ?_ _ | refine blk_drew ?_ | refine blk_alloc ?_ _)); refine blk_far ?_ NB167_180.out _; (with_reducible repeat (first | refine blk_drewN ?_ _ | refine blk_drew ?_ | refine blk_alloc ?_ _)); refine blk_far ?_ NB167_180.out _; (with_reducible repeat (first | refine blk_drewN ?_ _ | refine blk_drew ?_ | refine blk_alloc ?_ _)); refine blk_far ?_ NB167_180.out _; (with_reducible repeat (first | refine blk_drewN ?_ _ | refine blk_drew ?_ | refine blk_alloc ?_ _)); exact BK167.out⟩, ⟨by repeat (first | (with_reducible first | exact HB.out | apply below_alloc | apply pw_below_drewN | apply below_drew1 | refine below_set ?_ GE167.out | refine below_set ?_ GE180.out) | exact HB.out)⟩⟩
               ·
                rw [if_neg c22] at H
                exact absurd H (by simp)
              ·
               rw [if_neg c21] at H
               exact absurd H (by simp)
             ·
              rw [if_neg c20] at H
              have c20b0 : (((rd_T53 l0_1 x11_3).f3) == 0) = false := beq_eq_false_iff_ne.mpr c20
              have c20b1 : (((rd_T53 l0_1 x11_3).f3) != 0) = true := bne_iff_ne.mpr c20
              have H' := Aside0.mk H
              clear H
              have hcz34_0 : wr.cell? ⟨gb167, 0, none⟩ = some (.slice (some ad178) l0_0.length c0_0) := (blk_cell BK167.out 0).trans rfl
              have hcz34_1 : wr.cell? ⟨gb167, 1, none⟩ = some (.slice A0_1 l0_1.length c0_1) := (blk_cell BK167.out 1).trans rfl
              have hcz34_2 : wr.cell? ⟨gb167, 2, none⟩ = some (.int .i64 a0_2) := (blk_cell BK167.out 2).trans rfl
              have hfz34_0 := blk_frozen BK167.out 0
              have hfz34_1 := blk_frozen BK167.out 1
              have hfz34_2 := blk_frozen BK167.out 2
              have p179 : 0 ≤ (x11_3 : Int) := of_decide_eq_true (by first | (with_reducible assumption) | assumption)
              have q179 : x11_3 < (l0_1.length : Int) := of_decide_eq_true (by first | (with_reducible assumption) | assumption)
              obtain ⟨ad179, e179, hx179_0, hx179_1, hx179_2, hx179_3⟩ := at_T53 HR0_1.out x11_3 p179 q179
              cases e179
              replace hx179_0 := (HB.out.cell (World.block_lt_of_cell? w _ hx179_0)).trans hx179_0
              replace hx179_1 := (HB.out.cell (World.block_lt_of_cell? w _ hx179_1)).trans hx179_1
              replace hx179_2 := (HB.out.cell (World.block_lt_of_cell? w _ hx179_2)).trans hx179_2
              replace hx179_3 := (HB.out.cell (World.block_lt_of_cell? w _ hx179_3)).trans hx179_3
              replace p179 := eq_true p179
              replace q179 := eq_true q179
              go_wp2_with (first | ((with_reducible refine gate_dst (N := 12) rfl ?_); refine box_event ?hg (N := 12) ?hd (cs := #[.int .i64 0, .int .i64 0, .int .i64 0, .int .i64 0]) (t := 53) ?hr ?_; (case hd => rfl); (case hg => rfl); (case hr => first | (go_simp; done) | (go_simp; rfl)); intro gb180 hg w35 hbox hb; have n0_ := Aside0.mk (Kd.R_below (by (with_reducible repeat (first | apply Kd.R_alloc | apply Kd.R_drewN | apply Kd.R_drew)); exact HO_6.out) hb); have n1_ := Aside0.mk (Kd.R_below (by (with_reducible repeat (first | apply Kd.R_alloc | apply Kd.R_drewN | apply Kd.R_drew)); exact HO_7.out) hb); have n2_ := Aside0.mk (blk_below (g := gb167) (o := .cells #[.slice (some ad178) l0_0.length c0_0, .slice (some ad179) l0_1.length c0_1, .int .i64 a0_2] 30 (0, 0)) (by (with_reducible repeat (first | refine blk_drewN ?_ _ | refine blk_drew ?_ | refine blk_alloc ?_ _)); exact BK167.out) hb); have n3_ := Aside0.mk (below_step (by repeat (first | (with_reducible first | exact HB.out | apply below_alloc | apply pw_below_drewN | apply below_drew1 | refine below_set ?_ GE167.out) | exact HB.out)) hb); have n4_ := Aside0.mk (hbox); have n5_ := Aside0.mk ((by rw [hg]; exact (below_size (by repeat (first | (with_reducible first | exact HB.out | apply below_alloc | apply pw_below_drewN | apply below_drew1 | refine below_set ?_ GE167.out) | exact HB.out))) : w.heap.size ≤ gb180)); have n6_ := Aside0.mk ((by rw [hg]; exact (below_size (by repeat (first | (with_reducible first | exact HB.out | apply below_alloc | apply pw_below_drewN | apply below_drew1 | refine below_set ?_ GE167.out) | exact HB.out))) : w.heap.size ≤ gb180)); have n7_ := Aside0.mk ((by rw [hg]; exact Nat.ne_of_lt (blk_lt (g := gb167) (o := .cells #[.slice (some ad178) l0_0.length c0_0, .slice (some ad179) l0_1.length c0_1, .int .i64 a0_2] 30 (0, 0)) (by (with_reducible repeat (first | refine blk_drewN ?_ _ | refine blk_drew ?_ | refine blk_alloc ?_ _)); exact BK167.out)) : gb167 ≠ gb180)); have n8_ := Aside0.mk ((by rw [hg]; exact Nat.ne_of_gt (blk_lt (g := gb167) (o := .cells #[.slice (some ad178) l0_0.length c0_0, .slice (some ad179) l0_1.length c0_1, .int .i64 a0_2] 30 (0, 0)) (by (with_reducible repeat (first | refine blk_drewN ?_ _ | refine blk_drew ?_ | refine blk_alloc ?_ _)); exact BK167.out)) : gb180 ≠ gb167)); clear HO_6; clear HO_7; clear BK167; clear HB; have HO_6 := n0_; have HO_7 := n1_; have BK167 := n2_; have HB := n3_; have BK180 := n4_; have GW180 := n5_; have GE180 := n6_; have NB167_180 := n7_; have NB180_167 := n8_; clear n0_ n1_ n2_ n3_ n4_ n5_ n6_ n7_ n8_; clear hb hbox hg; have hnb36 := NB180_167.out; have hnc36 := NB167_180.out; have hcz37_0 : w35.cell? ⟨gb180, 0, none⟩ = some (.int .i64 0) := (blk_cell BK180.out 0).trans rfl; have hcz37_1 : w35.cell? ⟨gb180, 1, none⟩ = some (.int .i64 0) := (blk_cell BK180.out 1).trans rfl; have hcz37_2 : w35.cell? ⟨gb180, 2, none⟩ = some (.int .i64 0) := (blk_cell BK180.out 2).trans rfl; have hcz37_3 : w35.cell? ⟨gb180, 3, none⟩ = some (.int .i64 0) := (blk_cell BK180.out 3).trans rfl; have hfz37_0 := blk_frozen BK180.out 0; have hfz37_1 := blk_frozen BK180.out 1; have hfz37_2 := blk_frozen BK180.out 2; have hfz37_3 := blk_frozen BK180.out 3))
              repeat (go_quiet (first | ((with_reducible refine gate_dst (N := 12) rfl ?_); refine box_event ?hg (N := 12) ?hd (cs := #[.int .i64 0, .int .i64 0, .int .i64 0, .int .i64 0]) (t := 53) ?hr ?_; (case hd => rfl); (case hg => rfl); (case hr => first | (go_simp; done) | (go_simp; rfl)); intro gb180 hg w35 hbox hb; have n0_ := Aside0.mk (Kd.R_below (by (with_reducible repeat (first | apply Kd.R_alloc | apply Kd.R_drewN | apply Kd.R_drew)); exact HO_6.out) hb); have n1_ := Aside0.mk (Kd.R_below (by (with_reducible repeat (first | apply Kd.R_alloc | apply Kd.R_drewN | apply Kd.R_drew)); exact HO_7.out) hb); have n2_ := Aside0.mk (blk_below (g := gb167) (o := .cells #[.slice (some ad178) l0_0.length c0_0, .slice (some ad179) l0_1.length c0_1, .int .i64 a0_2] 30 (0, 0)) (by (with_reducible repeat (first | refine blk_drewN ?_ _ | refine blk_drew ?_ | refine blk_alloc ?_ _)); exact BK167.out) hb); have n3_ := Aside0.mk (below_step (by repeat (first | (with_reducible first | exact HB.out | apply below_alloc | apply pw_below_drewN | apply below_drew1 | refine below_set ?_ GE167.out) | exact HB.out)) hb); have n4_ := Aside0.mk (hbox); have n5_ := Aside0.mk ((by rw [hg]; exact (below_size (by repeat (first | (with_reducible first | exact HB.out | apply below_alloc | apply pw_below_drewN | apply below_drew1 | refine below_set ?_ GE167.out) | exact HB.out))) : w.heap.size ≤ gb180)); have n6_ := Aside0.mk ((by rw [hg]; exact (below_size (by repeat (first | (with_reducible first | exact HB.out | apply below_alloc | apply pw_below_drewN | apply below_drew1 | refine below_set ?_ GE167.out) | exact HB.out))) : w.heap.size ≤ gb180)); have n7_ := Aside0.mk ((by rw [hg]; exact Nat.ne_of_lt (blk_lt (g := gb167) (o := .cells #[.slice (some ad178) l0_0.length c0_0, .slice (some ad179) l0_1.length c0_1, .int .i64 a0_2] 30 (0, 0)) (by (with_reducible repeat (first | refine blk_drewN ?_ _ | refine blk_drew ?_ | refine blk_alloc ?_ _)); exact BK167.out)) : gb167 ≠ gb180)); have n8_ := Aside0.mk ((by rw [hg]; exact Nat.ne_of_gt (blk_lt (g := gb167) (o := .cells #[.slice (some ad178) l0_0.length c0_0, .slice (some ad179) l0_1.length c0_1, .int .i64 a0_2] 30 (0, 0)) (by (with_reducible repeat (first | refine blk_drewN ?_ _ | refine blk_drew ?_ | refine blk_alloc ?_ _)); exact BK167.out)) : gb180 ≠ gb167)); clear HO_6; clear HO_7; clear BK167; clear HB; have HO_6 := n0_; have HO_7 := n1_; have BK167 := n2_; have HB := n3_; have BK180 := n4_; have GW180 := n5_; have GE180 := n6_; have NB167_180 := n7_; have NB180_167 := n8_; clear n0_ n1_ n2_ n3_ n4_ n5_ n6_ n7_ n8_; clear hb hbox hg; have hnb36 := NB180_167.out; have hnc36 := NB167_180.out; have hcz37_0 : w35.cell? ⟨gb180, 0, none⟩ = some (.int .i64 0) := (blk_cell BK180.out 0).trans rfl; have hcz37_1 : w35.cell? ⟨gb180, 1, none⟩ = some (.int .i64 0) := (blk_cell BK180.out 1).trans rfl; have hcz37_2 : w35.cell? ⟨gb180, 2, none⟩ = some (.int .i64 0) := (blk_cell BK180.out 2).trans rfl; have hcz37_3 : w35.cell? ⟨gb180, 3, none⟩ = some (.int .i64 0) := (blk_cell BK180.out 3).trans rfl; have hfz37_0 := blk_frozen BK180.out 0; have hfz37_1 := blk_frozen BK180.out 1; have hfz37_2 := blk_frozen BK180.out 2; have hfz37_3 := blk_frozen BK180.out 3)); try go_wp2_with (first | ((with_reducible refine gate_dst (N := 12) rfl ?_); refine box_event ?hg (N := 12) ?hd (cs := #[.int .i64 0, .int .i64 0, .int .i64 0, .int .i64 0]) (t := 53) ?hr ?_; (case hd => rfl); (case hg => rfl); (case hr => first | (go_simp; done) | (go_simp; rfl)); intro gb180 hg w35 hbox hb; have n0_ := Aside0.mk (Kd.R_below (by (with_reducible repeat (first | apply Kd.R_alloc | apply Kd.R_drewN | apply Kd.R_drew)); exact HO_6.out) hb); have n1_ := Aside0.mk (Kd.R_below (by (with_reducible repeat (first | apply Kd.R_alloc | apply Kd.R_drewN | apply Kd.R_drew)); exact HO_7.out) hb); have n2_ := Aside0.mk (blk_below (g := gb167) (o := .cells #[.slice (some ad178) l0_0.length c0_0, .slice (some ad179) l0_1.length c0_1, .int .i64 a0_2] 30 (0, 0)) (by (with_reducible repeat (first | refine blk_drewN ?_ _ | refine blk_drew ?_ | refine blk_alloc ?_ _)); exact BK167.out) hb); have n3_ := Aside0.mk (below_step (by repeat (first | (with_reducible first | exact HB.out | apply below_alloc | apply pw_below_drewN | apply below_drew1 | refine below_set ?_ GE167.out) | exact HB.out)) hb); have n4_ := Aside0.mk (hbox); have n5_ := Aside0.mk ((by rw [hg]; exact (below_size (by repeat (first | (with_reducible first | exact HB.out | apply below_alloc | apply pw_below_drewN | apply below_drew1 | refine below_set ?_ GE167.out) | exact HB.out))) : w.heap.size ≤ gb180)); have n6_ := Aside0.mk ((by rw [hg]; exact (below_size (by repeat (first | (with_reducible first | exact HB.out | apply below_alloc | apply pw_below_drewN | apply below_drew1 | refine below_set ?_ GE167.out) | exact HB.out))) : w.heap.size ≤ gb180)); have n7_ := Aside0.mk ((by rw [hg]; exact Nat.ne_of_lt (blk_lt (g := gb167) (o := .cells #[.slice (some ad178) l0_0.length c0_0, .slice (some ad179) l0_1.length c0_1, .int .i64 a0_2] 30 (0, 0)) (by (with_reducible repeat (first | refine blk_drewN ?_ _ | refine blk_drew ?_ | refine blk_alloc ?_ _)); exact BK167.out)) : gb167 ≠ gb180)); have n8_ := Aside0.mk ((by rw [hg]; exact Nat.ne_of_gt (blk_lt (g := gb167) (o := .cells #[.slice (some ad178) l0_0.length c0_0, .slice (some ad179) l0_1.length c0_1, .int .i64 a0_2] 30 (0, 0)) (by (with_reducible repeat (first | refine blk_drewN ?_ _ | refine blk_drew ?_ | refine blk_alloc ?_ _)); exact BK167.out)) : gb180 ≠ gb167)); clear HO_6; clear HO_7; clear BK167; clear HB; have HO_6 := n0_; have HO_7 := n1_; have BK167 := n2_; have HB := n3_; have BK180 := n4_; have GW180 := n5_; have GE180 := n6_; have NB167_180 := n7_; have NB180_167 := n8_; clear n0_ n1_ n2_ n3_ n4_ n5_ n6_ n7_ n8_; clear hb hbox hg; have hnb36 := NB180_167.out; have hnc36 := NB167_180.out; have hcz37_0 : w35.cell? ⟨gb180, 0, none⟩ = some (.int .i64 0) := (blk_cell BK180.out 0).trans rfl; have hcz37_1 : w35.cell? ⟨gb180, 1, none⟩ = some (.int .i64 0) := (blk_cell BK180.out 1).trans rfl; have hcz37_2 : w35.cell? ⟨gb180, 2, none⟩ = some (.int .i64 0) := (blk_cell BK180.out 2).trans rfl; have hcz37_3 : w35.cell? ⟨gb180, 3, none⟩ = some (.int .i64 0) := (blk_cell BK180.out 3).trans rfl; have hfz37_0 := blk_frozen BK180.out 0; have hfz37_1 := blk_frozen BK180.out 1; have hfz37_2 := blk_frozen BK180.out 2; have hfz37_3 := blk_frozen BK180.out 3)))
              go_roundg k3
              case measure => have := HK1.out; have := HK2.out; have := HK3.out; omega
              case rel => exact ⟨(x10_3), (wrap64 (x11_3 + 1)), (by first | rfl | (simp; done) | (simp [*]; done)), (by first | rfl | (simp; done) | (simp [*]; done)), H', ⟨by have := HK1.out; have := HK2.out; have := HK3.out; omega⟩, ⟨by (with_reducible repeat (first | apply Kd.R_alloc | apply Kd.R_drewN | apply Kd.R_drew)); exact Kd.R_mono (Kd.R_far (p := ⟨gb180, 3, none⟩) (Kd.R_far (p := ⟨gb180, 2, none⟩) (Kd.R_far (p := ⟨gb180, 1, none⟩) (Kd.R_far (p := ⟨gb180, 0, none⟩) (Kd.R_types HO_6.out BK180.out (by decide)) (fun _ hk => hk.2) (.int .i64 ((rd_T53 l0_1 x11_3).f0))) (fun _ hk => hk.2) (.int .i64 ((rd_T53 l0_1 x11_3).f1))) (fun _ hk => hk.2) (.int .i64 ((rd_T53 l0_1 x11_3).f2))) (fun _ hk => hk.2) (.int .i64 ((rd_T53 l0_1 x11_3).f3))) (fun _ hk => trivial)⟩, ⟨by (with_reducible repeat (first | apply Kd.R_alloc | apply Kd.R_drewN | apply Kd.R_drew)); exact Kd.R_mono (Kd.R_far (p := ⟨gb180, 3, none⟩) (Kd.R_far (p := ⟨gb180, 2, none⟩) (Kd.R_far (p := ⟨gb180, 1, none⟩) (Kd.R_far (p := ⟨gb180, 0, none⟩) (Kd.R_types HO_7.out BK180.out (by decide)) (fun _ hk => hk.2) (.int .i64 ((rd_T53 l0_1 x11_3).f0))) (fun _ hk => hk.2) (.int .i64 ((rd_T53 l0_1 x11_3).f1))) (fun _ hk => hk.2) (.int .i64 ((rd_T53 l0_1 x11_3).f2))) (fun _ hk => hk.2) (.int .i64 ((rd_T53 l0_1 x11_3).f3))) (fun _ hk => trivial)⟩, ⟨by (with_reducible repeat (first | refine blk_drewN ?_ _ | refine blk_drew ?_ | refine blk_alloc ?_ _)); refine blk_far ?_ NB167_180.out _; (with_reducible repeat (first | refine blk_drewN ?_ _ | refine blk_drew ?_ | refine blk_alloc ?_ _)); refine blk_far ?_ NB167_180.out _; (with_reducible repeat (first | refine blk_drewN ?_ _ | refine blk_drew ?_ | refine blk_alloc ?_ _)); refine blk_far ?_ NB167_180.out _; (with_reducible repeat (first | refine blk_drewN ?_ _ | refine blk_drew ?_ | refine blk_alloc ?_ _)); refine blk_far ?_ NB167_180.out _; (with_reducible repeat (first | refine blk_drewN ?_ _ | refine blk_drew ?_ | refine blk_alloc ?_ _)); exact BK167.out⟩, ⟨by repeat (first | (with_reducible first | exact HB.out | apply below_alloc | apply pw_below_drewN | apply below_drew1 | refine below_set ?_ GE167.out | refine below_set ?_ GE180.out) | exact HB.out)⟩⟩
            ·
             rw [if_neg c19] at H
             have c19b0 : (((rd_T53 l0_1 x11_3).f1) == x9_2) = false := beq_eq_false_iff_ne.mpr c19
             have c19b1 : (((rd_T53 l0_1 x11_3).f1) != x9_2) = true := bne_iff_ne.mpr c19
             have H' := Aside0.mk H
             clear H
             have hcz38_0 : wr.cell? ⟨gb167, 0, none⟩ = some (.slice (some ad178) l0_0.length c0_0) := (blk_cell BK167.out 0).trans rfl
             have hcz38_1 : wr.cell? ⟨gb167, 1, none⟩ = some (.slice A0_1 l0_1.length c0_1) := (blk_cell BK167.out 1).trans rfl
             have hcz38_2 : wr.cell? ⟨gb167, 2, none⟩ = some (.int .i64 a0_2) := (blk_cell BK167.out 2).trans rfl
             have hfz38_0 := blk_frozen BK167.out 0
             have hfz38_1 := blk_frozen BK167.out 1
             have hfz38_2 := blk_frozen BK167.out 2
             have p179 : 0 ≤ (x11_3 : Int) := of_decide_eq_true (by first | (with_reducible assumption) | assumption)
             have q179 : x11_3 < (l0_1.length : Int) := of_decide_eq_true (by first | (with_reducible assumption) | assumption)
             obtain ⟨ad179, e179, hx179_0, hx179_1, hx179_2, hx179_3⟩ := at_T53 HR0_1.out x11_3 p179 q179
             cases e179
             replace hx179_0 := (HB.out.cell (World.block_lt_of_cell? w _ hx179_0)).trans hx179_0
             replace hx179_1 := (HB.out.cell (World.block_lt_of_cell? w _ hx179_1)).trans hx179_1
             replace hx179_2 := (HB.out.cell (World.block_lt_of_cell? w _ hx179_2)).trans hx179_2
             replace hx179_3 := (HB.out.cell (World.block_lt_of_cell? w _ hx179_3)).trans hx179_3
             replace p179 := eq_true p179
             replace q179 := eq_true q179
             go_wp2_with (first | ((with_reducible refine gate_dst (N := 12) rfl ?_); refine box_event ?hg (N := 12) ?hd (cs := #[.int .i64 0, .int .i64 0, .int .i64 0, .int .i64 0]) (t := 53) ?hr ?_; (case hd => rfl); (case hg => rfl); (case hr => first | (go_simp; done) | (go_simp; rfl)); intro gb180 hg w39 hbox hb; have n0_ := Aside0.mk (Kd.R_below (by (with_reducible repeat (first | apply Kd.R_alloc | apply Kd.R_drewN | apply Kd.R_drew)); exact HO_6.out) hb); have n1_ := Aside0.mk (Kd.R_below (by (with_reducible repeat (first | apply Kd.R_alloc | apply Kd.R_drewN | apply Kd.R_drew)); exact HO_7.out) hb); have n2_ := Aside0.mk (blk_below (g := gb167) (o := .cells #[.slice (some ad178) l0_0.length c0_0, .slice (some ad179) l0_1.length c0_1, .int .i64 a0_2] 30 (0, 0)) (by (with_reducible repeat (first | refine blk_drewN ?_ _ | refine blk_drew ?_ | refine blk_alloc ?_ _)); exact BK167.out) hb); have n3_ := Aside0.mk (below_step (by repeat (first | (with_reducible first | exact HB.out | apply below_alloc | apply pw_below_drewN | apply below_drew1 | refine below_set ?_ GE167.out) | exact HB.out)) hb); have n4_ := Aside0.mk (hbox); have n5_ := Aside0.mk ((by rw [hg]; exact (below_size (by repeat (first | (with_reducible first | exact HB.out | apply below_alloc | apply pw_below_drewN | apply below_drew1 | refine below_set ?_ GE167.out) | exact HB.out))) : w.heap.size ≤ gb180)); have n6_ := Aside0.mk ((by rw [hg]; exact (below_size (by repeat (first | (with_reducible first | exact HB.out | apply below_alloc | apply pw_below_drewN | apply below_drew1 | refine below_set ?_ GE167.out) | exact HB.out))) : w.heap.size ≤ gb180)); have n7_ := Aside0.mk ((by rw [hg]; exact Nat.ne_of_lt (blk_lt (g := gb167) (o := .cells #[.slice (some ad178) l0_0.length c0_0, .slice (some ad179) l0_1.length c0_1, .int .i64 a0_2] 30 (0, 0)) (by (with_reducible repeat (first | refine blk_drewN ?_ _ | refine blk_drew ?_ | refine blk_alloc ?_ _)); exact BK167.out)) : gb167 ≠ gb180)); have n8_ := Aside0.mk ((by rw [hg]; exact Nat.ne_of_gt (blk_lt (g := gb167) (o := .cells #[.slice (some ad178) l0_0.length c0_0, .slice (some ad179) l0_1.length c0_1, .int .i64 a0_2] 30 (0, 0)) (by (with_reducible repeat (first | refine blk_drewN ?_ _ | refine blk_drew ?_ | refine blk_alloc ?_ _)); exact BK167.out)) : gb180 ≠ gb167)); clear HO_6; clear HO_7; clear BK167; clear HB; have HO_6 := n0_; have HO_7 := n1_; have BK167 := n2_; have HB := n3_; have BK180 := n4_; have GW180 := n5_; have GE180 := n6_; have NB167_180 := n7_; have NB180_167 := n8_; clear n0_ n1_ n2_ n3_ n4_ n5_ n6_ n7_ n8_; clear hb hbox hg; have hnb40 := NB180_167.out; have hnc40 := NB167_180.out; have hcz41_0 : w39.cell? ⟨gb180, 0, none⟩ = some (.int .i64 0) := (blk_cell BK180.out 0).trans rfl; have hcz41_1 : w39.cell? ⟨gb180, 1, none⟩ = some (.int .i64 0) := (blk_cell BK180.out 1).trans rfl; have hcz41_2 : w39.cell? ⟨gb180, 2, none⟩ = some (.int .i64 0) := (blk_cell BK180.out 2).trans rfl; have hcz41_3 : w39.cell? ⟨gb180, 3, none⟩ = some (.int .i64 0) := (blk_cell BK180.out 3).trans rfl; have hfz41_0 := blk_frozen BK180.out 0; have hfz41_1 := blk_frozen BK180.out 1; have hfz41_2 := blk_frozen BK180.out 2; have hfz41_3 := blk_frozen BK180.out 3))
             repeat (go_quiet (first | ((with_reducible refine gate_dst (N := 12) rfl ?_); refine box_event ?hg (N := 12) ?hd (cs := #[.int .i64 0, .int .i64 0, .int .i64 0, .int .i64 0]) (t := 53) ?hr ?_; (case hd => rfl); (case hg => rfl); (case hr => first | (go_simp; done) | (go_simp; rfl)); intro gb180 hg w39 hbox hb; have n0_ := Aside0.mk (Kd.R_below (by (with_reducible repeat (first | apply Kd.R_alloc | apply Kd.R_drewN | apply Kd.R_drew)); exact HO_6.out) hb); have n1_ := Aside0.mk (Kd.R_below (by (with_reducible repeat (first | apply Kd.R_alloc | apply Kd.R_drewN | apply Kd.R_drew)); exact HO_7.out) hb); have n2_ := Aside0.mk (blk_below (g := gb167) (o := .cells #[.slice (some ad178) l0_0.length c0_0, .slice (some ad179) l0_1.length c0_1, .int .i64 a0_2] 30 (0, 0)) (by (with_reducible repeat (first | refine blk_drewN ?_ _ | refine blk_drew ?_ | refine blk_alloc ?_ _)); exact BK167.out) hb); have n3_ := Aside0.mk (below_step (by repeat (first | (with_reducible first | exact HB.out | apply below_alloc | apply pw_below_drewN | apply below_drew1 | refine below_set ?_ GE167.out) | exact HB.out)) hb); have n4_ := Aside0.mk (hbox); have n5_ := Aside0.mk ((by rw [hg]; exact (below_size (by repeat (first | (with_reducible first | exact HB.out | apply below_alloc | apply pw_below_drewN | apply below_drew1 | refine below_set ?_ GE167.out) | exact HB.out))) : w.heap.size ≤ gb180)); have n6_ := Aside0.mk ((by rw [hg]; exact (below_size (by repeat (first | (with_reducible first | exact HB.out | apply below_alloc | apply pw_below_drewN | apply below_drew1 | refine below_set ?_ GE167.out) | exact HB.out))) : w.heap.size ≤ gb180)); have n7_ := Aside0.mk ((by rw [hg]; exact Nat.ne_of_lt (blk_lt (g := gb167) (o := .cells #[.slice (some ad178) l0_0.length c0_0, .slice (some ad179) l0_1.length c0_1, .int .i64 a0_2] 30 (0, 0)) (by (with_reducible repeat (first | refine blk_drewN ?_ _ | refine blk_drew ?_ | refine blk_alloc ?_ _)); exact BK167.out)) : gb167 ≠ gb180)); have n8_ := Aside0.mk ((by rw [hg]; exact Nat.ne_of_gt (blk_lt (g := gb167) (o := .cells #[.slice (some ad178) l0_0.length c0_0, .slice (some ad179) l0_1.length c0_1, .int .i64 a0_2] 30 (0, 0)) (by (with_reducible repeat (first | refine blk_drewN ?_ _ | refine blk_drew ?_ | refine blk_alloc ?_ _)); exact BK167.out)) : gb180 ≠ gb167)); clear HO_6; clear HO_7; clear BK167; clear HB; have HO_6 := n0_; have HO_7 := n1_; have BK167 := n2_; have HB := n3_; have BK180 := n4_; have GW180 := n5_; have GE180 := n6_; have NB167_180 := n7_; have NB180_167 := n8_; clear n0_ n1_ n2_ n3_ n4_ n5_ n6_ n7_ n8_; clear hb hbox hg; have hnb40 := NB180_167.out; have hnc40 := NB167_180.out; have hcz41_0 : w39.cell? ⟨gb180, 0, none⟩ = some (.int .i64 0) := (blk_cell BK180.out 0).trans rfl; have hcz41_1 : w39.cell? ⟨gb180, 1, none⟩ = some (.int .i64 0) := (blk_cell BK180.out 1).trans rfl; have hcz41_2 : w39.cell? ⟨gb180, 2, none⟩ = some (.int .i64 0) := (blk_cell BK180.out 2).trans rfl; have hcz41_3 : w39.cell? ⟨gb180, 3, none⟩ = some (.int .i64 0) := (blk_cell BK180.out 3).trans rfl; have hfz41_0 := blk_frozen BK180.out 0; have hfz41_1 := blk_frozen BK180.out 1; have hfz41_2 := blk_frozen BK180.out 2; have hfz41_3 := blk_frozen BK180.out 3)); try go_wp2_with (first | ((with_reducible refine gate_dst (N := 12) rfl ?_); refine box_event ?hg (N := 12) ?hd (cs := #[.int .i64 0, .int .i64 0, .int .i64 0, .int .i64 0]) (t := 53) ?hr ?_; (case hd => rfl); (case hg => rfl); (case hr => first | (go_simp; done) | (go_simp; rfl)); intro gb180 hg w39 hbox hb; have n0_ := Aside0.mk (Kd.R_below (by (with_reducible repeat (first | apply Kd.R_alloc | apply Kd.R_drewN | apply Kd.R_drew)); exact HO_6.out) hb); have n1_ := Aside0.mk (Kd.R_below (by (with_reducible repeat (first | apply Kd.R_alloc | apply Kd.R_drewN | apply Kd.R_drew)); exact HO_7.out) hb); have n2_ := Aside0.mk (blk_below (g := gb167) (o := .cells #[.slice (some ad178) l0_0.length c0_0, .slice (some ad179) l0_1.length c0_1, .int .i64 a0_2] 30 (0, 0)) (by (with_reducible repeat (first | refine blk_drewN ?_ _ | refine blk_drew ?_ | refine blk_alloc ?_ _)); exact BK167.out) hb); have n3_ := Aside0.mk (below_step (by repeat (first | (with_reducible first | exact HB.out | apply below_alloc | apply pw_below_drewN | apply below_drew1 | refine below_set ?_ GE167.out) | exact HB.out)) hb); have n4_ := Aside0.mk (hbox); have n5_ := Aside0.mk ((by rw [hg]; exact (below_size (by repeat (first | (with_reducible first | exact HB.out | apply below_alloc | apply pw_below_drewN | apply below_drew1 | refine below_set ?_ GE167.out) | exact HB.out))) : w.heap.size ≤ gb180)); have n6_ := Aside0.mk ((by rw [hg]; exact (below_size (by repeat (first | (with_reducible first | exact HB.out | apply below_alloc | apply pw_below_drewN | apply below_drew1 | refine below_set ?_ GE167.out) | exact HB.out))) : w.heap.size ≤ gb180)); have n7_ := Aside0.mk ((by rw [hg]; exact Nat.ne_of_lt (blk_lt (g := gb167) (o := .cells #[.slice (some ad178) l0_0.length c0_0, .slice (some ad179) l0_1.length c0_1, .int .i64 a0_2] 30 (0, 0)) (by (with_reducible repeat (first | refine blk_drewN ?_ _ | refine blk_drew ?_ | refine blk_alloc ?_ _)); exact BK167.out)) : gb167 ≠ gb180)); have n8_ := Aside0.mk ((by rw [hg]; exact Nat.ne_of_gt (blk_lt (g := gb167) (o := .cells #[.slice (some ad178) l0_0.length c0_0, .slice (some ad179) l0_1.length c0_1, .int .i64 a0_2] 30 (0, 0)) (by (with_reducible repeat (first | refine blk_drewN ?_ _ | refine blk_drew ?_ | refine blk_alloc ?_ _)); exact BK167.out)) : gb180 ≠ gb167)); clear HO_6; clear HO_7; clear BK167; clear HB; have HO_6 := n0_; have HO_7 := n1_; have BK167 := n2_; have HB := n3_; have BK180 := n4_; have GW180 := n5_; have GE180 := n6_; have NB167_180 := n7_; have NB180_167 := n8_; clear n0_ n1_ n2_ n3_ n4_ n5_ n6_ n7_ n8_; clear hb hbox hg; have hnb40 := NB180_167.out; have hnc40 := NB167_180.out; have hcz41_0 : w39.cell? ⟨gb180, 0, none⟩ = some (.int .i64 0) := (blk_cell BK180.out 0).trans rfl; have hcz41_1 : w39.cell? ⟨gb180, 1, none⟩ = some (.int .i64 0) := (blk_cell BK180.out 1).trans rfl; have hcz41_2 : w39.cell? ⟨gb180, 2, none⟩ = some (.int .i64 0) := (blk_cell BK180.out 2).trans rfl; have hcz41_3 : w39.cell? ⟨gb180, 3, none⟩ = some (.int .i64 0) := (blk_cell BK180.out 3).trans rfl; have hfz41_0 := blk_frozen BK180.out 0; have hfz41_1 := blk_frozen BK180.out 1; have hfz41_2 := blk_frozen BK180.out 2; have hfz41_3 := blk_frozen BK180.out 3)))
             go_roundg k3
             case measure => have := HK1.out; have := HK2.out; have := HK3.out; omega
             case rel => exact ⟨(x10_3), (wrap64 (x11_3 + 1)), (by first | rfl | (simp; done) | (simp [*]; done)), (by first | rfl | (simp; done) | (simp [*]; done)), H', ⟨by have := HK1.out; have := HK2.out; have := HK3.out; omega⟩, ⟨by (with_reducible repeat (first | apply Kd.R_alloc | apply Kd.R_drewN | apply Kd.R_drew)); exact Kd.R_mono (Kd.R_far (p := ⟨gb180, 3, none⟩) (Kd.R_far (p := ⟨gb180, 2, none⟩) (Kd.R_far (p := ⟨gb180, 1, none⟩) (Kd.R_far (p := ⟨gb180, 0, none⟩) (Kd.R_types HO_6.out BK180.out (by decide)) (fun _ hk => hk.2) (.int .i64 ((rd_T53 l0_1 x11_3).f0))) (fun _ hk => hk.2) (.int .i64 ((rd_T53 l0_1 x11_3).f1))) (fun _ hk => hk.2) (.int .i64 ((rd_T53 l0_1 x11_3).f2))) (fun _ hk => hk.2) (.int .i64 ((rd_T53 l0_1 x11_3).f3))) (fun _ hk => trivial)⟩, ⟨by (with_reducible repeat (first | apply Kd.R_alloc | apply Kd.R_drewN | apply Kd.R_drew)); exact Kd.R_mono (Kd.R_far (p := ⟨gb180, 3, none⟩) (Kd.R_far (p := ⟨gb180, 2, none⟩) (Kd.R_far (p := ⟨gb180, 1, none⟩) (Kd.R_far (p := ⟨gb180, 0, none⟩) (Kd.R_types HO_7.out BK180.out (by decide)) (fun _ hk => hk.2) (.int .i64 ((rd_T53 l0_1 x11_3).f0))) (fun _ hk => hk.2) (.int .i64 ((rd_T53 l0_1 x11_3).f1))) (fun _ hk => hk.2) (.int .i64 ((rd_T53 l0_1 x11_3).f2))) (fun _ hk => hk.2) (.int .i64 ((rd_T53 l0_1 x11_3).f3))) (fun _ hk => trivial)⟩, ⟨by (with_reducible repeat (first | refine blk_drewN ?_ _ | refine blk_drew ?_ | refine blk_alloc ?_ _)); refine blk_far ?_ NB167_180.out _; (with_reducible repeat (first | refine blk_drewN ?_ _ | refine blk_drew ?_ | refine blk_alloc ?_ _)); refine blk_far ?_ NB167_180.out _; (with_reducible repeat (first | refine blk_drewN ?_ _ | refine blk_drew ?_ | refine blk_alloc ?_ _)); refine blk_far ?_ NB167_180.out _; (with_reducible repeat (first | refine blk_drewN ?_ _ | refine blk_drew ?_ | refine blk_alloc ?_ _)); refine blk_far ?_ NB167_180.out _; (with_reducible repeat (first | refine blk_drewN ?_ _ | refine blk_drew ?_ | refine blk_alloc ?_ _)); exact BK167.out⟩, ⟨by repeat (first | (with_reducible first | exact HB.out | apply below_alloc | apply pw_below_drewN | apply below_drew1 | refine below_set ?_ GE167.out | refine below_set ?_ GE180.out) | exact HB.out)⟩⟩
           ·
            rw [if_neg c18] at H
            exact absurd H (by simp)
          ·
           rw [if_neg c17] at H
           have c17b0 : decide (x11_3 < (l0_1.length : Int)) = false := decide_eq_false c17
           clear c17
           have H' := Aside0.mk H
           clear H
           have hcz42_0 : wr.cell? ⟨gb167, 0, none⟩ = some (.slice (some ad178) l0_0.length c0_0) := (blk_cell BK167.out 0).trans rfl
           have hcz42_1 : wr.cell? ⟨gb167, 1, none⟩ = some (.slice A0_1 l0_1.length c0_1) := (blk_cell BK167.out 1).trans rfl
           have hcz42_2 : wr.cell? ⟨gb167, 2, none⟩ = some (.int .i64 a0_2) := (blk_cell BK167.out 2).trans rfl
           have hfz42_0 := blk_frozen BK167.out 0
           have hfz42_1 := blk_frozen BK167.out 1
           have hfz42_2 := blk_frozen BK167.out 2
           go_wp2
           repeat (go_quiet (fail); try go_wp2)
           go_loopg [13, 14] k3 (fun kq v13 v14 w' => ∃ (x7_4 : List Bool) (x13_4 : Int) (x14_4 : Int), v13 = .int .i64 x13_4 ∧ v14 = .int .i64 x14_4 ∧ Aside0 (spec_l11Play.l3 kq l1 x6_2 x7_4 x9_2 x10_3 x13_4 x14_4 l0_0 l0_1 a0_2 = some (r1, r2)) ∧ Aside0 (kq ≤ k3) ∧ Aside0 (Kd.R (Kd.int .i64) 3 w' w.heap.size (fun _ => True) u6 x6_2) ∧ Aside0 (Kd.R Kd.bool 4 w' w.heap.size (fun _ => True) u7 x7_4) ∧ Aside0 (w'.heap[gb167]? = some (.cells #[(.slice (some ad178) l0_0.length c0_0), (.slice A0_1 l0_1.length c0_1), .int .i64 a0_2] 30 (0, 0))) ∧ Aside0 (Below w.heap.size w w'))
           case atStart => exact ⟨(x7_2), (x10_3), (0), (by first | rfl | (simp; done) | (simp [*]; done)), (by first | rfl | (simp; done) | (simp [*]; done)), H', ⟨Nat.le_refl _⟩, ⟨by (with_reducible repeat (first | apply Kd.R_alloc | apply Kd.R_drewN | apply Kd.R_drew)); exact HO_6.out⟩, ⟨by (with_reducible repeat (first | apply Kd.R_alloc | apply Kd.R_drewN | apply Kd.R_drew)); exact HO_7.out⟩, ⟨by (with_reducible repeat (first | refine blk_drewN ?_ _ | refine blk_drew ?_ | refine blk_alloc ?_ _)); exact BK167.out⟩, ⟨by repeat (first | (with_reducible first | exact HB.out | apply below_alloc | apply pw_below_drewN | apply below_drew1 | refine below_set ?_ GE167.out) | exact HB.out)⟩⟩
           case round =>
            clear H'
            try clear c1
            try clear p1
            try clear q1
            try clear hx1
            try clear c2
            try clear p2
            try clear c3
            try clear c4
            try clear c5
            try clear p6
            try clear c8
            try clear c8b0
            try clear c9
            try clear c9b0
            try clear c10
            try clear c14
            try clear c14b0
            try clear c15
            try clear c15b0
            try clear c17
            try clear c17b0
            try clear p17
            try clear q17
            try clear hx17
            try clear c18
            try clear c18b0
            try clear p18
            try clear q18
            try clear hx18
            try clear c19
            try clear c19b0
            try clear c19b1
            try clear c20
            try clear c20b0
            try clear c20b1
            try clear c21
            try clear c21b0
            try clear c22
            try clear c22b0
            try clear c23
            try clear c23b0
            try clear c26
            try clear c31
            try clear c36
            try clear c40
            try clear hcz11_0
            try clear hcz11_1
            try clear hcz11_2
            try clear hcz13_0
            try clear hcz13_1
            try clear hcz13_2
            try clear hcz16_0
            try clear hcz16_1
            try clear hcz16_2
            try clear hcz24_0
            try clear hcz24_1
            try clear hcz24_2
            try clear hcz27_0
            try clear hcz27_1
            try clear hcz27_2
            try clear hcz27_3
            try clear hcz29_0
            try clear hcz29_1
            try clear hcz29_2
            try clear hcz32_0
            try clear hcz32_1
            try clear hcz32_2
            try clear hcz32_3
            try clear hcz34_0
            try clear hcz34_1
            try clear hcz34_2
            try clear hcz37_0
            try clear hcz37_1
            try clear hcz37_2
            try clear hcz37_3
            try clear hcz38_0
            try clear hcz38_1
            try clear hcz38_2
            try clear hcz41_0
            try clear hcz41_1
            try clear hcz41_2
            try clear hcz41_3
            try clear hcz42_0
            try clear hcz42_1
            try clear hcz42_2
            try clear hfz11_0
            try clear hfz11_1
            try clear hfz11_2
            try clear hfz13_0
            try clear hfz13_1
            try clear hfz13_2
            try clear hfz16_0
            try clear hfz16_1
            try clear hfz16_2
            try clear hfz24_0
            try clear hfz24_1
            try clear hfz24_2
            try clear hfz27_0
            try clear hfz27_1
            try clear hfz27_2
            try clear hfz27_3
            try clear hfz29_0
            try clear hfz29_1
            try clear hfz29_2
            try clear hfz32_0
            try clear hfz32_1
            try clear hfz32_2
            try clear hfz32_3
            try clear hfz34_0
            try clear hfz34_1
            try clear hfz34_2
            try clear hfz37_0
            try clear hfz37_1
            try clear hfz37_2
            try clear hfz37_3
            try clear hfz38_0
            try clear hfz38_1
            try clear hfz38_2
            try clear hfz41_0
            try clear hfz41_1
            try clear hfz41_2
            try clear hfz41_3
            try clear hfz42_0
            try clear hfz42_1
            try clear hfz42_2
            try clear hx174_0
            try clear hx174_1
            try clear hx174_2
            try clear hx174_3
            try clear hx178_0
            try clear hx179_0
            try clear hx179_1
            try clear hx179_2
            try clear hx179_3
            try clear hx181_0
            try clear hx182_0
            try clear p1
            try clear p174
            try clear p178
            try clear p179
            try clear p181
            try clear p182
            try clear p2
            try clear p6
            try clear q1
            try clear q174
            try clear q178
            try clear q179
            try clear q181
            try clear q182
            obtain ⟨x7_4, x13_4, x14_4, rfl, rfl, HA, HK4, HO_6, HO_7, BK167, HB⟩ := hrel
            cases gk with
            | zero => exact absurd HA.out (by simp [spec_l11Play.l3])
            | succ k4 =>
             have H := HA.out
             clear HA
             simp only [spec_l11Play.l3] at H
             by_cases c43 : x14_4 < (l0_1.length : Int)
             ·
              rw [if_pos c43] at H
              have c43b0 : decide (x14_4 < (l0_1.length : Int)) = true := decide_eq_true c43
              clear c43
              by_cases c44 : 0 ≤ x14_4
              ·
               rw [if_pos c44] at H
               have c44b0 : decide (0 ≤ x14_4) = true := decide_eq_true c44
               clear c44
               have HC45 := Aside0.mk H
               clear H
               have hcz46_0 : wr.cell? ⟨gb167, 0, none⟩ = some (.slice (some ad178) l0_0.length c0_0) := (blk_cell BK167.out 0).trans rfl
               have hcz46_1 : wr.cell? ⟨gb167, 1, none⟩ = some (.slice A0_1 l0_1.length c0_1) := (blk_cell BK167.out 1).trans rfl
               have hcz46_2 : wr.cell? ⟨gb167, 2, none⟩ = some (.int .i64 a0_2) := (blk_cell BK167.out 2).trans rfl
               have hfz46_0 := blk_frozen BK167.out 0
               have hfz46_1 := blk_frozen BK167.out 1
               have hfz46_2 := blk_frozen BK167.out 2
               have p187 : 0 ≤ (x14_4 : Int) := of_decide_eq_true (by first | (with_reducible assumption) | assumption)
               have q187 : x14_4 < (l0_1.length : Int) := of_decide_eq_true (by first | (with_reducible assumption) | assumption)
               obtain ⟨ad187, e187, hx187_0, hx187_1, hx187_2, hx187_3⟩ := at_T53 HR0_1.out x14_4 p187 q187
               cases e187
               replace hx187_0 := (HB.out.cell (World.block_lt_of_cell? w _ hx187_0)).trans hx187_0
               replace hx187_1 := (HB.out.cell (World.block_lt_of_cell? w _ hx187_1)).trans hx187_1
               replace hx187_2 := (HB.out.cell (World.block_lt_of_cell? w _ hx187_2)).trans hx187_2
               replace hx187_3 := (HB.out.cell (World.block_lt_of_cell? w _ hx187_3)).trans hx187_3
               replace p187 := eq_true p187
               replace q187 := eq_true q187
               go_upto_region 21 with (first | ((with_reducible refine gate_dst (N := 15) rfl ?_); refine box_event ?hg (N := 15) ?hd (cs := #[.int .i64 0, .int .i64 0, .int .i64 0, .int .i64 0]) (t := 53) ?hr ?_; (case hd => rfl); (case hg => rfl); (case hr => first | (go_simp; done) | (go_simp; rfl)); intro gb188 hg w47 hbox hb; have n0_ := Aside0.mk (Kd.R_below (by (with_reducible repeat (first | apply Kd.R_alloc | apply Kd.R_drewN | apply Kd.R_drew)); exact HO_6.out) hb); have n1_ := Aside0.mk (Kd.R_below (by (with_reducible repeat (first | apply Kd.R_alloc | apply Kd.R_drewN | apply Kd.R_drew)); exact HO_7.out) hb); have n2_ := Aside0.mk (blk_below (g := gb167) (o := .cells #[.slice (some ad178) l0_0.length c0_0, .slice (some ad187) l0_1.length c0_1, .int .i64 a0_2] 30 (0, 0)) (by (with_reducible repeat (first | refine blk_drewN ?_ _ | refine blk_drew ?_ | refine blk_alloc ?_ _)); exact BK167.out) hb); have n3_ := Aside0.mk (below_step (by repeat (first | (with_reducible first | exact HB.out | apply below_alloc | apply pw_below_drewN | apply below_drew1 | refine below_set ?_ GE167.out) | exact HB.out)) hb); have n4_ := Aside0.mk (hbox); have n5_ := Aside0.mk ((by rw [hg]; exact (below_size (by repeat (first | (with_reducible first | exact HB.out | apply below_alloc | apply pw_below_drewN | apply below_drew1 | refine below_set ?_ GE167.out) | exact HB.out))) : w.heap.size ≤ gb188)); have n6_ := Aside0.mk ((by rw [hg]; exact (below_size (by repeat (first | (with_reducible first | exact HB.out | apply below_alloc | apply pw_below_drewN | apply below_drew1 | refine below_set ?_ GE167.out) | exact HB.out))) : w.heap.size ≤ gb188)); have n7_ := Aside0.mk ((by rw [hg]; exact Nat.ne_of_lt (blk_lt (g := gb167) (o := .cells #[.slice (some ad178) l0_0.length c0_0, .slice (some ad187) l0_1.length c0_1, .int .i64 a0_2] 30 (0, 0)) (by (with_reducible repeat (first | refine blk_drewN ?_ _ | refine blk_drew ?_ | refine blk_alloc ?_ _)); exact BK167.out)) : gb167 ≠ gb188)); have n8_ := Aside0.mk ((by rw [hg]; exact Nat.ne_of_gt (blk_lt (g := gb167) (o := .cells #[.slice (some ad178) l0_0.length c0_0, .slice (some ad187) l0_1.length c0_1, .int .i64 a0_2] 30 (0, 0)) (by (with_reducible repeat (first | refine blk_drewN ?_ _ | refine blk_drew ?_ | refine blk_alloc ?_ _)); exact BK167.out)) : gb188 ≠ gb167)); clear HO_6; clear HO_7; clear BK167; clear HB; have HO_6 := n0_; have HO_7 := n1_; have BK167 := n2_; have HB := n3_; have BK188 := n4_; have GW188 := n5_; have GE188 := n6_; have NB167_188 := n7_; have NB188_167 := n8_; clear n0_ n1_ n2_ n3_ n4_ n5_ n6_ n7_ n8_; clear hb hbox hg; have hnb48 := NB188_167.out; have hnc48 := NB167_188.out; have hcz49_0 : w47.cell? ⟨gb188, 0, none⟩ = some (.int .i64 0) := (blk_cell BK188.out 0).trans rfl; have hcz49_1 : w47.cell? ⟨gb188, 1, none⟩ = some (.int .i64 0) := (blk_cell BK188.out 1).trans rfl; have hcz49_2 : w47.cell? ⟨gb188, 2, none⟩ = some (.int .i64 0) := (blk_cell BK188.out 2).trans rfl; have hcz49_3 : w47.cell? ⟨gb188, 3, none⟩ = some (.int .i64 0) := (blk_cell BK188.out 3).trans rfl; have hfz49_0 := blk_frozen BK188.out 0; have hfz49_1 := blk_frozen BK188.out 1; have hfz49_2 := blk_frozen BK188.out 2; have hfz49_3 := blk_frozen BK188.out 3))
               repeat (go_quiet (first | ((with_reducible refine gate_dst (N := 15) rfl ?_); refine box_event ?hg (N := 15) ?hd (cs := #[.int .i64 0, .int .i64 0, .int .i64 0, .int .i64 0]) (t := 53) ?hr ?_; (case hd => rfl); (case hg => rfl); (case hr => first | (go_simp; done) | (go_simp; rfl)); intro gb188 hg w47 hbox hb; have n0_ := Aside0.mk (Kd.R_below (by (with_reducible repeat (first | apply Kd.R_alloc | apply Kd.R_drewN | apply Kd.R_drew)); exact HO_6.out) hb); have n1_ := Aside0.mk (Kd.R_below (by (with_reducible repeat (first | apply Kd.R_alloc | apply Kd.R_drewN | apply Kd.R_drew)); exact HO_7.out) hb); have n2_ := Aside0.mk (blk_below (g := gb167) (o := .cells #[.slice (some ad178) l0_0.length c0_0, .slice (some ad187) l0_1.length c0_1, .int .i64 a0_2] 30 (0, 0)) (by (with_reducible repeat (first | refine blk_drewN ?_ _ | refine blk_drew ?_ | refine blk_alloc ?_ _)); exact BK167.out) hb); have n3_ := Aside0.mk (below_step (by repeat (first | (with_reducible first | exact HB.out | apply below_alloc | apply pw_below_drewN | apply below_drew1 | refine below_set ?_ GE167.out) | exact HB.out)) hb); have n4_ := Aside0.mk (hbox); have n5_ := Aside0.mk ((by rw [hg]; exact (below_size (by repeat (first | (with_reducible first | exact HB.out | apply below_alloc | apply pw_below_drewN | apply below_drew1 | refine below_set ?_ GE167.out) | exact HB.out))) : w.heap.size ≤ gb188)); have n6_ := Aside0.mk ((by rw [hg]; exact (below_size (by repeat (first | (with_reducible first | exact HB.out | apply below_alloc | apply pw_below_drewN | apply below_drew1 | refine below_set ?_ GE167.out) | exact HB.out))) : w.heap.size ≤ gb188)); have n7_ := Aside0.mk ((by rw [hg]; exact Nat.ne_of_lt (blk_lt (g := gb167) (o := .cells #[.slice (some ad178) l0_0.length c0_0, .slice (some ad187) l0_1.length c0_1, .int .i64 a0_2] 30 (0, 0)) (by (with_reducible repeat (first | refine blk_drewN ?_ _ | refine blk_drew ?_ | refine blk_alloc ?_ _)); exact BK167.out)) : gb167 ≠ gb188)); have n8_ := Aside0.mk ((by rw [hg]; exact Nat.ne_of_gt (blk_lt (g := gb167) (o := .cells #[.slice (some ad178) l0_0.length c0_0, .slice (some ad187) l0_1.length c0_1, .int .i64 a0_2] 30 (0, 0)) (by (with_reducible repeat (first | refine blk_drewN ?_ _ | refine blk_drew ?_ | refine blk_alloc ?_ _)); exact BK167.out)) : gb188 ≠ gb167)); clear HO_6; clear HO_7; clear BK167; clear HB; have HO_6 := n0_; have HO_7 := n1_; have BK167 := n2_; have HB := n3_; have BK188 := n4_; have GW188 := n5_; have GE188 := n6_; have NB167_188 := n7_; have NB188_167 := n8_; clear n0_ n1_ n2_ n3_ n4_ n5_ n6_ n7_ n8_; clear hb hbox hg; have hnb48 := NB188_167.out; have hnc48 := NB167_188.out; have hcz49_0 : w47.cell? ⟨gb188, 0, none⟩ = some (.int .i64 0) := (blk_cell BK188.out 0).trans rfl; have hcz49_1 : w47.cell? ⟨gb188, 1, none⟩ = some (.int .i64 0) := (blk_cell BK188.out 1).trans rfl; have hcz49_2 : w47.cell? ⟨gb188, 2, none⟩ = some (.int .i64 0) := (blk_cell BK188.out 2).trans rfl; have hcz49_3 : w47.cell? ⟨gb188, 3, none⟩ = some (.int .i64 0) := (blk_cell BK188.out 3).trans rfl; have hfz49_0 := blk_frozen BK188.out 0; have hfz49_1 := blk_frozen BK188.out 1; have hfz49_2 := blk_frozen BK188.out 2; have hfz49_3 := blk_frozen BK188.out 3)); go_upto_region 21 with (first | ((with_reducible refine gate_dst (N := 15) rfl ?_); refine box_event ?hg (N := 15) ?hd (cs := #[.int .i64 0, .int .i64 0, .int .i64 0, .int .i64 0]) (t := 53) ?hr ?_; (case hd => rfl); (case hg => rfl); (case hr => first | (go_simp; done) | (go_simp; rfl)); intro gb188 hg w47 hbox hb; have n0_ := Aside0.mk (Kd.R_below (by (with_reducible repeat (first | apply Kd.R_alloc | apply Kd.R_drewN | apply Kd.R_drew)); exact HO_6.out) hb); have n1_ := Aside0.mk (Kd.R_below (by (with_reducible repeat (first | apply Kd.R_alloc | apply Kd.R_drewN | apply Kd.R_drew)); exact HO_7.out) hb); have n2_ := Aside0.mk (blk_below (g := gb167) (o := .cells #[.slice (some ad178) l0_0.length c0_0, .slice (some ad187) l0_1.length c0_1, .int .i64 a0_2] 30 (0, 0)) (by (with_reducible repeat (first | refine blk_drewN ?_ _ | refine blk_drew ?_ | refine blk_alloc ?_ _)); exact BK167.out) hb); have n3_ := Aside0.mk (below_step (by repeat (first | (with_reducible first | exact HB.out | apply below_alloc | apply pw_below_drewN | apply below_drew1 | refine below_set ?_ GE167.out) | exact HB.out)) hb); have n4_ := Aside0.mk (hbox); have n5_ := Aside0.mk ((by rw [hg]; exact (below_size (by repeat (first | (with_reducible first | exact HB.out | apply below_alloc | apply pw_below_drewN | apply below_drew1 | refine below_set ?_ GE167.out) | exact HB.out))) : w.heap.size ≤ gb188)); have n6_ := Aside0.mk ((by rw [hg]; exact (below_size (by repeat (first | (with_reducible first | exact HB.out | apply below_alloc | apply pw_below_drewN | apply below_drew1 | refine below_set ?_ GE167.out) | exact HB.out))) : w.heap.size ≤ gb188)); have n7_ := Aside0.mk ((by rw [hg]; exact Nat.ne_of_lt (blk_lt (g := gb167) (o := .cells #[.slice (some ad178) l0_0.length c0_0, .slice (some ad187) l0_1.length c0_1, .int .i64 a0_2] 30 (0, 0)) (by (with_reducible repeat (first | refine blk_drewN ?_ _ | refine blk_drew ?_ | refine blk_alloc ?_ _)); exact BK167.out)) : gb167 ≠ gb188)); have n8_ := Aside0.mk ((by rw [hg]; exact Nat.ne_of_gt (blk_lt (g := gb167) (o := .cells #[.slice (some ad178) l0_0.length c0_0, .slice (some ad187) l0_1.length c0_1, .int .i64 a0_2] 30 (0, 0)) (by (with_reducible repeat (first | refine blk_drewN ?_ _ | refine blk_drew ?_ | refine blk_alloc ?_ _)); exact BK167.out)) : gb188 ≠ gb167)); clear HO_6; clear HO_7; clear BK167; clear HB; have HO_6 := n0_; have HO_7 := n1_; have BK167 := n2_; have HB := n3_; have BK188 := n4_; have GW188 := n5_; have GE188 := n6_; have NB167_188 := n7_; have NB188_167 := n8_; clear n0_ n1_ n2_ n3_ n4_ n5_ n6_ n7_ n8_; clear hb hbox hg; have hnb48 := NB188_167.out; have hnc48 := NB167_188.out; have hcz49_0 : w47.cell? ⟨gb188, 0, none⟩ = some (.int .i64 0) := (blk_cell BK188.out 0).trans rfl; have hcz49_1 : w47.cell? ⟨gb188, 1, none⟩ = some (.int .i64 0) := (blk_cell BK188.out 1).trans rfl; have hcz49_2 : w47.cell? ⟨gb188, 2, none⟩ = some (.int .i64 0) := (blk_cell BK188.out 2).trans rfl; have hcz49_3 : w47.cell? ⟨gb188, 3, none⟩ = some (.int .i64 0) := (blk_cell BK188.out 3).trans rfl; have hfz49_0 := blk_frozen BK188.out 0; have hfz49_1 := blk_frozen BK188.out 1; have hfz49_2 := blk_frozen BK188.out 2; have hfz49_3 := blk_frozen BK188.out 3)))
               (try simp only [Act.put, List.setIfInBounds_toArray, List.set_cons_zero, List.set_cons_succ])
               go_cut [124] (fun v124 wc => ∃ (kq : Nat) (x124_44 : Bool), v124 = .bool x124_44 ∧ Aside0 (spec_l11Play.j4 kq l1 x6_2 x7_4 x9_2 x10_3 x13_4 x14_4 x124_44 l0_0 l0_1 a0_2 ((rd_T53 l0_1 x14_4).f0) ((rd_T53 l0_1 x14_4).f1) ((rd_T53 l0_1 x14_4).f2) ((rd_T53 l0_1 x14_4).f3) = some (r1, r2)) ∧ Aside0 (kq ≤ k4) ∧ Aside0 (Kd.R (Kd.int .i64) 3 wc w.heap.size (fun _ => True) u6 x6_2) ∧ Aside0 (Kd.R Kd.bool 4 wc w.heap.size (fun _ => True) u7 x7_4) ∧ Aside0 (wc.heap[gb167]? = some (.cells #[(.slice (some ad178) l0_0.length c0_0), (.slice (some ad187) l0_1.length c0_1), .int .i64 a0_2] 30 (0, 0))) ∧ Aside0 (wc.heap[gb188]? = some (.cells #[.int .i64 ((rd_T53 l0_1 x14_4).f0), .int .i64 ((rd_T53 l0_1 x14_4).f1), .int .i64 ((rd_T53 l0_1 x14_4).f2), .int .i64 ((rd_T53 l0_1 x14_4).f3)] 53 (0, 0))) ∧ Aside0 (Below w.heap.size w wc))
               case first =>
                have H := HC45.out
                clear HC45
                by_cases c50 : ((rd_T53 l0_1 x14_4).f1) = x9_2
                ·
                 rw [if_pos c50] at H
                 have c50b0 : (((rd_T53 l0_1 x14_4).f1) == x9_2) = true := beq_iff_eq.mpr c50
                 have c50b1 : (((rd_T53 l0_1 x14_4).f1) != x9_2) = false := bne_eq_false_iff_eq.mpr c50
                 clear c50
                 (first | rw [c50b0] | (simp only [i64_w, i32_w]; rw [c50b0]) | skip)
                 by_cases c51 : ((rd_T53 l0_1 x14_4).f3) = 1
                 ·
                  rw [if_pos c51] at H
                  have c51b0 : (((rd_T53 l0_1 x14_4).f3) == 1) = true := beq_iff_eq.mpr c51
                  have c51b1 : (((rd_T53 l0_1 x14_4).f3) != 1) = false := bne_eq_false_iff_eq.mpr c51
                  clear c51
                  by_cases c52 : 0 ≤ ((rd_T53 l0_1 x14_4).f0)
                  ·
                   rw [if_pos c52] at H
                   have c52b0 : decide (0 ≤ ((rd_T53 l0_1 x14_4).f0)) = true := decide_eq_true c52
                   clear c52
                   by_cases c53 : ((rd_T53 l0_1 x14_4).f0) < (x6_2.length : Int)
                   ·
                    rw [if_pos c53] at H
                    have c53b0 : decide (((rd_T53 l0_1 x14_4).f0) < (x6_2.length : Int)) = true := decide_eq_true c53
                    clear c53
                    have H' := Aside0.mk H
                    clear H
                    have hnb54 := NB188_167.out
                    have hnc54 := NB167_188.out
                    have hcz55_0 : w47.cell? ⟨gb188, 0, none⟩ = some (.int .i64 0) := (blk_cell BK188.out 0).trans rfl
                    have hcz55_1 : w47.cell? ⟨gb188, 1, none⟩ = some (.int .i64 0) := (blk_cell BK188.out 1).trans rfl
                    have hcz55_2 : w47.cell? ⟨gb188, 2, none⟩ = some (.int .i64 0) := (blk_cell BK188.out 2).trans rfl
                    have hcz55_3 : w47.cell? ⟨gb188, 3, none⟩ = some (.int .i64 0) := (blk_cell BK188.out 3).trans rfl
                    have hfz55_0 := blk_frozen BK188.out 0
                    have hfz55_1 := blk_frozen BK188.out 1
                    have hfz55_2 := blk_frozen BK188.out 2
                    have hfz55_3 := blk_frozen BK188.out 3
                    obtain ⟨Ao56, co56, eo56⟩ := Kd.R_slice HO_6.out
                    subst eo56
                    have p189 : 0 ≤ (((rd_T53 l0_1 x14_4).f0) : Int) := of_decide_eq_true (by first | (with_reducible assumption) | assumption)
                    have q189 : ((rd_T53 l0_1 x14_4).f0) < (x6_2.length : Int) := of_decide_eq_true (by first | (with_reducible assumption) | assumption)
                    obtain ⟨ad189, e189, hx189_0⟩ := Kd.at_int (Kd.R_reads' HO_6.out).2.2 ((rd_T53 l0_1 x14_4).f0) p189 q189
                    cases e189
                    have hn189_0 : ad189.block ≠ gb188 := Kd.own_blk (Kd.R_ne HO_6.out BK188.out (by decide))
                    have hn189_1 : ad189.block ≠ gb188 := Kd.own_blk (Kd.R_ne HO_6.out BK188.out (by decide))
                    have hn189_2 : ad189.block ≠ gb188 := Kd.own_blk (Kd.R_ne HO_6.out BK188.out (by decide))
                    have hn189_3 : ad189.block ≠ gb188 := Kd.own_blk (Kd.R_ne HO_6.out BK188.out (by decide))
                    replace hx189_0 := (cell_far (p := ⟨gb188, 0, none⟩) (by first | (rw [add_block]; exact hn189_0) | (show (Addr.add _ _).block ≠ _; rw [add_block]; exact hn189_0) | exact hn189_0) (.int .i64 ((rd_T53 l0_1 x14_4).f0))).trans hx189_0
                    replace hx189_0 := (cell_far (p := ⟨gb188, 1, none⟩) (by first | (rw [add_block]; exact hn189_1) | (show (Addr.add _ _).block ≠ _; rw [add_block]; exact hn189_1) | exact hn189_1) (.int .i64 ((rd_T53 l0_1 x14_4).f1))).trans hx189_0
                    replace hx189_0 := (cell_far (p := ⟨gb188, 2, none⟩) (by first | (rw [add_block]; exact hn189_2) | (show (Addr.add _ _).block ≠ _; rw [add_block]; exact hn189_2) | exact hn189_2) (.int .i64 ((rd_T53 l0_1 x14_4).f2))).trans hx189_0
                    replace hx189_0 := (cell_far (p := ⟨gb188, 3, none⟩) (by first | (rw [add_block]; exact hn189_3) | (show (Addr.add _ _).block ≠ _; rw [add_block]; exact hn189_3) | exact hn189_3) (.int .i64 ((rd_T53 l0_1 x14_4).f3))).trans hx189_0
                    (try have hy189_0 := fun (n_ : Nat) => (show ((((((w47.drewN n_).setCell ⟨gb188, 0, none⟩ (.int .i64 ((rd_T53 l0_1 x14_4).f0))).setCell ⟨gb188, 1, none⟩ (.int .i64 ((rd_T53 l0_1 x14_4).f1))).setCell ⟨gb188, 2, none⟩ (.int .i64 ((rd_T53 l0_1 x14_4).f2))).setCell ⟨gb188, 3, none⟩ (.int .i64 ((rd_T53 l0_1 x14_4).f3)))).cell? _ = some _ from hx189_0))
                    clear hn189_0
                    clear hn189_1
                    clear hn189_2
                    clear hn189_3
                    replace p189 := eq_true p189
                    replace q189 := eq_true q189
                    have hcz57_0 : w47.cell? ⟨gb167, 0, none⟩ = some (.slice (some ad178) l0_0.length c0_0) := (blk_cell BK167.out 0).trans rfl
                    have hcz57_1 : w47.cell? ⟨gb167, 1, none⟩ = some (.slice (some ad187) l0_1.length c0_1) := (blk_cell BK167.out 1).trans rfl
                    have hcz57_2 : w47.cell? ⟨gb167, 2, none⟩ = some (.int .i64 a0_2) := (blk_cell BK167.out 2).trans rfl
                    have hfz57_0 := blk_frozen BK167.out 0
                    have hfz57_1 := blk_frozen BK167.out 1
                    have hfz57_2 := blk_frozen BK167.out 2
                    go_wp2
                    repeat (go_quiet (fail); try go_wp2)
                    go_meet
                    case rel => exact ⟨_, (decide ((wrap64 ((rd x6_2 ((rd_T53 l0_1 x14_4).f0)) + ((rd_T53 l0_1 x14_4).f2))) ≤ (wrap64 (x10_3 + a0_2)))), (by first | rfl | (simp; done) | (simp [*]; done)), H', ⟨by have := HK1.out; have := HK2.out; have := HK3.out; have := HK4.out; first | omega | exact Nat.le_refl _⟩, ⟨by (with_reducible repeat (first | apply Kd.R_alloc | apply Kd.R_drewN | apply Kd.R_drew)); exact Kd.R_mono (Kd.R_far (p := ⟨gb188, 3, none⟩) (Kd.R_far (p := ⟨gb188, 2, none⟩) (Kd.R_far (p := ⟨gb188, 1, none⟩) (Kd.R_far (p := ⟨gb188, 0, none⟩) (Kd.R_types HO_6.out BK188.out (by decide)) (fun _ hk => hk.2) (.int .i64 ((rd_T53 l0_1 x14_4).f0))) (fun _ hk => hk.2) (.int .i64 ((rd_T53 l0_1 x14_4).f1))) (fun _ hk => hk.2) (.int .i64 ((rd_T53 l0_1 x14_4).f2))) (fun _ hk => hk.2) (.int .i64 ((rd_T53 l0_1 x14_4).f3))) (fun _ hk => trivial)⟩, ⟨by (with_reducible repeat (first | apply Kd.R_alloc | apply Kd.R_drewN | apply Kd.R_drew)); exact Kd.R_mono (Kd.R_far (p := ⟨gb188, 3, none⟩) (Kd.R_far (p := ⟨gb188, 2, none⟩) (Kd.R_far (p := ⟨gb188, 1, none⟩) (Kd.R_far (p := ⟨gb188, 0, none⟩) (Kd.R_types HO_7.out BK188.out (by decide)) (fun _ hk => hk.2) (.int .i64 ((rd_T53 l0_1 x14_4).f0))) (fun _ hk => hk.2) (.int .i64 ((rd_T53 l0_1 x14_4).f1))) (fun _ hk => hk.2) (.int .i64 ((rd_T53 l0_1 x14_4).f2))) (fun _ hk => hk.2) (.int .i64 ((rd_T53 l0_1 x14_4).f3))) (fun _ hk => trivial)⟩, ⟨by (with_reducible repeat (first | refine blk_drewN ?_ _ | refine blk_drew ?_ | refine blk_alloc ?_ _)); refine blk_far ?_ NB167_188.out _; (with_reducible repeat (first | refine blk_drewN ?_ _ | refine blk_drew ?_ | refine blk_alloc ?_ _)); refine blk_far ?_ NB167_188.out _; (with_reducible repeat (first | refine blk_drewN ?_ _ | refine blk_drew ?_ | refine blk_alloc ?_ _)); refine blk_far ?_ NB167_188.out _; (with_reducible repeat (first | refine blk_drewN ?_ _ | refine blk_drew ?_ | refine blk_alloc ?_ _)); refine blk_far ?_ NB167_188.out _; (with_reducible repeat (first | refine blk_drewN ?_ _ | refine blk_drew ?_ | refine blk_alloc ?_ _)); exact BK167.out⟩, ⟨by (with_reducible repeat (first | refine blk_drewN ?_ _ | refine blk_drew ?_ | refine blk_alloc ?_ _)); refine blk_put (cs := #[.int .i64 ((rd_T53 l0_1 x14_4).f0), .int .i64 ((rd_T53 l0_1 x14_4).f1), .int .i64 ((rd_T53 l0_1 x14_4).f2), .int .i64 0]) ?_ 3 _ rfl; (with_reducible repeat (first | refine blk_drewN ?_ _ | refine blk_drew ?_ | refine blk_alloc ?_ _)); refine blk_put (cs := #[.int .i64 ((rd_T53 l0_1 x14_4).f0), .int .i64 ((rd_T53 l0_1 x14_4).f1), .int .i64 0, .int .i64 0]) ?_ 2 _ rfl; (with_reducible repeat (first | refine blk_drewN ?_ _ | refine blk_drew ?_ | refine blk_alloc ?_ _)); refine blk_put (cs := #[.int .i64 ((rd_T53 l0_1 x14_4).f0), .int .i64 0, .int .i64 0, .int .i64 0]) ?_ 1 _ rfl; (with_reducible repeat (first | refine blk_drewN ?_ _ | refine blk_drew ?_ | refine blk_alloc ?_ _)); refine blk_put (cs := #[.int .i64 0, .int .i64 0, .int .i64 0, .int .i64 0]) ?_ 0 _ rfl; (with_reducible repeat (first | refine blk_drewN ?_ _ | refine blk_drew ?_ | refine blk_alloc ?_ _)); exact BK188.out⟩, ⟨by repeat (first | (with_reducible first | exact HB.out | apply below_alloc | apply pw_below_drewN | apply below_drew1 | refine below_set ?_ GE167.out | refine below_set ?_ GE188.out) | exact HB.out)⟩⟩
                   ·
                    rw [if_neg c53] at H
                    exact absurd H (by simp)
                  ·
                   rw [if_neg c52] at H
                   exact absurd H (by simp)
                 ·
                  rw [if_neg c51] at H
                  have c51b0 : (((rd_T53 l0_1 x14_4).f3) == 1) = false := beq_eq_false_iff_ne.mpr c51
                  have c51b1 : (((rd_T53 l0_1 x14_4).f3) != 1) = true := bne_iff_ne.mpr c51
                  have H' := Aside0.mk H
                  clear H
                  have hnb58 := NB188_167.out
                  have hnc58 := NB167_188.out
                  have hcz59_0 : w47.cell? ⟨gb188, 0, none⟩ = some (.int .i64 0) := (blk_cell BK188.out 0).trans rfl
                  have hcz59_1 : w47.cell? ⟨gb188, 1, none⟩ = some (.int .i64 0) := (blk_cell BK188.out 1).trans rfl
                  have hcz59_2 : w47.cell? ⟨gb188, 2, none⟩ = some (.int .i64 0) := (blk_cell BK188.out 2).trans rfl
                  have hcz59_3 : w47.cell? ⟨gb188, 3, none⟩ = some (.int .i64 0) := (blk_cell BK188.out 3).trans rfl
                  have hfz59_0 := blk_frozen BK188.out 0
                  have hfz59_1 := blk_frozen BK188.out 1
                  have hfz59_2 := blk_frozen BK188.out 2
                  have hfz59_3 := blk_frozen BK188.out 3
                  go_wp2
                  repeat (go_quiet (fail); try go_wp2)
                  go_meet
                  case rel => exact ⟨_, (false), (by first | rfl | (simp; done) | (simp [*]; done)), H', ⟨by have := HK1.out; have := HK2.out; have := HK3.out; have := HK4.out; first | omega | exact Nat.le_refl _⟩, ⟨by (with_reducible repeat (first | apply Kd.R_alloc | apply Kd.R_drewN | apply Kd.R_drew)); exact Kd.R_mono (Kd.R_far (p := ⟨gb188, 3, none⟩) (Kd.R_far (p := ⟨gb188, 2, none⟩) (Kd.R_far (p := ⟨gb188, 1, none⟩) (Kd.R_far (p := ⟨gb188, 0, none⟩) (Kd.R_types HO_6.out BK188.out (by decide)) (fun _ hk => hk.2) (.int .i64 ((rd_T53 l0_1 x14_4).f0))) (fun _ hk => hk.2) (.int .i64 ((rd_T53 l0_1 x14_4).f1))) (fun _ hk => hk.2) (.int .i64 ((rd_T53 l0_1 x14_4).f2))) (fun _ hk => hk.2) (.int .i64 ((rd_T53 l0_1 x14_4).f3))) (fun _ hk => trivial)⟩, ⟨by (with_reducible repeat (first | apply Kd.R_alloc | apply Kd.R_drewN | apply Kd.R_drew)); exact Kd.R_mono (Kd.R_far (p := ⟨gb188, 3, none⟩) (Kd.R_far (p := ⟨gb188, 2, none⟩) (Kd.R_far (p := ⟨gb188, 1, none⟩) (Kd.R_far (p := ⟨gb188, 0, none⟩) (Kd.R_types HO_7.out BK188.out (by decide)) (fun _ hk => hk.2) (.int .i64 ((rd_T53 l0_1 x14_4).f0))) (fun _ hk => hk.2) (.int .i64 ((rd_T53 l0_1 x14_4).f1))) (fun _ hk => hk.2) (.int .i64 ((rd_T53 l0_1 x14_4).f2))) (fun _ hk => hk.2) (.int .i64 ((rd_T53 l0_1 x14_4).f3))) (fun _ hk => trivial)⟩, ⟨by (with_reducible repeat (first | refine blk_drewN ?_ _ | refine blk_drew ?_ | refine blk_alloc ?_ _)); refine blk_far ?_ NB167_188.out _; (with_reducible repeat (first | refine blk_drewN ?_ _ | refine blk_drew ?_ | refine blk_alloc ?_ _)); refine blk_far ?_ NB167_188.out _; (with_reducible repeat (first | refine blk_drewN ?_ _ | refine blk_drew ?_ | refine blk_alloc ?_ _)); refine blk_far ?_ NB167_188.out _; (with_reducible repeat (first | refine blk_drewN ?_ _ | refine blk_drew ?_ | refine blk_alloc ?_ _)); refine blk_far ?_ NB167_188.out _; (with_reducible repeat (first | refine blk_drewN ?_ _ | refine blk_drew ?_ | refine blk_alloc ?_ _)); exact BK167.out⟩, ⟨by (with_reducible repeat (first | refine blk_drewN ?_ _ | refine blk_drew ?_ | refine blk_alloc ?_ _)); refine blk_put (cs := #[.int .i64 ((rd_T53 l0_1 x14_4).f0), .int .i64 ((rd_T53 l0_1 x14_4).f1), .int .i64 ((rd_T53 l0_1 x14_4).f2), .int .i64 0]) ?_ 3 _ rfl; (with_reducible repeat (first | refine blk_drewN ?_ _ | refine blk_drew ?_ | refine blk_alloc ?_ _)); refine blk_put (cs := #[.int .i64 ((rd_T53 l0_1 x14_4).f0), .int .i64 ((rd_T53 l0_1 x14_4).f1), .int .i64 0, .int .i64 0]) ?_ 2 _ rfl; (with_reducible repeat (first | refine blk_drewN ?_ _ | refine blk_drew ?_ | refine blk_alloc ?_ _)); refine blk_put (cs := #[.int .i64 ((rd_T53 l0_1 x14_4).f0), .int .i64 0, .int .i64 0, .int .i64 0]) ?_ 1 _ rfl; (with_reducible repeat (first | refine blk_drewN ?_ _ | refine blk_drew ?_ | refine blk_alloc ?_ _)); refine blk_put (cs := #[.int .i64 0, .int .i64 0, .int .i64 0, .int .i64 0]) ?_ 0 _ rfl; (with_reducible repeat (first | refine blk_drewN ?_ _ | refine blk_drew ?_ | refine blk_alloc ?_ _)); exact BK188.out⟩, ⟨by repeat (first | (with_reducible first | exact HB.out | apply below_alloc | apply pw_below_drewN | apply below_drew1 | refine below_set ?_ GE167.out | refine below_set ?_ GE188.out) | exact HB.out)⟩⟩
                ·
                 rw [if_neg c50] at H
                 have c50b0 : (((rd_T53 l0_1 x14_4).f1) == x9_2) = false := beq_eq_false_iff_ne.mpr c50
                 have c50b1 : (((rd_T53 l0_1 x14_4).f1) != x9_2) = true := bne_iff_ne.mpr c50
                 (first | rw [c50b0] | (simp only [i64_w, i32_w]; rw [c50b0]) | skip)
                 have H' := Aside0.mk H
                 clear H
                 have hnb60 := NB188_167.out
                 have hnc60 := NB167_188.out
                 have hcz61_0 : w47.cell? ⟨gb188, 0, none⟩ = some (.int .i64 0) := (blk_cell BK188.out 0).trans rfl
                 have hcz61_1 : w47.cell? ⟨gb188, 1, none⟩ = some (.int .i64 0) := (blk_cell BK188.out 1).trans rfl
                 have hcz61_2 : w47.cell? ⟨gb188, 2, none⟩ = some (.int .i64 0) := (blk_cell BK188.out 2).trans rfl
                 have hcz61_3 : w47.cell? ⟨gb188, 3, none⟩ = some (.int .i64 0) := (blk_cell BK188.out 3).trans rfl
                 have hfz61_0 := blk_frozen BK188.out 0
                 have hfz61_1 := blk_frozen BK188.out 1
                 have hfz61_2 := blk_frozen BK188.out 2
                 have hfz61_3 := blk_frozen BK188.out 3
                 go_wp2
                 repeat (go_quiet (fail); try go_wp2)
                 go_meet
                 case rel => exact ⟨_, (false), (by first | rfl | (simp; done) | (simp [*]; done)), H', ⟨by have := HK1.out; have := HK2.out; have := HK3.out; have := HK4.out; first | omega | exact Nat.le_refl _⟩, ⟨by (with_reducible repeat (first | apply Kd.R_alloc | apply Kd.R_drewN | apply Kd.R_drew)); exact Kd.R_mono (Kd.R_far (p := ⟨gb188, 3, none⟩) (Kd.R_far (p := ⟨gb188, 2, none⟩) (Kd.R_far (p := ⟨gb188, 1, none⟩) (Kd.R_far (p := ⟨gb188, 0, none⟩) (Kd.R_types HO_6.out BK188.out (by decide)) (fun _ hk => hk.2) (.int .i64 ((rd_T53 l0_1 x14_4).f0))) (fun _ hk => hk.2) (.int .i64 ((rd_T53 l0_1 x14_4).f1))) (fun _ hk => hk.2) (.int .i64 ((rd_T53 l0_1 x14_4).f2))) (fun _ hk => hk.2) (.int .i64 ((rd_T53 l0_1 x14_4).f3))) (fun _ hk => trivial)⟩, ⟨by (with_reducible repeat (first | apply Kd.R_alloc | apply Kd.R_drewN | apply Kd.R_drew)); exact Kd.R_mono (Kd.R_far (p := ⟨gb188, 3, none⟩) (Kd.R_far (p := ⟨gb188, 2, none⟩) (Kd.R_far (p := ⟨gb188, 1, none⟩) (Kd.R_far (p := ⟨gb188, 0, none⟩) (Kd.R_types HO_7.out BK188.out (by decide)) (fun _ hk => hk.2) (.int .i64 ((rd_T53 l0_1 x14_4).f0))) (fun _ hk => hk.2) (.int .i64 ((rd_T53 l0_1 x14_4).f1))) (fun _ hk => hk.2) (.int .i64 ((rd_T53 l0_1 x14_4).f2))) (fun _ hk => hk.2) (.int .i64 ((rd_T53 l0_1 x14_4).f3))) (fun _ hk => trivial)⟩, ⟨by (with_reducible repeat (first | refine blk_drewN ?_ _ | refine blk_drew ?_ | refine blk_alloc ?_ _)); refine blk_far ?_ NB167_188.out _; (with_reducible repeat (first | refine blk_drewN ?_ _ | refine blk_drew ?_ | refine blk_alloc ?_ _)); refine blk_far ?_ NB167_188.out _; (with_reducible repeat (first | refine blk_drewN ?_ _ | refine blk_drew ?_ | refine blk_alloc ?_ _)); refine blk_far ?_ NB167_188.out _; (with_reducible repeat (first | refine blk_drewN ?_ _ | refine blk_drew ?_ | refine blk_alloc ?_ _)); refine blk_far ?_ NB167_188.out _; (with_reducible repeat (first | refine blk_drewN ?_ _ | refine blk_drew ?_ | refine blk_alloc ?_ _)); exact BK167.out⟩, ⟨by (with_reducible repeat (first | refine blk_drewN ?_ _ | refine blk_drew ?_ | refine blk_alloc ?_ _)); refine blk_put (cs := #[.int .i64 ((rd_T53 l0_1 x14_4).f0), .int .i64 ((rd_T53 l0_1 x14_4).f1), .int .i64 ((rd_T53 l0_1 x14_4).f2), .int .i64 0]) ?_ 3 _ rfl; (with_reducible repeat (first | refine blk_drewN ?_ _ | refine blk_drew ?_ | refine blk_alloc ?_ _)); refine blk_put (cs := #[.int .i64 ((rd_T53 l0_1 x14_4).f0), .int .i64 ((rd_T53 l0_1 x14_4).f1), .int .i64 0, .int .i64 0]) ?_ 2 _ rfl; (with_reducible repeat (first | refine blk_drewN ?_ _ | refine blk_drew ?_ | refine blk_alloc ?_ _)); refine blk_put (cs := #[.int .i64 ((rd_T53 l0_1 x14_4).f0), .int .i64 0, .int .i64 0, .int .i64 0]) ?_ 1 _ rfl; (with_reducible repeat (first | refine blk_drewN ?_ _ | refine blk_drew ?_ | refine blk_alloc ?_ _)); refine blk_put (cs := #[.int .i64 0, .int .i64 0, .int .i64 0, .int .i64 0]) ?_ 0 _ rfl; (with_reducible repeat (first | refine blk_drewN ?_ _ | refine blk_drew ?_ | refine blk_alloc ?_ _)); exact BK188.out⟩, ⟨by repeat (first | (with_reducible first | exact HB.out | apply below_alloc | apply pw_below_drewN | apply below_drew1 | refine below_set ?_ GE167.out | refine below_set ?_ GE188.out) | exact HB.out)⟩⟩
               case rest =>
                clear HC45
                try clear c1
                try clear p1
                try clear q1
                try clear hx1
                try clear c2
                try clear p2
                try clear c3
                try clear c4
                try clear c5
                try clear c6
                try clear p6
                try clear c8
                try clear c8b0
                try clear c9
                try clear c9b0
                try clear c10
                try clear c14
                try clear c14b0
                try clear c15
                try clear c15b0
                try clear c17
                try clear c17b0
                try clear p17
                try clear q17
                try clear hx17
                try clear c18
                try clear c18b0
                try clear p18
                try clear q18
                try clear hx18
                try clear c19
                try clear c19b0
                try clear c19b1
                try clear c20
                try clear c20b0
                try clear c20b1
                try clear c21
                try clear c21b0
                try clear c22
                try clear c22b0
                try clear c23
                try clear c23b0
                try clear c26
                try clear c31
                try clear c36
                try clear c40
                try clear c43
                try clear c43b0
                try clear c44
                try clear c44b0
                try clear c48
                try clear c50
                try clear c50b0
                try clear c50b1
                try clear c51
                try clear c51b0
                try clear c51b1
                try clear c52
                try clear c52b0
                try clear c53
                try clear c53b0
                try clear c54
                try clear c58
                try clear c60
                try clear hcz11_0
                try clear hcz11_1
                try clear hcz11_2
                try clear hcz13_0
                try clear hcz13_1
                try clear hcz13_2
                try clear hcz16_0
                try clear hcz16_1
                try clear hcz16_2
                try clear hcz24_0
                try clear hcz24_1
                try clear hcz24_2
                try clear hcz27_0
                try clear hcz27_1
                try clear hcz27_2
                try clear hcz27_3
                try clear hcz29_0
                try clear hcz29_1
                try clear hcz29_2
                try clear hcz32_0
                try clear hcz32_1
                try clear hcz32_2
                try clear hcz32_3
                try clear hcz34_0
                try clear hcz34_1
                try clear hcz34_2
                try clear hcz37_0
                try clear hcz37_1
                try clear hcz37_2
                try clear hcz37_3
                try clear hcz38_0
                try clear hcz38_1
                try clear hcz38_2
                try clear hcz41_0
                try clear hcz41_1
                try clear hcz41_2
                try clear hcz41_3
                try clear hcz42_0
                try clear hcz42_1
                try clear hcz42_2
                try clear hcz46_0
                try clear hcz46_1
                try clear hcz46_2
                try clear hcz49_0
                try clear hcz49_1
                try clear hcz49_2
                try clear hcz49_3
                try clear hcz55_0
                try clear hcz55_1
                try clear hcz55_2
                try clear hcz55_3
                try clear hcz57_0
                try clear hcz57_1
                try clear hcz57_2
                try clear hcz59_0
                try clear hcz59_1
                try clear hcz59_2
                try clear hcz59_3
                try clear hcz61_0
                try clear hcz61_1
                try clear hcz61_2
                try clear hcz61_3
                try clear hfz11_0
                try clear hfz11_1
                try clear hfz11_2
                try clear hfz13_0
                try clear hfz13_1
                try clear hfz13_2
                try clear hfz16_0
                try clear hfz16_1
                try clear hfz16_2
                try clear hfz24_0
                try clear hfz24_1
                try clear hfz24_2
                try clear hfz27_0
                try clear hfz27_1
                try clear hfz27_2
                try clear hfz27_3
                try clear hfz29_0
                try clear hfz29_1
                try clear hfz29_2
                try clear hfz32_0
                try clear hfz32_1
                try clear hfz32_2
                try clear hfz32_3
                try clear hfz34_0
                try clear hfz34_1
                try clear hfz34_2
                try clear hfz37_0
                try clear hfz37_1
                try clear hfz37_2
                try clear hfz37_3
                try clear hfz38_0
                try clear hfz38_1
                try clear hfz38_2
                try clear hfz41_0
                try clear hfz41_1
                try clear hfz41_2
                try clear hfz41_3
                try clear hfz42_0
                try clear hfz42_1
                try clear hfz42_2
                try clear hfz46_0
                try clear hfz46_1
                try clear hfz46_2
                try clear hfz49_0
                try clear hfz49_1
                try clear hfz49_2
                try clear hfz49_3
                try clear hfz55_0
                try clear hfz55_1
                try clear hfz55_2
                try clear hfz55_3
                try clear hfz57_0
                try clear hfz57_1
                try clear hfz57_2
                try clear hfz59_0
                try clear hfz59_1
                try clear hfz59_2
                try clear hfz59_3
                try clear hfz61_0
                try clear hfz61_1
                try clear hfz61_2
                try clear hfz61_3
                try clear hx174_0
                try clear hx174_1
                try clear hx174_2
                try clear hx174_3
                try clear hx178_0
                try clear hx179_0
                try clear hx179_1
                try clear hx179_2
                try clear hx179_3
                try clear hx181_0
                try clear hx182_0
                try clear hx187_0
                try clear hx187_1
                try clear hx187_2
                try clear hx187_3
                try clear hx189_0
                try clear p1
                try clear p17
                try clear p174
                try clear p178
                try clear p179
                try clear p18
                try clear p181
                try clear p182
                try clear p187
                try clear p189
                try clear p2
                try clear p6
                try clear q1
                try clear q17
                try clear q174
                try clear q178
                try clear q179
                try clear q18
                try clear q181
                try clear q182
                try clear q187
                try clear q189
                obtain ⟨kq, x124_44, rfl, HA, HJ44, HO_6, HO_7, BK167, BK188, HB⟩ := hcut
                cases kq with
                | zero => exact absurd HA.out (by simp [spec_l11Play.j4])
                | succ kj44 =>
                 have H := HA.out
                 clear HA
                 simp only [spec_l11Play.j4] at H
                 by_cases c62 : x124_44 = true
                 ·
                  subst c62
                  have H1 : (if 0 ≤ x14_4 then (if x14_4 < (x7_4.length : Int) then ((some (x7_4.set (x14_4 : Int).toNat true : List Bool)).bind fun y190 => (if 0 ≤ ((rd_T53 l0_1 x14_4).f0) then (if ((rd_T53 l0_1 x14_4).f0) < (x6_2.length : Int) then (if (wrap64 ((rd x6_2 ((rd_T53 l0_1 x14_4).f0)) + ((rd_T53 l0_1 x14_4).f2))) > x13_4 then (spec_l11Play.l3 kj44 l1 x6_2 y190 x9_2 x10_3 (wrap64 ((rd x6_2 ((rd_T53 l0_1 x14_4).f0)) + ((rd_T53 l0_1 x14_4).f2))) (wrap64 (x14_4 + 1)) l0_0 l0_1 a0_2) else (spec_l11Play.l3 kj44 l1 x6_2 y190 x9_2 x10_3 x13_4 (wrap64 (x14_4 + 1)) l0_0 l0_1 a0_2)) else (none)) else (none))) else (none)) else (none)) = some (r1, r2) := by rw [if_pos rfl] at H; exact H
                  clear H
                  have H := H1
                  clear H1
                  by_cases c63 : 0 ≤ x14_4
                  ·
                   rw [if_pos c63] at H
                   have c63b0 : decide (0 ≤ x14_4) = true := decide_eq_true c63
                   clear c63
                   by_cases c64 : x14_4 < (x7_4.length : Int)
                   ·
                    rw [if_pos c64] at H
                    have c64b0 : decide (x14_4 < (x7_4.length : Int)) = true := decide_eq_true c64
                    clear c64
                    obtain ⟨y190, hy190⟩ : ∃ y_ : List Bool, y_ = (x7_4.set (x14_4 : Int).toNat true) := ⟨_, rfl⟩
                    replace H : (if 0 ≤ ((rd_T53 l0_1 x14_4).f0) then (if ((rd_T53 l0_1 x14_4).f0) < (x6_2.length : Int) then (if (wrap64 ((rd x6_2 ((rd_T53 l0_1 x14_4).f0)) + ((rd_T53 l0_1 x14_4).f2))) > x13_4 then (spec_l11Play.l3 kj44 l1 x6_2 y190 x9_2 x10_3 (wrap64 ((rd x6_2 ((rd_T53 l0_1 x14_4).f0)) + ((rd_T53 l0_1 x14_4).f2))) (wrap64 (x14_4 + 1)) l0_0 l0_1 a0_2) else (spec_l11Play.l3 kj44 l1 x6_2 y190 x9_2 x10_3 x13_4 (wrap64 (x14_4 + 1)) l0_0 l0_1 a0_2)) else (none)) else (none)) = some (r1, r2) := by first | (rw [hy190]; with_reducible exact H) | (have H2_ := (Option.bind_some _ _).symm.trans H; rw [hy190]; with_reducible exact H2_) | (have H2_ := (Option.bind_some _ _).symm.trans H; with_reducible exact H2_) | with_reducible exact H | (rw [hy190]; exact H) | exact H
                    have Ny190 := Aside0.mk hy190
                    clear hy190
                    by_cases c66 : 0 ≤ ((rd_T53 l0_1 x14_4).f0)
                    ·
                     rw [if_pos c66] at H
                     have c66b0 : decide (0 ≤ ((rd_T53 l0_1 x14_4).f0)) = true := decide_eq_true c66
                     clear c66
                     by_cases c67 : ((rd_T53 l0_1 x14_4).f0) < (x6_2.length : Int)
                     ·
                      rw [if_pos c67] at H
                      have c67b0 : decide (((rd_T53 l0_1 x14_4).f0) < (x6_2.length : Int)) = true := decide_eq_true c67
                      clear c67
                      by_cases c68 : (wrap64 ((rd x6_2 ((rd_T53 l0_1 x14_4).f0)) + ((rd_T53 l0_1 x14_4).f2))) > x13_4
                      ·
                       rw [if_pos c68] at H
                       have c68b0 : decide (x13_4 < (wrap64 ((rd x6_2 ((rd_T53 l0_1 x14_4).f0)) + ((rd_T53 l0_1 x14_4).f2)))) = true := decide_eq_true c68
                       clear c68
                       have H' := Aside0.mk H
                       clear H
                       have p65 : 0 ≤ (x14_4 : Int) := of_decide_eq_true (by first | (with_reducible assumption) | assumption)
                       have q65 : (x14_4 : Int) < ((x7_4.length : Int) : Int) := of_decide_eq_true (by first | (with_reducible assumption) | assumption)
                       obtain ⟨go65, co65, eo65, gb65, gl65, cl65, HG65⟩ := Kd.R_form HO_7.out (by omega)
                       (first | cases eo65 | (injection eo65 with ea_ en_ ec_; (first | subst ea_ | (injection ea_ with ea_; subst ea_)); subst ec_; clear en_))
                       have GB65 := Aside0.mk gb65
                       have GG65 := Aside0.mk HG65
                       clear gb65 gl65 HG65
                       obtain ⟨hx65_0, hf65_0⟩ := Kd.R_celln false HO_7.out (x14_4 : Int) p65 q65
                       replace p65 := eq_true p65
                       replace q65 := eq_true q65
                       have HP69 := Kd.R_putg HO_7.out (x14_4 : Int) true
                       go_wp2_with (first | ((with_reducible refine gate_store (t := 4) (p := 127) rfl ?_); (try (rw [drewN_self wc]; generalize hq_ : World.drewN wc _ = wc; have n0_ := Aside0.mk (Kd.R_at hq_ HO_6.out); have n1_ := Aside0.mk (Kd.R_at hq_ HO_7.out); have n2_ := Aside0.mk (blk_at hq_ BK167.out); have n3_ := Aside0.mk (blk_at hq_ BK188.out); have n4_ := Aside0.mk (below_at hq_ HB.out); clear hq_ HO_6 HO_7 BK167 BK188 HB; have HO_6 := n0_; have HO_7 := n1_; have BK167 := n2_; have BK188 := n3_; have HB := n4_; clear n0_ n1_ n2_ n3_ n4_; (try (have HP69 := Kd.R_putg HO_7.out (x14_4 : Int) true)))); refine store_event (t := 4) (p := 127) (v := ?vo_w70) (w1 := (wc.setCell ⟨go65, (x14_4 : Int).toNat, none⟩ (.bool true))) ?hg ?ho ?hn ?hr ?_; (case ho => rfl); (case hg => rfl); (case hn => rfl); (case hr => first | (go_simp; done) | (go_simp; rfl)); intro w70 hw; have hg : wc.grownBy w70 (some go65) := (by rw [hw]; exact HP69.2); have hp_ : Kd.R Kd.bool 4 w70 w.heap.size (fun _ => True) (.slice (some ⟨go65, 0, none⟩) x7_4.length co65) y190 := (by rw [hw, Ny190.out]; exact HP69.1); clear HP69; have n0_ := Aside0.mk (Kd.R_over' (v := (.slice (some ⟨go65, 0, none⟩) x7_4.length co65)) (by (with_reducible repeat (first | apply Kd.R_alloc | apply Kd.R_drewN | apply Kd.R_drew)); exact HO_6.out) (Kd.R_typed HO_7.out) (by decide) hg); have n1_ := Aside0.mk (hp_); have n2_ := Aside0.mk (blk_grown (g := gb167) (o := .cells #[.slice (some ad178) l0_0.length c0_0, .slice (some ad187) l0_1.length c0_1, .int .i64 a0_2] 30 (0, 0)) (by (with_reducible repeat (first | refine blk_drewN ?_ _ | refine blk_drew ?_ | refine blk_alloc ?_ _)); exact BK167.out) hg (Kd.R_ne HO_7.out BK167.out (by decide))); have n3_ := Aside0.mk (blk_grown (g := gb188) (o := .cells #[.int .i64 ((rd_T53 l0_1 x14_4).f0), .int .i64 ((rd_T53 l0_1 x14_4).f1), .int .i64 ((rd_T53 l0_1 x14_4).f2), .int .i64 ((rd_T53 l0_1 x14_4).f3)] 53 (0, 0)) (by (with_reducible repeat (first | refine blk_drewN ?_ _ | refine blk_drew ?_ | refine blk_alloc ?_ _)); exact BK188.out) hg (Kd.R_ne HO_7.out BK188.out (by decide))); have n4_ := Aside0.mk ((by rw [hw]; exact below_set (HB.out) GB65.out : Below w.heap.size w w70)); clear HO_6; clear HO_7; clear BK167; clear BK188; clear HB; have HO_6 := n0_; have HO_7 := n1_; have BK167 := n2_; have BK188 := n3_; have HB := n4_; clear n0_ n1_ n2_ n3_ n4_; clear hg hw hp_; have hnb71 := NB188_167.out; have hnc71 := NB167_188.out; have hcz72_0 : w70.cell? ⟨gb188, 0, none⟩ = some (.int .i64 ((rd_T53 l0_1 x14_4).f0)) := (blk_cell BK188.out 0).trans rfl; have hcz72_1 : w70.cell? ⟨gb188, 1, none⟩ = some (.int .i64 ((rd_T53 l0_1 x14_4).f1)) := (blk_cell BK188.out 1).trans rfl; have hcz72_2 : w70.cell? ⟨gb188, 2, none⟩ = some (.int .i64 ((rd_T53 l0_1 x14_4).f2)) := (blk_cell BK188.out 2).trans rfl; have hcz72_3 : w70.cell? ⟨gb188, 3, none⟩ = some (.int .i64 ((rd_T53 l0_1 x14_4).f3)) := (blk_cell BK188.out 3).trans rfl; have hfz72_0 := blk_frozen BK188.out 0; have hfz72_1 := blk_frozen BK188.out 1; have hfz72_2 := blk_frozen BK188.out 2; have hfz72_3 := blk_frozen BK188.out 3; obtain ⟨Ao73, co73, eo73⟩ := Kd.R_slice HO_6.out; subst eo73; have p191 : 0 ≤ (((rd_T53 l0_1 x14_4).f0) : Int) := of_decide_eq_true (by first | (with_reducible assumption) | assumption); have q191 : ((rd_T53 l0_1 x14_4).f0) < (x6_2.length : Int) := of_decide_eq_true (by first | (with_reducible assumption) | assumption); obtain ⟨ad191, e191, hx191_0⟩ := Kd.at_int (Kd.R_reads' HO_6.out).2.2 ((rd_T53 l0_1 x14_4).f0) p191 q191; cases e191; replace p191 := eq_true p191; replace q191 := eq_true q191; have p192 : 0 ≤ (((rd_T53 l0_1 x14_4).f0) : Int) := of_decide_eq_true (by first | (with_reducible assumption) | assumption); have q192 : ((rd_T53 l0_1 x14_4).f0) < (x6_2.length : Int) := of_decide_eq_true (by first | (with_reducible assumption) | assumption); obtain ⟨ad192, e192, hx192_0⟩ := Kd.at_int (Kd.R_reads' HO_6.out).2.2 ((rd_T53 l0_1 x14_4).f0) p192 q192; obtain rfl : ad191 = ad192 := (by injection e192); replace p192 := eq_true p192; replace q192 := eq_true q192))
                       repeat (go_quiet (first | ((with_reducible refine gate_store (t := 4) (p := 127) rfl ?_); (try (rw [drewN_self wc]; generalize hq_ : World.drewN wc _ = wc; have n0_ := Aside0.mk (Kd.R_at hq_ HO_6.out); have n1_ := Aside0.mk (Kd.R_at hq_ HO_7.out); have n2_ := Aside0.mk (blk_at hq_ BK167.out); have n3_ := Aside0.mk (blk_at hq_ BK188.out); have n4_ := Aside0.mk (below_at hq_ HB.out); clear hq_ HO_6 HO_7 BK167 BK188 HB; have HO_6 := n0_; have HO_7 := n1_; have BK167 := n2_; have BK188 := n3_; have HB := n4_; clear n0_ n1_ n2_ n3_ n4_; (try (have HP69 := Kd.R_putg HO_7.out (x14_4 : Int) true)))); refine store_event (t := 4) (p := 127) (v := ?vo_w70) (w1 := (wc.setCell ⟨go65, (x14_4 : Int).toNat, none⟩ (.bool true))) ?hg ?ho ?hn ?hr ?_; (case ho => rfl); (case hg => rfl); (case hn => rfl); (case hr => first | (go_simp; done) | (go_simp; rfl)); intro w70 hw; have hg : wc.grownBy w70 (some go65) := (by rw [hw]; exact HP69.2); have hp_ : Kd.R Kd.bool 4 w70 w.heap.size (fun _ => True) (.slice (some ⟨go65, 0, none⟩) x7_4.length co65) y190 := (by rw [hw, Ny190.out]; exact HP69.1); clear HP69; have n0_ := Aside0.mk (Kd.R_over' (v := (.slice (some ⟨go65, 0, none⟩) x7_4.length co65)) (by (with_reducible repeat (first | apply Kd.R_alloc | apply Kd.R_drewN | apply Kd.R_drew)); exact HO_6.out) (Kd.R_typed HO_7.out) (by decide) hg); have n1_ := Aside0.mk (hp_); have n2_ := Aside0.mk (blk_grown (g := gb167) (o := .cells #[.slice (some ad178) l0_0.length c0_0, .slice (some ad187) l0_1.length c0_1, .int .i64 a0_2] 30 (0, 0)) (by (with_reducible repeat (first | refine blk_drewN ?_ _ | refine blk_drew ?_ | refine blk_alloc ?_ _)); exact BK167.out) hg (Kd.R_ne HO_7.out BK167.out (by decide))); have n3_ := Aside0.mk (blk_grown (g := gb188) (o := .cells #[.int .i64 ((rd_T53 l0_1 x14_4).f0), .int .i64 ((rd_T53 l0_1 x14_4).f1), .int .i64 ((rd_T53 l0_1 x14_4).f2), .int .i64 ((rd_T53 l0_1 x14_4).f3)] 53 (0, 0)) (by (with_reducible repeat (first | refine blk_drewN ?_ _ | refine blk_drew ?_ | refine blk_alloc ?_ _)); exact BK188.out) hg (Kd.R_ne HO_7.out BK188.out (by decide))); have n4_ := Aside0.mk ((by rw [hw]; exact below_set (HB.out) GB65.out : Below w.heap.size w w70)); clear HO_6; clear HO_7; clear BK167; clear BK188; clear HB; have HO_6 := n0_; have HO_7 := n1_; have BK167 := n2_; have BK188 := n3_; have HB := n4_; clear n0_ n1_ n2_ n3_ n4_; clear hg hw hp_; have hnb71 := NB188_167.out; have hnc71 := NB167_188.out; have hcz72_0 : w70.cell? ⟨gb188, 0, none⟩ = some (.int .i64 ((rd_T53 l0_1 x14_4).f0)) := (blk_cell BK188.out 0).trans rfl; have hcz72_1 : w70.cell? ⟨gb188, 1, none⟩ = some (.int .i64 ((rd_T53 l0_1 x14_4).f1)) := (blk_cell BK188.out 1).trans rfl; have hcz72_2 : w70.cell? ⟨gb188, 2, none⟩ = some (.int .i64 ((rd_T53 l0_1 x14_4).f2)) := (blk_cell BK188.out 2).trans rfl; have hcz72_3 : w70.cell? ⟨gb188, 3, none⟩ = some (.int .i64 ((rd_T53 l0_1 x14_4).f3)) := (blk_cell BK188.out 3).trans rfl; have hfz72_0 := blk_frozen BK188.out 0; have hfz72_1 := blk_frozen BK188.out 1; have hfz72_2 := blk_frozen BK188.out 2; have hfz72_3 := blk_frozen BK188.out 3; obtain ⟨Ao73, co73, eo73⟩ := Kd.R_slice HO_6.out; subst eo73; have p191 : 0 ≤ (((rd_T53 l0_1 x14_4).f0) : Int) := of_decide_eq_true (by first | (with_reducible assumption) | assumption); have q191 : ((rd_T53 l0_1 x14_4).f0) < (x6_2.length : Int) := of_decide_eq_true (by first | (with_reducible assumption) | assumption); obtain ⟨ad191, e191, hx191_0⟩ := Kd.at_int (Kd.R_reads' HO_6.out).2.2 ((rd_T53 l0_1 x14_4).f0) p191 q191; cases e191; replace p191 := eq_true p191; replace q191 := eq_true q191; have p192 : 0 ≤ (((rd_T53 l0_1 x14_4).f0) : Int) := of_decide_eq_true (by first | (with_reducible assumption) | assumption); have q192 : ((rd_T53 l0_1 x14_4).f0) < (x6_2.length : Int) := of_decide_eq_true (by first | (with_reducible assumption) | assumption); obtain ⟨ad192, e192, hx192_0⟩ := Kd.at_int (Kd.R_reads' HO_6.out).2.2 ((rd_T53 l0_1 x14_4).f0) p192 q192; obtain rfl : ad191 = ad192 := (by injection e192); replace p192 := eq_true p192; replace q192 := eq_true q192)); try go_wp2_with (first | ((with_reducible refine gate_store (t := 4) (p := 127) rfl ?_); (try (rw [drewN_self wc]; generalize hq_ : World.drewN wc _ = wc; have n0_ := Aside0.mk (Kd.R_at hq_ HO_6.out); have n1_ := Aside0.mk (Kd.R_at hq_ HO_7.out); have n2_ := Aside0.mk (blk_at hq_ BK167.out); have n3_ := Aside0.mk (blk_at hq_ BK188.out); have n4_ := Aside0.mk (below_at hq_ HB.out); clear hq_ HO_6 HO_7 BK167 BK188 HB; have HO_6 := n0_; have HO_7 := n1_; have BK167 := n2_; have BK188 := n3_; have HB := n4_; clear n0_ n1_ n2_ n3_ n4_; (try (have HP69 := Kd.R_putg HO_7.out (x14_4 : Int) true)))); refine store_event (t := 4) (p := 127) (v := ?vo_w70) (w1 := (wc.setCell ⟨go65, (x14_4 : Int).toNat, none⟩ (.bool true))) ?hg ?ho ?hn ?hr ?_; (case ho => rfl); (case hg => rfl); (case hn => rfl); (case hr => first | (go_simp; done) | (go_simp; rfl)); intro w70 hw; have hg : wc.grownBy w70 (some go65) := (by rw [hw]; exact HP69.2); have hp_ : Kd.R Kd.bool 4 w70 w.heap.size (fun _ => True) (.slice (some ⟨go65, 0, none⟩) x7_4.length co65) y190 := (by rw [hw, Ny190.out]; exact HP69.1); clear HP69; have n0_ := Aside0.mk (Kd.R_over' (v := (.slice (some ⟨go65, 0, none⟩) x7_4.length co65)) (by (with_reducible repeat (first | apply Kd.R_alloc | apply Kd.R_drewN | apply Kd.R_drew)); exact HO_6.out) (Kd.R_typed HO_7.out) (by decide) hg); have n1_ := Aside0.mk (hp_); have n2_ := Aside0.mk (blk_grown (g := gb167) (o := .cells #[.slice (some ad178) l0_0.length c0_0, .slice (some ad187) l0_1.length c0_1, .int .i64 a0_2] 30 (0, 0)) (by (with_reducible repeat (first | refine blk_drewN ?_ _ | refine blk_drew ?_ | refine blk_alloc ?_ _)); exact BK167.out) hg (Kd.R_ne HO_7.out BK167.out (by decide))); have n3_ := Aside0.mk (blk_grown (g := gb188) (o := .cells #[.int .i64 ((rd_T53 l0_1 x14_4).f0), .int .i64 ((rd_T53 l0_1 x14_4).f1), .int .i64 ((rd_T53 l0_1 x14_4).f2), .int .i64 ((rd_T53 l0_1 x14_4).f3)] 53 (0, 0)) (by (with_reducible repeat (first | refine blk_drewN ?_ _ | refine blk_drew ?_ | refine blk_alloc ?_ _)); exact BK188.out) hg (Kd.R_ne HO_7.out BK188.out (by decide))); have n4_ := Aside0.mk ((by rw [hw]; exact below_set (HB.out) GB65.out : Below w.heap.size w w70)); clear HO_6; clear HO_7; clear BK167; clear BK188; clear HB; have HO_6 := n0_; have HO_7 := n1_; have BK167 := n2_; have BK188 := n3_; have HB := n4_; clear n0_ n1_ n2_ n3_ n4_; clear hg hw hp_; have hnb71 := NB188_167.out; have hnc71 := NB167_188.out; have hcz72_0 : w70.cell? ⟨gb188, 0, none⟩ = some (.int .i64 ((rd_T53 l0_1 x14_4).f0)) := (blk_cell BK188.out 0).trans rfl; have hcz72_1 : w70.cell? ⟨gb188, 1, none⟩ = some (.int .i64 ((rd_T53 l0_1 x14_4).f1)) := (blk_cell BK188.out 1).trans rfl; have hcz72_2 : w70.cell? ⟨gb188, 2, none⟩ = some (.int .i64 ((rd_T53 l0_1 x14_4).f2)) := (blk_cell BK188.out 2).trans rfl; have hcz72_3 : w70.cell? ⟨gb188, 3, none⟩ = some (.int .i64 ((rd_T53 l0_1 x14_4).f3)) := (blk_cell BK188.out 3).trans rfl; have hfz72_0 := blk_frozen BK188.out 0; have hfz72_1 := blk_frozen BK188.out 1; have hfz72_2 := blk_frozen BK188.out 2; have hfz72_3 := blk_frozen BK188.out 3; obtain ⟨Ao73, co73, eo73⟩ := Kd.R_slice HO_6.out; subst eo73; have p191 : 0 ≤ (((rd_T53 l0_1 x14_4).f0) : Int) := of_decide_eq_true (by first | (with_reducible assumption) | assumption); have q191 : ((rd_T53 l0_1 x14_4).f0) < (x6_2.length : Int) := of_decide_eq_true (by first | (with_reducible assumption) | assumption); obtain ⟨ad191, e191, hx191_0⟩ := Kd.at_int (Kd.R_reads' HO_6.out).2.2 ((rd_T53 l0_1 x14_4).f0) p191 q191; cases e191; replace p191 := eq_true p191; replace q191 := eq_true q191; have p192 : 0 ≤ (((rd_T53 l0_1 x14_4).f0) : Int) := of_decide_eq_true (by first | (with_reducible assumption) | assumption); have q192 : ((rd_T53 l0_1 x14_4).f0) < (x6_2.length : Int) := of_decide_eq_true (by first | (with_reducible assumption) | assumption); obtain ⟨ad192, e192, hx192_0⟩ := Kd.at_int (Kd.R_reads' HO_6.out).2.2 ((rd_T53 l0_1 x14_4).f0) p192 q192; obtain rfl : ad191 = ad192 := (by injection e192); replace p192 := eq_true p192; replace q192 := eq_true q192)))
                       go_roundg kj44
                       case measure => have := HK1.out; have := HK2.out; have := HK3.out; have := HK4.out; have := HJ44.out; omega
                       case rel => exact ⟨(y190), (wrap64 ((rd x6_2 ((rd_T53 l0_1 x14_4).f0)) + ((rd_T53 l0_1 x14_4).f2))), (wrap64 (x14_4 + 1)), (by first | rfl | (simp; done) | (simp [*]; done)), (by first | rfl | (simp; done) | (simp [*]; done)), H', ⟨by have := HK1.out; have := HK2.out; have := HK3.out; have := HK4.out; have := HJ44.out; omega⟩, ⟨by (with_reducible repeat (first | apply Kd.R_alloc | apply Kd.R_drewN | apply Kd.R_drew)); exact HO_6.out⟩, ⟨by (with_reducible repeat (first | apply Kd.R_alloc | apply Kd.R_drewN | apply Kd.R_drew)); exact HO_7.out⟩, ⟨by (with_reducible repeat (first | refine blk_drewN ?_ _ | refine blk_drew ?_ | refine blk_alloc ?_ _)); exact BK167.out⟩, ⟨by repeat (first | (with_reducible first | exact HB.out | apply below_alloc | apply pw_below_drewN | apply below_drew1 | refine below_set ?_ GE167.out | refine below_set ?_ GE188.out) | exact HB.out)⟩⟩
                      ·
                       rw [if_neg c68] at H
                       have c68b0 : decide (x13_4 < (wrap64 ((rd x6_2 ((rd_T53 l0_1 x14_4).f0)) + ((rd_T53 l0_1 x14_4).f2)))) = false := decide_eq_false c68
                       clear c68
                       have H' := Aside0.mk H
                       clear H
                       have p65 : 0 ≤ (x14_4 : Int) := of_decide_eq_true (by first | (with_reducible assumption) | assumption)
                       have q65 : (x14_4 : Int) < ((x7_4.length : Int) : Int) := of_decide_eq_true (by first | (with_reducible assumption) | assumption)
                       obtain ⟨go65, co65, eo65, gb65, gl65, cl65, HG65⟩ := Kd.R_form HO_7.out (by omega)
                       (first | cases eo65 | (injection eo65 with ea_ en_ ec_; (first | subst ea_ | (injection ea_ with ea_; subst ea_)); subst ec_; clear en_))
                       have GB65 := Aside0.mk gb65
                       have GG65 := Aside0.mk HG65
                       clear gb65 gl65 HG65
                       obtain ⟨hx65_0, hf65_0⟩ := Kd.R_celln false HO_7.out (x14_4 : Int) p65 q65
                       replace p65 := eq_true p65
                       replace q65 := eq_true q65
                       have HP74 := Kd.R_putg HO_7.out (x14_4 : Int) true
                       go_wp2_with (first | ((with_reducible refine gate_store (t := 4) (p := 127) rfl ?_); (try (rw [drewN_self wc]; generalize hq_ : World.drewN wc _ = wc; have n0_ := Aside0.mk (Kd.R_at hq_ HO_6.out); have n1_ := Aside0.mk (Kd.R_at hq_ HO_7.out); have n2_ := Aside0.mk (blk_at hq_ BK167.out); have n3_ := Aside0.mk (blk_at hq_ BK188.out); have n4_ := Aside0.mk (below_at hq_ HB.out); clear hq_ HO_6 HO_7 BK167 BK188 HB; have HO_6 := n0_; have HO_7 := n1_; have BK167 := n2_; have BK188 := n3_; have HB := n4_; clear n0_ n1_ n2_ n3_ n4_; (try (have HP74 := Kd.R_putg HO_7.out (x14_4 : Int) true)))); refine store_event (t := 4) (p := 127) (v := ?vo_w75) (w1 := (wc.setCell ⟨go65, (x14_4 : Int).toNat, none⟩ (.bool true))) ?hg ?ho ?hn ?hr ?_; (case ho => rfl); (case hg => rfl); (case hn => rfl); (case hr => first | (go_simp; done) | (go_simp; rfl)); intro w75 hw; have hg : wc.grownBy w75 (some go65) := (by rw [hw]; exact HP74.2); have hp_ : Kd.R Kd.bool 4 w75 w.heap.size (fun _ => True) (.slice (some ⟨go65, 0, none⟩) x7_4.length co65) y190 := (by rw [hw, Ny190.out]; exact HP74.1); clear HP74; have n0_ := Aside0.mk (Kd.R_over' (v := (.slice (some ⟨go65, 0, none⟩) x7_4.length co65)) (by (with_reducible repeat (first | apply Kd.R_alloc | apply Kd.R_drewN | apply Kd.R_drew)); exact HO_6.out) (Kd.R_typed HO_7.out) (by decide) hg); have n1_ := Aside0.mk (hp_); have n2_ := Aside0.mk (blk_grown (g := gb167) (o := .cells #[.slice (some ad178) l0_0.length c0_0, .slice (some ad187) l0_1.length c0_1, .int .i64 a0_2] 30 (0, 0)) (by (with_reducible repeat (first | refine blk_drewN ?_ _ | refine blk_drew ?_ | refine blk_alloc ?_ _)); exact BK167.out) hg (Kd.R_ne HO_7.out BK167.out (by decide))); have n3_ := Aside0.mk (blk_grown (g := gb188) (o := .cells #[.int .i64 ((rd_T53 l0_1 x14_4).f0), .int .i64 ((rd_T53 l0_1 x14_4).f1), .int .i64 ((rd_T53 l0_1 x14_4).f2), .int .i64 ((rd_T53 l0_1 x14_4).f3)] 53 (0, 0)) (by (with_reducible repeat (first | refine blk_drewN ?_ _ | refine blk_drew ?_ | refine blk_alloc ?_ _)); exact BK188.out) hg (Kd.R_ne HO_7.out BK188.out (by decide))); have n4_ := Aside0.mk ((by rw [hw]; exact below_set (HB.out) GB65.out : Below w.heap.size w w75)); clear HO_6; clear HO_7; clear BK167; clear BK188; clear HB; have HO_6 := n0_; have HO_7 := n1_; have BK167 := n2_; have BK188 := n3_; have HB := n4_; clear n0_ n1_ n2_ n3_ n4_; clear hg hw hp_; have hnb76 := NB188_167.out; have hnc76 := NB167_188.out; have hcz77_0 : w75.cell? ⟨gb188, 0, none⟩ = some (.int .i64 ((rd_T53 l0_1 x14_4).f0)) := (blk_cell BK188.out 0).trans rfl; have hcz77_1 : w75.cell? ⟨gb188, 1, none⟩ = some (.int .i64 ((rd_T53 l0_1 x14_4).f1)) := (blk_cell BK188.out 1).trans rfl; have hcz77_2 : w75.cell? ⟨gb188, 2, none⟩ = some (.int .i64 ((rd_T53 l0_1 x14_4).f2)) := (blk_cell BK188.out 2).trans rfl; have hcz77_3 : w75.cell? ⟨gb188, 3, none⟩ = some (.int .i64 ((rd_T53 l0_1 x14_4).f3)) := (blk_cell BK188.out 3).trans rfl; have hfz77_0 := blk_frozen BK188.out 0; have hfz77_1 := blk_frozen BK188.out 1; have hfz77_2 := blk_frozen BK188.out 2; have hfz77_3 := blk_frozen BK188.out 3; obtain ⟨Ao78, co78, eo78⟩ := Kd.R_slice HO_6.out; subst eo78; have p191 : 0 ≤ (((rd_T53 l0_1 x14_4).f0) : Int) := of_decide_eq_true (by first | (with_reducible assumption) | assumption); have q191 : ((rd_T53 l0_1 x14_4).f0) < (x6_2.length : Int) := of_decide_eq_true (by first | (with_reducible assumption) | assumption); obtain ⟨ad191, e191, hx191_0⟩ := Kd.at_int (Kd.R_reads' HO_6.out).2.2 ((rd_T53 l0_1 x14_4).f0) p191 q191; cases e191; replace p191 := eq_true p191; replace q191 := eq_true q191))
                       repeat (go_quiet (first | ((with_reducible refine gate_store (t := 4) (p := 127) rfl ?_); (try (rw [drewN_self wc]; generalize hq_ : World.drewN wc _ = wc; have n0_ := Aside0.mk (Kd.R_at hq_ HO_6.out); have n1_ := Aside0.mk (Kd.R_at hq_ HO_7.out); have n2_ := Aside0.mk (blk_at hq_ BK167.out); have n3_ := Aside0.mk (blk_at hq_ BK188.out); have n4_ := Aside0.mk (below_at hq_ HB.out); clear hq_ HO_6 HO_7 BK167 BK188 HB; have HO_6 := n0_; have HO_7 := n1_; have BK167 := n2_; have BK188 := n3_; have HB := n4_; clear n0_ n1_ n2_ n3_ n4_; (try (have HP74 := Kd.R_putg HO_7.out (x14_4 : Int) true)))); refine store_event (t := 4) (p := 127) (v := ?vo_w75) (w1 := (wc.setCell ⟨go65, (x14_4 : Int).toNat, none⟩ (.bool true))) ?hg ?ho ?hn ?hr ?_; (case ho => rfl); (case hg => rfl); (case hn => rfl); (case hr => first | (go_simp; done) | (go_simp; rfl)); intro w75 hw; have hg : wc.grownBy w75 (some go65) := (by rw [hw]; exact HP74.2); have hp_ : Kd.R Kd.bool 4 w75 w.heap.size (fun _ => True) (.slice (some ⟨go65, 0, none⟩) x7_4.length co65) y190 := (by rw [hw, Ny190.out]; exact HP74.1); clear HP74; have n0_ := Aside0.mk (Kd.R_over' (v := (.slice (some ⟨go65, 0, none⟩) x7_4.length co65)) (by (with_reducible repeat (first | apply Kd.R_alloc | apply Kd.R_drewN | apply Kd.R_drew)); exact HO_6.out) (Kd.R_typed HO_7.out) (by decide) hg); have n1_ := Aside0.mk (hp_); have n2_ := Aside0.mk (blk_grown (g := gb167) (o := .cells #[.slice (some ad178) l0_0.length c0_0, .slice (some ad187) l0_1.length c0_1, .int .i64 a0_2] 30 (0, 0)) (by (with_reducible repeat (first | refine blk_drewN ?_ _ | refine blk_drew ?_ | refine blk_alloc ?_ _)); exact BK167.out) hg (Kd.R_ne HO_7.out BK167.out (by decide))); have n3_ := Aside0.mk (blk_grown (g := gb188) (o := .cells #[.int .i64 ((rd_T53 l0_1 x14_4).f0), .int .i64 ((rd_T53 l0_1 x14_4).f1), .int .i64 ((rd_T53 l0_1 x14_4).f2), .int .i64 ((rd_T53 l0_1 x14_4).f3)] 53 (0, 0)) (by (with_reducible repeat (first | refine blk_drewN ?_ _ | refine blk_drew ?_ | refine blk_alloc ?_ _)); exact BK188.out) hg (Kd.R_ne HO_7.out BK188.out (by decide))); have n4_ := Aside0.mk ((by rw [hw]; exact below_set (HB.out) GB65.out : Below w.heap.size w w75)); clear HO_6; clear HO_7; clear BK167; clear BK188; clear HB; have HO_6 := n0_; have HO_7 := n1_; have BK167 := n2_; have BK188 := n3_; have HB := n4_; clear n0_ n1_ n2_ n3_ n4_; clear hg hw hp_; have hnb76 := NB188_167.out; have hnc76 := NB167_188.out; have hcz77_0 : w75.cell? ⟨gb188, 0, none⟩ = some (.int .i64 ((rd_T53 l0_1 x14_4).f0)) := (blk_cell BK188.out 0).trans rfl; have hcz77_1 : w75.cell? ⟨gb188, 1, none⟩ = some (.int .i64 ((rd_T53 l0_1 x14_4).f1)) := (blk_cell BK188.out 1).trans rfl; have hcz77_2 : w75.cell? ⟨gb188, 2, none⟩ = some (.int .i64 ((rd_T53 l0_1 x14_4).f2)) := (blk_cell BK188.out 2).trans rfl; have hcz77_3 : w75.cell? ⟨gb188, 3, none⟩ = some (.int .i64 ((rd_T53 l0_1 x14_4).f3)) := (blk_cell BK188.out 3).trans rfl; have hfz77_0 := blk_frozen BK188.out 0; have hfz77_1 := blk_frozen BK188.out 1; have hfz77_2 := blk_frozen BK188.out 2; have hfz77_3 := blk_frozen BK188.out 3; obtain ⟨Ao78, co78, eo78⟩ := Kd.R_slice HO_6.out; subst eo78; have p191 : 0 ≤ (((rd_T53 l0_1 x14_4).f0) : Int) := of_decide_eq_true (by first | (with_reducible assumption) | assumption); have q191 : ((rd_T53 l0_1 x14_4).f0) < (x6_2.length : Int) := of_decide_eq_true (by first | (with_reducible assumption) | assumption); obtain ⟨ad191, e191, hx191_0⟩ := Kd.at_int (Kd.R_reads' HO_6.out).2.2 ((rd_T53 l0_1 x14_4).f0) p191 q191; cases e191; replace p191 := eq_true p191; replace q191 := eq_true q191)); try go_wp2_with (first | ((with_reducible refine gate_store (t := 4) (p := 127) rfl ?_); (try (rw [drewN_self wc]; generalize hq_ : World.drewN wc _ = wc; have n0_ := Aside0.mk (Kd.R_at hq_ HO_6.out); have n1_ := Aside0.mk (Kd.R_at hq_ HO_7.out); have n2_ := Aside0.mk (blk_at hq_ BK167.out); have n3_ := Aside0.mk (blk_at hq_ BK188.out); have n4_ := Aside0.mk (below_at hq_ HB.out); clear hq_ HO_6 HO_7 BK167 BK188 HB; have HO_6 := n0_; have HO_7 := n1_; have BK167 := n2_; have BK188 := n3_; have HB := n4_; clear n0_ n1_ n2_ n3_ n4_; (try (have HP74 := Kd.R_putg HO_7.out (x14_4 : Int) true)))); refine store_event (t := 4) (p := 127) (v := ?vo_w75) (w1 := (wc.setCell ⟨go65, (x14_4 : Int).toNat, none⟩ (.bool true))) ?hg ?ho ?hn ?hr ?_; (case ho => rfl); (case hg => rfl); (case hn => rfl); (case hr => first | (go_simp; done) | (go_simp; rfl)); intro w75 hw; have hg : wc.grownBy w75 (some go65) := (by rw [hw]; exact HP74.2); have hp_ : Kd.R Kd.bool 4 w75 w.heap.size (fun _ => True) (.slice (some ⟨go65, 0, none⟩) x7_4.length co65) y190 := (by rw [hw, Ny190.out]; exact HP74.1); clear HP74; have n0_ := Aside0.mk (Kd.R_over' (v := (.slice (some ⟨go65, 0, none⟩) x7_4.length co65)) (by (with_reducible repeat (first | apply Kd.R_alloc | apply Kd.R_drewN | apply Kd.R_drew)); exact HO_6.out) (Kd.R_typed HO_7.out) (by decide) hg); have n1_ := Aside0.mk (hp_); have n2_ := Aside0.mk (blk_grown (g := gb167) (o := .cells #[.slice (some ad178) l0_0.length c0_0, .slice (some ad187) l0_1.length c0_1, .int .i64 a0_2] 30 (0, 0)) (by (with_reducible repeat (first | refine blk_drewN ?_ _ | refine blk_drew ?_ | refine blk_alloc ?_ _)); exact BK167.out) hg (Kd.R_ne HO_7.out BK167.out (by decide))); have n3_ := Aside0.mk (blk_grown (g := gb188) (o := .cells #[.int .i64 ((rd_T53 l0_1 x14_4).f0), .int .i64 ((rd_T53 l0_1 x14_4).f1), .int .i64 ((rd_T53 l0_1 x14_4).f2), .int .i64 ((rd_T53 l0_1 x14_4).f3)] 53 (0, 0)) (by (with_reducible repeat (first | refine blk_drewN ?_ _ | refine blk_drew ?_ | refine blk_alloc ?_ _)); exact BK188.out) hg (Kd.R_ne HO_7.out BK188.out (by decide))); have n4_ := Aside0.mk ((by rw [hw]; exact below_set (HB.out) GB65.out : Below w.heap.size w w75)); clear HO_6; clear HO_7; clear BK167; clear BK188; clear HB; have HO_6 := n0_; have HO_7 := n1_; have BK167 := n2_; have BK188 := n3_; have HB := n4_; clear n0_ n1_ n2_ n3_ n4_; clear hg hw hp_; have hnb76 := NB188_167.out; have hnc76 := NB167_188.out; have hcz77_0 : w75.cell? ⟨gb188, 0, none⟩ = some (.int .i64 ((rd_T53 l0_1 x14_4).f0)) := (blk_cell BK188.out 0).trans rfl; have hcz77_1 : w75.cell? ⟨gb188, 1, none⟩ = some (.int .i64 ((rd_T53 l0_1 x14_4).f1)) := (blk_cell BK188.out 1).trans rfl; have hcz77_2 : w75.cell? ⟨gb188, 2, none⟩ = some (.int .i64 ((rd_T53 l0_1 x14_4).f2)) := (blk_cell BK188.out 2).trans rfl; have hcz77_3 : w75.cell? ⟨gb188, 3, none⟩ = some (.int .i64 ((rd_T53 l0_1 x14_4).f3)) := (blk_cell BK188.out 3).trans rfl; have hfz77_0 := blk_frozen BK188.out 0; have hfz77_1 := blk_frozen BK188.out 1; have hfz77_2 := blk_frozen BK188.out 2; have hfz77_3 := blk_frozen BK188.out 3; obtain ⟨Ao78, co78, eo78⟩ := Kd.R_slice HO_6.out; subst eo78; have p191 : 0 ≤ (((rd_T53 l0_1 x14_4).f0) : Int) := of_decide_eq_true (by first | (with_reducible assumption) | assumption); have q191 : ((rd_T53 l0_1 x14_4).f0) < (x6_2.length : Int) := of_decide_eq_true (by first | (with_reducible assumption) | assumption); obtain ⟨ad191, e191, hx191_0⟩ := Kd.at_int (Kd.R_reads' HO_6.out).2.2 ((rd_T53 l0_1 x14_4).f0) p191 q191; cases e191; replace p191 := eq_true p191; replace q191 := eq_true q191)))
                       go_roundg kj44
                       case measure => have := HK1.out; have := HK2.out; have := HK3.out; have := HK4.out; have := HJ44.out; omega
                       case rel => exact ⟨(y190), (x13_4), (wrap64 (x14_4 + 1)), (by first | rfl | (simp; done) | (simp [*]; done)), (by first | rfl | (simp; done) | (simp [*]; done)), H', ⟨by have := HK1.out; have := HK2.out; have := HK3.out; have := HK4.out; have := HJ44.out; omega⟩, ⟨by (with_reducible repeat (first | apply Kd.R_alloc | apply Kd.R_drewN | apply Kd.R_drew)); exact HO_6.out⟩, ⟨by (with_reducible repeat (first | apply Kd.R_alloc | apply Kd.R_drewN | apply Kd.R_drew)); exact HO_7.out⟩, ⟨by (with_reducible repeat (first | refine blk_drewN ?_ _ | refine blk_drew ?_ | refine blk_alloc ?_ _)); exact BK167.out⟩, ⟨by repeat (first | (with_reducible first | exact HB.out | apply below_alloc | apply pw_below_drewN | apply below_drew1 | refine below_set ?_ GE167.out | refine below_set ?_ GE188.out) | exact HB.out)⟩⟩
                     ·
                      rw [if_neg c67] at H
                      exact absurd H (by simp)
                    ·
                     rw [if_neg c66] at H
                     exact absurd H (by simp)
                   ·
                    rw [if_neg c64] at H
                    exact absurd H (by simp)
                  ·
                   rw [if_neg c63] at H
                   exact absurd H (by simp)
                 ·
                  replace c62 := Bool.eq_false_iff.mpr c62
                  subst c62
                  have H1 : (spec_l11Play.l3 kj44 l1 x6_2 x7_4 x9_2 x10_3 x13_4 (wrap64 (x14_4 + 1)) l0_0 l0_1 a0_2) = some (r1, r2) := by rw [if_neg (show ¬ (false = true) by decide)] at H; exact H
                  clear H
                  have H := H1
                  clear H1
                  have H' := Aside0.mk H
                  clear H
                  go_wp2
                  repeat (go_quiet (fail); try go_wp2)
                  go_roundg kj44
                  case measure => have := HK1.out; have := HK2.out; have := HK3.out; have := HK4.out; have := HJ44.out; omega
                  case rel => exact ⟨(x7_4), (x13_4), (wrap64 (x14_4 + 1)), (by first | rfl | (simp; done) | (simp [*]; done)), (by first | rfl | (simp; done) | (simp [*]; done)), H', ⟨by have := HK1.out; have := HK2.out; have := HK3.out; have := HK4.out; have := HJ44.out; omega⟩, ⟨by (with_reducible repeat (first | apply Kd.R_alloc | apply Kd.R_drewN | apply Kd.R_drew)); exact HO_6.out⟩, ⟨by (with_reducible repeat (first | apply Kd.R_alloc | apply Kd.R_drewN | apply Kd.R_drew)); exact HO_7.out⟩, ⟨by (with_reducible repeat (first | refine blk_drewN ?_ _ | refine blk_drew ?_ | refine blk_alloc ?_ _)); exact BK167.out⟩, ⟨by repeat (first | (with_reducible first | exact HB.out | apply below_alloc | apply pw_below_drewN | apply below_drew1 | refine below_set ?_ GE167.out | refine below_set ?_ GE188.out) | exact HB.out)⟩⟩
              ·
               rw [if_neg c44] at H
               exact absurd H (by simp)
             ·
              rw [if_neg c43] at H
              have c43b0 : decide (x14_4 < (l0_1.length : Int)) = false := decide_eq_false c43
              clear c43
              by_cases c79 : 0 ≤ x9_2
              ·
               rw [if_pos c79] at H
               have c79b0 : decide (0 ≤ x9_2) = true := decide_eq_true c79
               clear c79
               by_cases c80 : x9_2 < (l1.length : Int)
               ·
                rw [if_pos c80] at H
                have c80b0 : decide (x9_2 < (l1.length : Int)) = true := decide_eq_true c80
                clear c80
                by_cases c81 : x6_2.length < 17592186044416
                ·
                 rw [if_pos c81] at H
                 have LMc81 := Aside0.mk c81
                 clear c81
                 obtain ⟨y184, hy184⟩ : ∃ y_ : List Int, y_ = (x6_2 ++ [wrap64 (x13_4 + (rd l1 x9_2))]) := ⟨_, rfl⟩
                 replace H : (spec_l11Play.l1 k4 l1 y184 x7_4 (wrap64 (x9_2 + 1)) l0_0 l0_1 a0_2) = some (r1, r2) := by first | (rw [hy184]; with_reducible exact H) | (have H2_ := (Option.bind_some _ _).symm.trans H; rw [hy184]; with_reducible exact H2_) | (have H2_ := (Option.bind_some _ _).symm.trans H; with_reducible exact H2_) | with_reducible exact H | (rw [hy184]; exact H) | exact H
                 have Ny184 := Aside0.mk hy184
                 clear hy184
                 have H' := Aside0.mk H
                 clear H
                 have hcz82_0 : wr.cell? ⟨gb167, 0, none⟩ = some (.slice (some ad178) l0_0.length c0_0) := (blk_cell BK167.out 0).trans rfl
                 have hcz82_1 : wr.cell? ⟨gb167, 1, none⟩ = some (.slice A0_1 l0_1.length c0_1) := (blk_cell BK167.out 1).trans rfl
                 have hcz82_2 : wr.cell? ⟨gb167, 2, none⟩ = some (.int .i64 a0_2) := (blk_cell BK167.out 2).trans rfl
                 have hfz82_0 := blk_frozen BK167.out 0
                 have hfz82_1 := blk_frozen BK167.out 1
                 have hfz82_2 := blk_frozen BK167.out 2
                 have p183 : 0 ≤ (x9_2 : Int) := of_decide_eq_true (by first | (with_reducible assumption) | assumption)
                 have q183 : x9_2 < (l1.length : Int) := of_decide_eq_true (by first | (with_reducible assumption) | assumption)
                 obtain ⟨ad183, e183, hx183_0⟩ := Kd.at_int HR1.out x9_2 p183 q183
                 cases e183
                 replace hx183_0 := (HB.out.cell (World.block_lt_of_cell? w _ hx183_0)).trans hx183_0
                 replace p183 := eq_true p183
                 replace q183 := eq_true q183
                 go_wp2_with (first | ((with_reducible refine gate_builtin (b := .append) (xs := #[.tmp 146, .tmp 153]) rfl ?_); at_builtin; refine Kd.R_append (Kd.int .i64) (w0 := w) w.heap.size rfl (.tmp 146) (.tmp 153) 22 3 (.int .i64 0) 8 rfl Try.underlying22 info3 rfl (by decide) (by omega) u6 x6_2 (wrap64 (x13_4 + (rd l1 x9_2))) [.int .i64 (wrap64 (x13_4 + (rd l1 x9_2)))] (fun _ => True) (fun _ => False) rfl rfl ?aP (fun _ hk => hk.elim) ?aF ?aO ?aB ?aS ?aL ?_; (case aP => exact rfl); (case aB => exact (by repeat (first | (with_reducible first | exact HB.out | apply below_alloc | apply pw_below_drewN | apply below_drew1 | refine below_set ?_ GE167.out) | exact HB.out))); (case aF => exact (fun _ _ => trivial)); (case aO => exact (by (with_reducible repeat (first | apply Kd.R_alloc | apply Kd.R_drewN | apply Kd.R_drew)); exact HO_6.out)); (case aS => exact (below_size (by repeat (first | (with_reducible first | exact HB.out | apply below_alloc | apply pw_below_drewN | apply below_drew1 | refine below_set ?_ GE167.out) | exact HB.out)))); (case aL => have := LMc81.out; omega); intro v185 w83 ho hb hg hat; rw [← Ny184.out] at ho; have n0_ := Aside0.mk (Kd.R_over' (by (with_reducible repeat (first | apply Kd.R_alloc | apply Kd.R_drewN | apply Kd.R_drew)); exact HO_7.out) (Kd.R_typed (by (with_reducible repeat (first | apply Kd.R_alloc | apply Kd.R_drewN | apply Kd.R_drew)); exact HO_6.out)) (by decide) hg); have n1_ := Aside0.mk (blk_grown (g := gb167) (o := .cells #[.slice (some ad178) l0_0.length c0_0, .slice A0_1 l0_1.length c0_1, .int .i64 a0_2] 30 (0, 0)) (by (with_reducible repeat (first | refine blk_drewN ?_ _ | refine blk_drew ?_ | refine blk_alloc ?_ _)); exact BK167.out) hg (Kd.R_ne HO_6.out BK167.out (by decide))); have n2_ := Aside0.mk (hb); have n3_ := Aside0.mk (ho); clear HO_7; clear BK167; clear HB; clear HO_6; have HO_7 := n0_; have BK167 := n1_; have HB := n2_; have HO186 := n3_; clear n0_ n1_ n2_ n3_; clear ho hb hg hat))
                 repeat (go_quiet (first | ((with_reducible refine gate_builtin (b := .append) (xs := #[.tmp 146, .tmp 153]) rfl ?_); at_builtin; refine Kd.R_append (Kd.int .i64) (w0 := w) w.heap.size rfl (.tmp 146) (.tmp 153) 22 3 (.int .i64 0) 8 rfl Try.underlying22 info3 rfl (by decide) (by omega) u6 x6_2 (wrap64 (x13_4 + (rd l1 x9_2))) [.int .i64 (wrap64 (x13_4 + (rd l1 x9_2)))] (fun _ => True) (fun _ => False) rfl rfl ?aP (fun _ hk => hk.elim) ?aF ?aO ?aB ?aS ?aL ?_; (case aP => exact rfl); (case aB => exact (by repeat (first | (with_reducible first | exact HB.out | apply below_alloc | apply pw_below_drewN | apply below_drew1 | refine below_set ?_ GE167.out) | exact HB.out))); (case aF => exact (fun _ _ => trivial)); (case aO => exact (by (with_reducible repeat (first | apply Kd.R_alloc | apply Kd.R_drewN | apply Kd.R_drew)); exact HO_6.out)); (case aS => exact (below_size (by repeat (first | (with_reducible first | exact HB.out | apply below_alloc | apply pw_below_drewN | apply below_drew1 | refine below_set ?_ GE167.out) | exact HB.out)))); (case aL => have := LMc81.out; omega); intro v185 w83 ho hb hg hat; rw [← Ny184.out] at ho; have n0_ := Aside0.mk (Kd.R_over' (by (with_reducible repeat (first | apply Kd.R_alloc | apply Kd.R_drewN | apply Kd.R_drew)); exact HO_7.out) (Kd.R_typed (by (with_reducible repeat (first | apply Kd.R_alloc | apply Kd.R_drewN | apply Kd.R_drew)); exact HO_6.out)) (by decide) hg); have n1_ := Aside0.mk (blk_grown (g := gb167) (o := .cells #[.slice (some ad178) l0_0.length c0_0, .slice A0_1 l0_1.length c0_1, .int .i64 a0_2] 30 (0, 0)) (by (with_reducible repeat (first | refine blk_drewN ?_ _ | refine blk_drew ?_ | refine blk_alloc ?_ _)); exact BK167.out) hg (Kd.R_ne HO_6.out BK167.out (by decide))); have n2_ := Aside0.mk (hb); have n3_ := Aside0.mk (ho); clear HO_7; clear BK167; clear HB; clear HO_6; have HO_7 := n0_; have BK167 := n1_; have HB := n2_; have HO186 := n3_; clear n0_ n1_ n2_ n3_; clear ho hb hg hat)); try go_wp2_with (first | ((with_reducible refine gate_builtin (b := .append) (xs := #[.tmp 146, .tmp 153]) rfl ?_); at_builtin; refine Kd.R_append (Kd.int .i64) (w0 := w) w.heap.size rfl (.tmp 146) (.tmp 153) 22 3 (.int .i64 0) 8 rfl Try.underlying22 info3 rfl (by decide) (by omega) u6 x6_2 (wrap64 (x13_4 + (rd l1 x9_2))) [.int .i64 (wrap64 (x13_4 + (rd l1 x9_2)))] (fun _ => True) (fun _ => False) rfl rfl ?aP (fun _ hk => hk.elim) ?aF ?aO ?aB ?aS ?aL ?_; (case aP => exact rfl); (case aB => exact (by repeat (first | (with_reducible first | exact HB.out | apply below_alloc | apply pw_below_drewN | apply below_drew1 | refine below_set ?_ GE167.out) | exact HB.out))); (case aF => exact (fun _ _ => trivial)); (case aO => exact (by (with_reducible repeat (first | apply Kd.R_alloc | apply Kd.R_drewN | apply Kd.R_drew)); exact HO_6.out)); (case aS => exact (below_size (by repeat (first | (with_reducible first | exact HB.out | apply below_alloc | apply pw_below_drewN | apply below_drew1 | refine below_set ?_ GE167.out) | exact HB.out)))); (case aL => have := LMc81.out; omega); intro v185 w83 ho hb hg hat; rw [← Ny184.out] at ho; have n0_ := Aside0.mk (Kd.R_over' (by (with_reducible repeat (first | apply Kd.R_alloc | apply Kd.R_drewN | apply Kd.R_drew)); exact HO_7.out) (Kd.R_typed (by (with_reducible repeat (first | apply Kd.R_alloc | apply Kd.R_drewN | apply Kd.R_drew)); exact HO_6.out)) (by decide) hg); have n1_ := Aside0.mk (blk_grown (g := gb167) (o := .cells #[.slice (some ad178) l0_0.length c0_0, .slice A0_1 l0_1.length c0_1, .int .i64 a0_2] 30 (0, 0)) (by (with_reducible repeat (first | refine blk_drewN ?_ _ | refine blk_drew ?_ | refine blk_alloc ?_ _)); exact BK167.out) hg (Kd.R_ne HO_6.out BK167.out (by decide))); have n2_ := Aside0.mk (hb); have n3_ := Aside0.mk (ho); clear HO_7; clear BK167; clear HB; clear HO_6; have HO_7 := n0_; have BK167 := n1_; have HB := n2_; have HO186 := n3_; clear n0_ n1_ n2_ n3_; clear ho hb hg hat)))
                 go_roundg k4
                 case measure => have := HK1.out; have := HK2.out; have := HK3.out; have := HK4.out; omega
                 case rel => exact ⟨(y184), (x7_4), (wrap64 (x9_2 + 1)), (by first | rfl | (simp; done) | (simp [*]; done)), H', ⟨by have := HK1.out; have := HK2.out; have := HK3.out; have := HK4.out; omega⟩, ⟨by (with_reducible repeat (first | apply Kd.R_alloc | apply Kd.R_drewN | apply Kd.R_drew)); exact HO186.out⟩, ⟨by (with_reducible repeat (first | apply Kd.R_alloc | apply Kd.R_drewN | apply Kd.R_drew)); exact HO_7.out⟩, ⟨by (with_reducible repeat (first | refine blk_drewN ?_ _ | refine blk_drew ?_ | refine blk_alloc ?_ _)); exact BK167.out⟩, ⟨by repeat (first | (with_reducible first | exact HB.out | apply below_alloc | apply pw_below_drewN | apply below_drew1 | refine below_set ?_ GE167.out) | exact HB.out)⟩⟩
                ·
                 rw [if_neg c81] at H
                 exact absurd H (by simp)
               ·
                rw [if_neg c80] at H
                exact absurd H (by simp)
              ·
               rw [if_neg c79] at H
               exact absurd H (by simp)
       ·
        rw [if_neg c15] at H
        exact absurd H (by simp)
      ·
       rw [if_neg c14] at H
       have c14b0 : decide (x9_2 < (l0_0.length : Int)) = false := decide_eq_false c14
       clear c14
       simp only [Option.some.injEq, Prod.mk.injEq] at H
       obtain ⟨rfl, rfl⟩ := H
       have hcz84_0 : wr.cell? ⟨gb167, 0, none⟩ = some (.slice A0_0 l0_0.length c0_0) := (blk_cell BK167.out 0).trans rfl
       have hcz84_1 : wr.cell? ⟨gb167, 1, none⟩ = some (.slice A0_1 l0_1.length c0_1) := (blk_cell BK167.out 1).trans rfl
       have hcz84_2 : wr.cell? ⟨gb167, 2, none⟩ = some (.int .i64 a0_2) := (blk_cell BK167.out 2).trans rfl
       have hfz84_0 := blk_frozen BK167.out 0
       have hfz84_1 := blk_frozen BK167.out 1
       have hfz84_2 := blk_frozen BK167.out 2
       go_wp2
       repeat (go_quiet (fail); try go_wp2)
       go_ret2
       exact ⟨_, _, by first | rfl | (simp <;> rfl) | (simp [*] <;> rfl), by (with_reducible repeat (first | apply Kd.R_alloc | apply Kd.R_drewN | apply Kd.R_drew)); exact HO_6.out, by (with_reducible repeat (first | apply Kd.R_alloc | apply Kd.R_drewN | apply Kd.R_drew)); exact HO_7.out, by repeat (first | (with_reducible first | exact HB.out | apply below_alloc | apply pw_below_drewN | apply below_drew1 | refine below_set ?_ GE167.out) | exact HB.out)⟩
end Go.Proofs.Ytomkglmlhoaniaa.PFnExactLateness
