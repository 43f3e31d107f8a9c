/- FnExactJoinMail returns true for every two mails that can be read, and leaves them as they were. No condition. -/
import Derived.Test.YtjheiahfhknakaaJ0
import Derived.Test.YtjheiahfhknakaaJ1
import Derived.WalkLawsBesides
import Derived.RegionTactic
import Derived.Deep.RegionHeld3
import Derived.Deep.DeepCutAuto
import Derived.Outline
import Derived.Deep.Slices
import Derived.ChangeArms
import Derived.Test.YtjheiahfhknakaaRows
import Derived.WalkKit
import Derived.ProofKit
import Derived.OpenShut
import Derived.ShutString
import Derived.ChangeOld
import Derived.Below
import Derived.SizedLaws
-- Laid by a program of this session for the seat Ytjheiahfhknakaa
namespace Go.Proofs.Ytjheiahfhknakaa.G
open Go.RowKit Go.Proofs.YtjheiahfhknakaaW.PrintWords Go.Proofs.YtjheiahfhknakaaW.PrintLast Go.Proofs.YtjheiahfhknakaaW.PrintMore
attribute [local go_sem] max2_int min2_int max_two min_two max_three min_three max_four min_four   -- for this text's walks alone
set_option linter.unusedVariables false
set_option linter.unusedSimpArgs false

/-! ### impl_copyMail: function 132 -/
def impl_copyMail.f (a0_0 : Int) (a0_1 : Int) (l0_2 : List (S146)) (a0_3 : ByteArray) : Option (Int × Int × (List (S146)) × ByteArray) := (impl_copyRegs.f l0_2).bind fun t489 => (some (a0_0, a0_1, t489, a0_3))
set_option maxHeartbeats 8000000 in
set_option maxRecDepth 100000 in
theorem impl_copyMail.calls (a0_0 : Int) (a0_1 : Int) (A0_2 : Option Addr) (c0_2 : Nat) (l0_2 : List (S146)) (a0_3 : ByteArray) (r1 : Int) (r2 : Int) (r3 : List (S146)) (r4 : ByteArray) (w : World) (hr0_2 : Kd.C k146 w A0_2 l0_2.length l0_2) (hc0_2 : l0_2.length ≤ c0_2) (h : impl_copyMail.f a0_0 a0_1 l0_2 a0_3 = some (r1, r2, r3, r4)) :
    Calls Try.prog 132 #[.agg #[.int .i64 a0_0, .int .i64 a0_1, .slice A0_2 l0_2.length c0_2, .string a0_3]] w fun e w' => ∃ v2_ : Value, e = .returned (.agg #[.int .i64 r1, .int .i64 r2, v2_, .string r4]) ∧ Kd.R k146 146 w' w.heap.size (fun _ => True) v2_ r3 ∧ Below w.heap.size w w' := by
  have hu69 := Try.underlying69
  have HR0_2 := Aside0.mk hr0_2
  have HC0_2 := Aside0.mk hc0_2
  clear hr0_2 hc0_2
  have HB := Aside0.mk (Below.refl w.heap.size w)
  have H : ((impl_copyRegs.f l0_2).bind fun t489 => (some (a0_0, a0_1, t489, a0_3))) = some (r1, r2, r3, r4) := h
  clear h
  replace H := Option.bind_eq_some_iff.mp H
  obtain ⟨t489, A20, H⟩ := H
  replace H : (some (a0_0, a0_1, t489, a0_3)) = some (r1, r2, r3, r4) := H
  have A2 := Aside0.mk A20
  clear A20
  simp only [Option.some.injEq, Prod.mk.injEq] at H
  obtain ⟨rfl, rfl, rfl, rfl⟩ := H
  go_enter Try.func132, Try.ntmps132
  go_wp2_with (first | ((with_reducible refine gate_dst (N := 1) rfl ?_); refine box_event ?hg (N := 1) ?hd (cs := #[.int .i64 a0_0, .int .i64 a0_1, .slice A0_2 l0_2.length c0_2, .string a0_3]) (t := 69) ?hr ?_; (case hd => rfl); (case hg => rfl); (case hr => first | (go_simp; done) | (go_simp; rfl)); intro gb487 hg w3 hbox hb; have n0_ := Aside0.mk (below_step (by repeat (first | (with_reducible first | exact HB.out | apply below_alloc | apply pw_below_drewN | apply below_drew1) | exact HB.out)) hb); have n1_ := Aside0.mk (hbox); have n2_ := Aside0.mk ((by rw [hg]; exact (below_size (by repeat (first | (with_reducible first | exact HB.out | apply below_alloc | apply pw_below_drewN | apply below_drew1) | exact HB.out))) : w.heap.size ≤ gb487)); have n3_ := Aside0.mk ((by rw [hg]; exact (below_size (by repeat (first | (with_reducible first | exact HB.out | apply below_alloc | apply pw_below_drewN | apply below_drew1) | exact HB.out))) : w.heap.size ≤ gb487)); clear HB; have HB := n0_; have BK487 := n1_; have GW487 := n2_; have GE487 := n3_; clear n0_ n1_ n2_ n3_; clear hb hbox hg) | ((with_reducible refine gate_dst (N := 2) rfl ?_); refine box_event ?hg (N := 2) ?hd (cs := #[.int .i64 0, .int .i64 0, .slice none 0 0, .string (⟨#[]⟩ : ByteArray)]) (t := 69) ?hr ?_; (case hd => rfl); (case hg => rfl); (case hr => first | (go_simp; done) | (go_simp; rfl)); intro gb488 hg w4 hbox hb; have n0_ := Aside0.mk (blk_below (g := gb487) (o := .cells #[.int .i64 a0_0, .int .i64 a0_1, .slice A0_2 l0_2.length c0_2, .string a0_3] 69 (0, 0)) (by (with_reducible repeat (first | refine blk_drewN ?_ _ | refine blk_drew ?_ | refine blk_alloc ?_ _)); exact BK487.out) hb); have n1_ := Aside0.mk (below_step (by repeat (first | (with_reducible first | exact HB.out | apply below_alloc | apply pw_below_drewN | apply below_drew1 | refine below_set ?_ GE487.out) | exact HB.out)) hb); have n2_ := Aside0.mk (hbox); have n3_ := Aside0.mk ((by rw [hg]; exact (below_size (by repeat (first | (with_reducible first | exact HB.out | apply below_alloc | apply pw_below_drewN | apply below_drew1 | refine below_set ?_ GE487.out) | exact HB.out))) : w.heap.size ≤ gb488)); have n4_ := Aside0.mk ((by rw [hg]; exact (below_size (by repeat (first | (with_reducible first | exact HB.out | apply below_alloc | apply pw_below_drewN | apply below_drew1 | refine below_set ?_ GE487.out) | exact HB.out))) : w.heap.size ≤ gb488)); have n5_ := Aside0.mk ((by rw [hg]; exact Nat.ne_of_lt (blk_lt (g := gb487) (o := .cells #[.int .i64 a0_0, .int .i64 a0_1, .slice A0_2 l0_2.length c0_2, .string a0_3] 69 (0, 0)) (by (with_reducible repeat (first | refine blk_drewN ?_ _ | refine blk_drew ?_ | refine blk_alloc ?_ _)); exact BK487.out)) : gb487 ≠ gb488)); have n6_ := Aside0.mk ((by rw [hg]; exact Nat.ne_of_gt (blk_lt (g := gb487) (o := .cells #[.int .i64 a0_0, .int .i64 a0_1, .slice A0_2 l0_2.length c0_2, .string a0_3] 69 (0, 0)) (by (with_reducible repeat (first | refine blk_drewN ?_ _ | refine blk_drew ?_ | refine blk_alloc ?_ _)); exact BK487.out)) : gb488 ≠ gb487)); clear BK487; clear HB; have BK487 := n0_; have HB := n1_; have BK488 := n2_; have GW488 := n3_; have GE488 := n4_; have NB487_488 := n5_; have NB488_487 := n6_; clear n0_ n1_ n2_ n3_ n4_ n5_ n6_; clear hb hbox hg; have hnb5 := NB487_488.out; have hnc5 := NB488_487.out; have hcz6_0 : w4.cell? ⟨gb487, 0, none⟩ = some (.int .i64 a0_0) := (blk_cell BK487.out 0).trans rfl; have hcz6_1 : w4.cell? ⟨gb487, 1, none⟩ = some (.int .i64 a0_1) := (blk_cell BK487.out 1).trans rfl; have hcz6_2 : w4.cell? ⟨gb487, 2, none⟩ = some (.slice A0_2 l0_2.length c0_2) := (blk_cell BK487.out 2).trans rfl; have hcz6_3 : w4.cell? ⟨gb487, 3, none⟩ = some (.string a0_3) := (blk_cell BK487.out 3).trans rfl; have hfz6_0 := blk_frozen BK487.out 0; have hfz6_1 := blk_frozen BK487.out 1; have hfz6_2 := blk_frozen BK487.out 2; have hfz6_3 := blk_frozen BK487.out 3) | ((with_reducible refine gate_callee (f := 138) rfl ?_); refine goesL_ (some 5) rfl rfl Try.func138 (by kernel_rfl) rfl #[.slice A0_2 l0_2.length c0_2] rfl (by (try simp only [List.map_toArray, List.map_cons, List.map_nil]); first | done | rfl | (simp only [List.length_drop, List.length_take]; rfl)) ?_; (with_reducible refine (impl_copyRegs.calls _ _ l0_2 t489 _ ?side1 ?side2 A2.out).mono ?_); (case side1 => repeat (first | exact (Kd.C_below HR0_2.out HB.out) | (with_reducible refine Kd.C_alloc ?_ _) | (with_reducible refine Kd.C_drewN ?_ _) | (with_reducible refine Kd.C_drew ?_))); (case side2 => exact HC0_2.out); rintro e w7 ⟨v490, rfl, ho0, hb⟩; refine ⟨_, rfl, ?_⟩; have n0_ := Aside0.mk (Kd.R_lower ho0 (below_size (by repeat (first | (with_reducible first | exact HB.out | apply below_alloc | apply pw_below_drewN | apply below_drew1 | refine below_set ?_ GE487.out | refine below_set ?_ GE488.out) | exact HB.out)))); have n1_ := Aside0.mk (blk_below (g := gb487) (o := .cells #[.int .i64 a0_0, .int .i64 a0_1, .slice A0_2 l0_2.length c0_2, .string a0_3] 69 (0, 0)) (by (with_reducible repeat (first | refine blk_drewN ?_ _ | refine blk_drew ?_ | refine blk_alloc ?_ _)); exact BK487.out) hb); have n2_ := Aside0.mk (blk_below (g := gb488) (o := .cells #[.int .i64 0, .int .i64 0, .slice none 0 0, .string (⟨#[]⟩ : ByteArray)] 69 (0, 0)) (by (with_reducible repeat (first | refine blk_drewN ?_ _ | refine blk_drew ?_ | refine blk_alloc ?_ _)); exact BK488.out) hb); have n3_ := Aside0.mk (below_step (by repeat (first | (with_reducible first | exact HB.out | apply below_alloc | apply pw_below_drewN | apply below_drew1 | refine below_set ?_ GE487.out | refine below_set ?_ GE488.out) | exact HB.out)) hb); clear BK487; clear BK488; clear HB; have HO491 := n0_; have BK487 := n1_; have BK488 := n2_; have HB := n3_; clear n0_ n1_ n2_ n3_; (try clear hb); (try clear hb2); (try clear hk); (try clear hi); (try clear ho0); obtain ⟨Ao8, co8, eo8⟩ := Kd.R_slice HO491.out; subst eo8; have hcz9_0 : w7.cell? ⟨gb487, 0, none⟩ = some (.int .i64 a0_0) := (blk_cell BK487.out 0).trans rfl; have hcz9_1 : w7.cell? ⟨gb487, 1, none⟩ = some (.int .i64 a0_1) := (blk_cell BK487.out 1).trans rfl; have hcz9_2 : w7.cell? ⟨gb487, 2, none⟩ = some (.slice A0_2 l0_2.length c0_2) := (blk_cell BK487.out 2).trans rfl; have hcz9_3 : w7.cell? ⟨gb487, 3, none⟩ = some (.string a0_3) := (blk_cell BK487.out 3).trans rfl; have hfz9_0 := blk_frozen BK487.out 0; have hfz9_1 := blk_frozen BK487.out 1; have hfz9_2 := blk_frozen BK487.out 2; have hfz9_3 := blk_frozen BK487.out 3; have hcz10_0 : w7.cell? ⟨gb488, 0, none⟩ = some (.int .i64 0) := (blk_cell BK488.out 0).trans rfl; have hcz10_1 : w7.cell? ⟨gb488, 1, none⟩ = some (.int .i64 0) := (blk_cell BK488.out 1).trans rfl; have hcz10_2 : w7.cell? ⟨gb488, 2, none⟩ = some (.slice none 0 0) := (blk_cell BK488.out 2).trans rfl; have hcz10_3 : w7.cell? ⟨gb488, 3, none⟩ = some (.string (⟨#[]⟩ : ByteArray)) := (blk_cell BK488.out 3).trans rfl; have hfz10_0 := blk_frozen BK488.out 0; have hfz10_1 := blk_frozen BK488.out 1; have hfz10_2 := blk_frozen BK488.out 2; have hfz10_3 := blk_frozen BK488.out 3))
  refine bodyPost_ret (results_cell_row rfl _ _ gb488 69 #[.int .i64 a0_0, .int .i64 a0_1, .slice Ao8 t489.length co8, .string a0_3] (0, 0) _ rfl (by (with_reducible repeat (first | refine blk_drewN ?_ _ | refine blk_drew ?_ | refine blk_alloc ?_ _)); refine blk_put (cs := #[.int .i64 a0_0, .int .i64 a0_1, .slice Ao8 t489.length co8, .string (⟨#[]⟩ : ByteArray)]) ?_ 3 _ rfl; (with_reducible repeat (first | refine blk_drewN ?_ _ | refine blk_drew ?_ | refine blk_alloc ?_ _)); refine blk_put (cs := #[.int .i64 a0_0, .int .i64 a0_1, .slice none 0 0, .string (⟨#[]⟩ : ByteArray)]) ?_ 2 _ rfl; (with_reducible repeat (first | refine blk_drewN ?_ _ | refine blk_drew ?_ | refine blk_alloc ?_ _)); refine blk_put (cs := #[.int .i64 a0_0, .int .i64 0, .slice none 0 0, .string (⟨#[]⟩ : ByteArray)]) ?_ 1 _ rfl; (with_reducible repeat (first | refine blk_drewN ?_ _ | refine blk_drew ?_ | refine blk_alloc ?_ _)); refine blk_put (cs := #[.int .i64 0, .int .i64 0, .slice none 0 0, .string (⟨#[]⟩ : ByteArray)]) ?_ 0 _ rfl; (with_reducible repeat (first | refine blk_drewN ?_ _ | refine blk_drew ?_ | refine blk_alloc ?_ _)); refine blk_far ?_ NB488_487.out _; (with_reducible repeat (first | refine blk_drewN ?_ _ | refine blk_drew ?_ | refine blk_alloc ?_ _)); exact BK488.out) Try.underlying69 rfl (by kernel_rfl)) rfl ?_
  exact ⟨_, by first | rfl | (simp [errW_none, errW_some] <;> rfl) | (simp [*, errW_none, errW_some] <;> rfl), by (with_reducible repeat (first | apply Kd.R_alloc | apply Kd.R_drewN | apply Kd.R_drew)); exact Kd.R_mono (Kd.R_far (p := ⟨gb488, 3, none⟩) (Kd.R_far (p := ⟨gb488, 2, none⟩) (Kd.R_far (p := ⟨gb488, 1, none⟩) (Kd.R_far (p := ⟨gb488, 0, none⟩) (Kd.R_far (p := ⟨gb487, 2, none⟩) (Kd.R_types (Kd.R_types HO491.out BK487.out (by decide)) BK488.out (by decide)) (fun _ hk => hk.1.2) (.slice Ao8 t489.length co8)) (fun _ hk => hk.2) (.int .i64 a0_0)) (fun _ hk => hk.2) (.int .i64 a0_1)) (fun _ hk => hk.2) (.slice Ao8 t489.length co8)) (fun _ hk => hk.2) (.string a0_3)) (fun _ hk => trivial), by repeat (first | (with_reducible first | exact HB.out | apply below_alloc | apply pw_below_drewN | apply below_drew1 | refine below_set ?_ GE487.out | refine below_set ?_ GE488.out) | exact HB.out)⟩

end Go.Proofs.Ytjheiahfhknakaa.G
-- own text: ImplJoinMail
namespace Go.Proofs.Ytjheiahfhknakaa.G
open Go.RowKit Go.Proofs.YtjheiahfhknakaaW.PrintWords Go.Proofs.YtjheiahfhknakaaW.PrintLast Go.Proofs.YtjheiahfhknakaaW.PrintMore
attribute [local go_sem] max2_int min2_int max_two min_two max_three min_three max_four min_four max2_str   -- for this text's walks alone
set_option linter.unusedVariables false
set_option linter.unusedSimpArgs false

/-! ### impl_JoinMail: function 43 -/
def impl_JoinMail.f (k : Nat) (a0_0 : Int) (a0_1 : Int) (l0_2 : List (S146)) (a0_3 : ByteArray) (a1_0 : Int) (a1_1 : Int) (l1_2 : List (S146)) (a1_3 : ByteArray) : Option (Int × Int × (List (S146)) × ByteArray) := if a0_0 = a1_0 then ((impl_JoinFlags.f k l0_2 l1_2).bind fun t270 => (some (a0_0, mx a0_1 a1_1, t270, smax a0_3 a1_3))) else ((impl_copyMail.f a0_0 a0_1 l0_2 a0_3).bind fun bt273 => (some (bt273.1, bt273.2.1, bt273.2.2.1, bt273.2.2.2)))
theorem impl_JoinMail.mono : ∀ a0 a1 a2 a3 a4 a5 a6 a7 k, LeO (impl_JoinMail.f k a0 a1 a2 a3 a4 a5 a6 a7) (impl_JoinMail.f (k + 1) a0 a1 a2 a3 a4 a5 a6 a7) := by
  intro a0 a1 a2 a3 a4 a5 a6 a7 k
  unfold impl_JoinMail.f
  repeat' first
      | (with_reducible exact impl_JoinFlags.mono _ _ _)
      | (with_reducible exact LeO.refl _)
      | (with_reducible exact LeO.none _)
      | (with_reducible refine LeO.ite ?_ ?_)
      | (with_reducible refine LeO.bind ?_ (fun _ => ?_))
      | exact impl_JoinFlags.mono _ _ _
      | exact LeO.none _
      | refine LeO.ite ?_ ?_
      | refine LeO.bind ?_ (fun _ => ?_)
def impl_JoinMail.T3 : Bool × List (List Nat × List Nat) := (true, [([], []), ([0], [0]), ([], []), ([2], [2]), ([], []), ([4], [4]), ([3, 5], [3, 5]), ([], []), ([7], [7]), ([], []), ([9], [9]), ([8, 10], [8, 10]), ([], []), ([12], [12]), ([], []), ([14], [14]), ([13, 15], [13, 15]), ([1, 6, 11, 16], [1, 6, 11, 16]), ([17, 11, 0, 1, 2, 3, 4, 5, 6, 7, 8, 9, 10, 11, 12, 13, 14, 15, 16, 17], [17])])
def impl_JoinMail.B3 : List Nat := [0, 1, 0, 4, 0, 16, 60, 0, 128, 0, 512, 1920, 0, 4096, 0, 16384, 61440, 131071, 262143]
theorem impl_JoinMail.tab3 : rtab .any (opsOf Try.f43 3) = impl_JoinMail.T3 := by kernel_rfl
theorem impl_JoinMail.bits3 : waitsOk impl_JoinMail.T3.2 impl_JoinMail.B3 = true := by kernel_rfl
set_option maxHeartbeats 8000000 in
set_option maxRecDepth 100000 in
theorem impl_JoinMail.calls (k : Nat) (a0_0 : Int) (a0_1 : Int) (A0_2 : Option Addr) (c0_2 : Nat) (l0_2 : List (S146)) (a0_3 : ByteArray) (a1_0 : Int) (a1_1 : Int) (A1_2 : Option Addr) (c1_2 : Nat) (l1_2 : List (S146)) (a1_3 : ByteArray) (r1 : Int) (r2 : Int) (r3 : List (S146)) (r4 : ByteArray) (w : World) (hr0_2 : Kd.C k146 w A0_2 l0_2.length l0_2) (hc0_2 : l0_2.length ≤ c0_2) (hr1_2 : Kd.C k146 w A1_2 l1_2.length l1_2) (hc1_2 : l1_2.length ≤ c1_2) (h : impl_JoinMail.f k a0_0 a0_1 l0_2 a0_3 a1_0 a1_1 l1_2 a1_3 = some (r1, r2, r3, r4)) :
    Calls Try.prog 43 #[.agg #[.int .i64 a0_0, .int .i64 a0_1, .slice A0_2 l0_2.length c0_2, .string a0_3], .agg #[.int .i64 a1_0, .int .i64 a1_1, .slice A1_2 l1_2.length c1_2, .string a1_3]] w fun e w' => ∃ v2_ : Value, e = .returned (.agg #[.int .i64 r1, .int .i64 r2, v2_, .string r4]) ∧ Kd.R k146 146 w' w.heap.size (fun _ => True) v2_ r3 ∧ Below w.heap.size w w' := by
  have hu69 := Try.underlying69
  have HR0_2 := Aside0.mk hr0_2
  have HC0_2 := Aside0.mk hc0_2
  clear hr0_2 hc0_2
  have HR1_2 := Aside0.mk hr1_2
  have HC1_2 := Aside0.mk hc1_2
  clear hr1_2 hc1_2
  have HB := Aside0.mk (Below.refl w.heap.size w)
  have H : (if a0_0 = a1_0 then ((impl_JoinFlags.f k l0_2 l1_2).bind fun t270 => (some (a0_0, mx a0_1 a1_1, t270, smax a0_3 a1_3))) else ((impl_copyMail.f a0_0 a0_1 l0_2 a0_3).bind fun bt273 => (some (bt273.1, bt273.2.1, bt273.2.2.1, bt273.2.2.2)))) = some (r1, r2, r3, r4) := h
  clear h
  by_cases c3 : a0_0 = a1_0
  · rw [if_pos c3] at H
    have c3b0 : (a0_0 == a1_0) = true := beq_iff_eq.mpr c3
    have c3b1 : (a0_0 != a1_0) = false := bne_eq_false_iff_eq.mpr c3
    clear c3
    obtain ⟨ji4, hji4⟩ : ∃ j_ : Int, (mx a0_1 a1_1) = j_ := ⟨_, rfl⟩
    replace H : ((impl_JoinFlags.f k l0_2 l1_2).bind fun t270 => (some (a0_0, ji4, t270, smax a0_3 a1_3))) = some (r1, r2, r3, r4) := by first | (rw [hji4] at H; exact H) | (simp only [hji4] at H ⊢; exact H)
    have hji4_ : (if a0_1 < a1_1 then a1_1 else a0_1) = ji4 := hji4
    replace H := Option.bind_eq_some_iff.mp H
    obtain ⟨t270, A50, H⟩ := H
    replace H : (some (a0_0, ji4, t270, smax a0_3 a1_3)) = some (r1, r2, r3, r4) := H
    have A5 := Aside0.mk A50
    clear A50
    simp only [Option.some.injEq, Prod.mk.injEq] at H
    obtain ⟨rfl, rfl, rfl, rfl⟩ := H
    go_enter Try.func43, Try.ntmps43
    try go_wp2_with (first | ((with_reducible refine gate_dst (N := 2) rfl ?_); refine box_event ?hg (N := 2) ?hd (cs := #[.int .i64 a0_0, .int .i64 a0_1, .slice A0_2 l0_2.length c0_2, .string a0_3]) (t := 69) ?hr ?_; (case hd => rfl); (case hg => rfl); (case hr => first | (go_simp; done) | (go_simp; rfl)); intro gb267 hg w6 hbox hb; have n0_ := Aside0.mk (below_step (by repeat (first | (with_reducible first | exact HB.out | apply below_alloc | apply pw_below_drewN | apply below_drew1) | exact HB.out)) hb); have n1_ := Aside0.mk (hbox); have n2_ := Aside0.mk ((by rw [hg]; exact (below_size (by repeat (first | (with_reducible first | exact HB.out | apply below_alloc | apply pw_below_drewN | apply below_drew1) | exact HB.out))) : w.heap.size ≤ gb267)); have n3_ := Aside0.mk ((by rw [hg]; exact (below_size (by repeat (first | (with_reducible first | exact HB.out | apply below_alloc | apply pw_below_drewN | apply below_drew1) | exact HB.out))) : w.heap.size ≤ gb267)); clear HB; have HB := n0_; have BK267 := n1_; have GW267 := n2_; have GE267 := n3_; clear n0_ n1_ n2_ n3_; clear hb hbox hg) | ((with_reducible refine gate_dst (N := 3) rfl ?_); refine box_event ?hg (N := 3) ?hd (cs := #[.int .i64 a1_0, .int .i64 a1_1, .slice A1_2 l1_2.length c1_2, .string a1_3]) (t := 69) ?hr ?_; (case hd => rfl); (case hg => rfl); (case hr => first | (go_simp; done) | (go_simp; rfl)); intro gb268 hg w7 hbox hb; have n0_ := Aside0.mk (blk_below (g := gb267) (o := .cells #[.int .i64 a0_0, .int .i64 a0_1, .slice A0_2 l0_2.length c0_2, .string a0_3] 69 (0, 0)) (by (with_reducible repeat (first | refine blk_drewN ?_ _ | refine blk_drew ?_ | refine blk_alloc ?_ _)); exact BK267.out) hb); have n1_ := Aside0.mk (below_step (by repeat (first | (with_reducible first | exact HB.out | apply below_alloc | apply pw_below_drewN | apply below_drew1 | refine below_set ?_ GE267.out) | exact HB.out)) hb); have n2_ := Aside0.mk (hbox); have n3_ := Aside0.mk ((by rw [hg]; exact (below_size (by repeat (first | (with_reducible first | exact HB.out | apply below_alloc | apply pw_below_drewN | apply below_drew1 | refine below_set ?_ GE267.out) | exact HB.out))) : w.heap.size ≤ gb268)); have n4_ := Aside0.mk ((by rw [hg]; exact (below_size (by repeat (first | (with_reducible first | exact HB.out | apply below_alloc | apply pw_below_drewN | apply below_drew1 | refine below_set ?_ GE267.out) | exact HB.out))) : w.heap.size ≤ gb268)); have n5_ := Aside0.mk ((by rw [hg]; exact Nat.ne_of_lt (blk_lt (g := gb267) (o := .cells #[.int .i64 a0_0, .int .i64 a0_1, .slice A0_2 l0_2.length c0_2, .string a0_3] 69 (0, 0)) (by (with_reducible repeat (first | refine blk_drewN ?_ _ | refine blk_drew ?_ | refine blk_alloc ?_ _)); exact BK267.out)) : gb267 ≠ gb268)); have n6_ := Aside0.mk ((by rw [hg]; exact Nat.ne_of_gt (blk_lt (g := gb267) (o := .cells #[.int .i64 a0_0, .int .i64 a0_1, .slice A0_2 l0_2.length c0_2, .string a0_3] 69 (0, 0)) (by (with_reducible repeat (first | refine blk_drewN ?_ _ | refine blk_drew ?_ | refine blk_alloc ?_ _)); exact BK267.out)) : gb268 ≠ gb267)); clear BK267; clear HB; have BK267 := n0_; have HB := n1_; have BK268 := n2_; have GW268 := n3_; have GE268 := n4_; have NB267_268 := n5_; have NB268_267 := n6_; clear n0_ n1_ n2_ n3_ n4_ n5_ n6_; clear hb hbox hg) | ((with_reducible refine gate_dst (N := 4) rfl ?_); refine box_event ?hg (N := 4) ?hd (cs := #[.int .i64 0, .int .i64 0, .slice none 0 0, .string (⟨#[]⟩ : ByteArray)]) (t := 69) ?hr ?_; (case hd => rfl); (case hg => rfl); (case hr => first | (go_simp; done) | (go_simp; rfl)); intro gb269 hg w8 hbox hb; have n0_ := Aside0.mk (blk_below (g := gb267) (o := .cells #[.int .i64 a0_0, .int .i64 a0_1, .slice A0_2 l0_2.length c0_2, .string a0_3] 69 (0, 0)) (by (with_reducible repeat (first | refine blk_drewN ?_ _ | refine blk_drew ?_ | refine blk_alloc ?_ _)); exact BK267.out) hb); have n1_ := Aside0.mk (blk_below (g := gb268) (o := .cells #[.int .i64 a1_0, .int .i64 a1_1, .slice A1_2 l1_2.length c1_2, .string a1_3] 69 (0, 0)) (by (with_reducible repeat (first | refine blk_drewN ?_ _ | refine blk_drew ?_ | refine blk_alloc ?_ _)); exact BK268.out) hb); have n2_ := Aside0.mk (below_step (by repeat (first | (with_reducible first | exact HB.out | apply below_alloc | apply pw_below_drewN | apply below_drew1 | refine below_set ?_ GE267.out | refine below_set ?_ GE268.out) | exact HB.out)) hb); have n3_ := Aside0.mk (hbox); have n4_ := Aside0.mk ((by rw [hg]; exact (below_size (by repeat (first | (with_reducible first | exact HB.out | apply below_alloc | apply pw_below_drewN | apply below_drew1 | refine below_set ?_ GE267.out | refine below_set ?_ GE268.out) | exact HB.out))) : w.heap.size ≤ gb269)); have n5_ := Aside0.mk ((by rw [hg]; exact (below_size (by repeat (first | (with_reducible first | exact HB.out | apply below_alloc | apply pw_below_drewN | apply below_drew1 | refine below_set ?_ GE267.out | refine below_set ?_ GE268.out) | exact HB.out))) : w.heap.size ≤ gb269)); have n6_ := Aside0.mk ((by rw [hg]; exact Nat.ne_of_lt (blk_lt (g := gb267) (o := .cells #[.int .i64 a0_0, .int .i64 a0_1, .slice A0_2 l0_2.length c0_2, .string a0_3] 69 (0, 0)) (by (with_reducible repeat (first | refine blk_drewN ?_ _ | refine blk_drew ?_ | refine blk_alloc ?_ _)); exact BK267.out)) : gb267 ≠ gb269)); have n7_ := Aside0.mk ((by rw [hg]; exact Nat.ne_of_gt (blk_lt (g := gb267) (o := .cells #[.int .i64 a0_0, .int .i64 a0_1, .slice A0_2 l0_2.length c0_2, .string a0_3] 69 (0, 0)) (by (with_reducible repeat (first | refine blk_drewN ?_ _ | refine blk_drew ?_ | refine blk_alloc ?_ _)); exact BK267.out)) : gb269 ≠ gb267)); have n8_ := Aside0.mk ((by rw [hg]; exact Nat.ne_of_lt (blk_lt (g := gb268) (o := .cells #[.int .i64 a1_0, .int .i64 a1_1, .slice A1_2 l1_2.length c1_2, .string a1_3] 69 (0, 0)) (by (with_reducible repeat (first | refine blk_drewN ?_ _ | refine blk_drew ?_ | refine blk_alloc ?_ _)); exact BK268.out)) : gb268 ≠ gb269)); have n9_ := Aside0.mk ((by rw [hg]; exact Nat.ne_of_gt (blk_lt (g := gb268) (o := .cells #[.int .i64 a1_0, .int .i64 a1_1, .slice A1_2 l1_2.length c1_2, .string a1_3] 69 (0, 0)) (by (with_reducible repeat (first | refine blk_drewN ?_ _ | refine blk_drew ?_ | refine blk_alloc ?_ _)); exact BK268.out)) : gb269 ≠ gb268)); clear BK267; clear BK268; clear HB; have BK267 := n0_; have BK268 := n1_; have HB := n2_; have BK269 := n3_; have GW269 := n4_; have GE269 := n5_; have NB267_269 := n6_; have NB269_267 := n7_; have NB268_269 := n8_; have NB269_268 := n9_; clear n0_ n1_ n2_ n3_ n4_ n5_ n6_ n7_ n8_ n9_; clear hb hbox hg; have hnb9 := NB267_268.out; have hnc9 := NB268_267.out; have hnb10 := NB267_269.out; have hnc10 := NB269_267.out; have hcz11_0 : w8.cell? ⟨gb267, 0, none⟩ = some (.int .i64 a0_0) := (blk_cell BK267.out 0).trans rfl; have hcz11_1 : w8.cell? ⟨gb267, 1, none⟩ = some (.int .i64 a0_1) := (blk_cell BK267.out 1).trans rfl; have hcz11_2 : w8.cell? ⟨gb267, 2, none⟩ = some (.slice A0_2 l0_2.length c0_2) := (blk_cell BK267.out 2).trans rfl; have hcz11_3 : w8.cell? ⟨gb267, 3, none⟩ = some (.string a0_3) := (blk_cell BK267.out 3).trans rfl; have hfz11_0 := blk_frozen BK267.out 0; have hfz11_1 := blk_frozen BK267.out 1; have hfz11_2 := blk_frozen BK267.out 2; have hfz11_3 := blk_frozen BK267.out 3; have hnb12 := NB268_269.out; have hnc12 := NB269_268.out; have hcz13_0 : w8.cell? ⟨gb268, 0, none⟩ = some (.int .i64 a1_0) := (blk_cell BK268.out 0).trans rfl; have hcz13_1 : w8.cell? ⟨gb268, 1, none⟩ = some (.int .i64 a1_1) := (blk_cell BK268.out 1).trans rfl; have hcz13_2 : w8.cell? ⟨gb268, 2, none⟩ = some (.slice A1_2 l1_2.length c1_2) := (blk_cell BK268.out 2).trans rfl; have hcz13_3 : w8.cell? ⟨gb268, 3, none⟩ = some (.string a1_3) := (blk_cell BK268.out 3).trans rfl; have hfz13_0 := blk_frozen BK268.out 0; have hfz13_1 := blk_frozen BK268.out 1; have hfz13_2 := blk_frozen BK268.out 2; have hfz13_3 := blk_frozen BK268.out 3))
    have n0_ := Aside0.mk (blk_drew BK267.out)
    have n1_ := Aside0.mk (blk_drew BK268.out)
    have n2_ := Aside0.mk (blk_drew BK269.out)
    have n3_ := Aside0.mk (below_drew1 HB.out)
    clear BK267
    clear BK268
    clear BK269
    clear HB
    have BK267 := n0_
    have BK268 := n1_
    have BK269 := n2_
    have HB := n3_
    clear n0_ n1_ n2_ n3_
    refine start_ (n := 19) (S := fun w' => w'.cell? ⟨gb267, 0, none⟩ = some (.int .i64 a0_0) ∧ w'.cell? ⟨gb267, 1, none⟩ = some (.int .i64 a0_1) ∧ w'.cell? ⟨gb267, 2, none⟩ = some (.slice A0_2 l0_2.length c0_2) ∧ w'.cell? ⟨gb267, 3, none⟩ = some (.string a0_3) ∧ w'.cell? ⟨gb268, 0, none⟩ = some (.int .i64 a1_0) ∧ w'.cell? ⟨gb268, 1, none⟩ = some (.int .i64 a1_1) ∧ w'.cell? ⟨gb268, 2, none⟩ = some (.slice A1_2 l1_2.length c1_2) ∧ w'.cell? ⟨gb268, 3, none⟩ = some (.string a1_3)) (ds := []) #[false, false, false, false, false, false, false, false, false, false, false, false, false, false, false, false, false, false, false] (by kernel_rfl) rfl rfl ⟨(blk_cell BK267.out 0).trans rfl, (blk_cell BK267.out 1).trans rfl, (blk_cell BK267.out 2).trans rfl, (blk_cell BK267.out 3).trans rfl, (blk_cell BK268.out 0).trans rfl, (blk_cell BK268.out 1).trans rfl, (blk_cell BK268.out 2).trans rfl, (blk_cell BK268.out 3).trans rfl⟩ (fun hHeld => ?_); refine with_tabW impl_JoinMail.tab3 impl_JoinMail.bits3 (fun HT_ HW_ => ?_)
    generalize w8.drew = w14 at BK267 BK268 BK269 HB hHeld ⊢
    refine pure_ (i := 0) (N := some 12) (v := ?_) (a' := ?_) #[true, false, false, false, false, false, false, false, false, false, false, false, false, false, false, false, false, false, false] rfl rfl (any_of HT_.out (by kernel_rfl)) (fun _ _ _ h => h) (Or.inl ⟨by rfl, ?_⟩) ?_ ?_
    rotate_left
    · intro w'
      go_simp
      with_reducible rfl
    rotate_left
    · simp only [Act.put, List.setIfInBounds_toArray, List.set_cons_zero, List.set_cons_succ, i64_w, i32_w]
      rfl
    refine pure_ (i := 2) (N := some 14) (v := ?_) (a' := ?_) #[true, false, true, false, false, false, false, false, false, false, false, false, false, false, false, false, false, false, false] rfl rfl (any_of HT_.out (by kernel_rfl)) (fun _ _ _ h => h) (Or.inl ⟨by rfl, ?_⟩) ?_ ?_
    rotate_left
    · intro w'
      go_simp
      with_reducible rfl
    rotate_left
    · simp only [Act.put, List.setIfInBounds_toArray, List.set_cons_zero, List.set_cons_succ, i64_w, i32_w]
      rfl
    refine pure_ (i := 4) (N := some 16) (v := ?_) (a' := ?_) #[true, false, true, false, true, false, false, false, false, false, false, false, false, false, false, false, false, false, false] rfl rfl (any_of HT_.out (by kernel_rfl)) (fun _ _ _ h => h) (Or.inl ⟨by rfl, ?_⟩) ?_ ?_
    rotate_left
    · intro w'
      go_simp
      with_reducible rfl
    rotate_left
    · simp only [Act.put, List.setIfInBounds_toArray, List.set_cons_zero, List.set_cons_succ, i64_w, i32_w]
      rfl
    refine pure_ (i := 7) (N := some 19) (v := ?_) (a' := ?_) #[true, false, true, false, true, false, false, true, false, false, false, false, false, false, false, false, false, false, false] rfl rfl (any_of HT_.out (by kernel_rfl)) (fun _ _ _ h => h) (Or.inl ⟨by rfl, ?_⟩) ?_ ?_
    rotate_left
    · intro w'
      go_simp
      with_reducible rfl
    rotate_left
    · simp only [Act.put, List.setIfInBounds_toArray, List.set_cons_zero, List.set_cons_succ, i64_w, i32_w]
      rfl
    refine pure_ (i := 9) (N := some 21) (v := ?_) (a' := ?_) #[true, false, true, false, true, false, false, true, false, true, false, false, false, false, false, false, false, false, false] rfl rfl (any_of HT_.out (by kernel_rfl)) (fun _ _ _ h => h) (Or.inl ⟨by rfl, ?_⟩) ?_ ?_
    rotate_left
    · intro w'
      go_simp
      with_reducible rfl
    rotate_left
    · simp only [Act.put, List.setIfInBounds_toArray, List.set_cons_zero, List.set_cons_succ, i64_w, i32_w]
      rfl
    refine pure_ (i := 12) (N := some 24) (v := ?_) (a' := ?_) #[true, false, true, false, true, false, false, true, false, true, false, false, true, false, false, false, false, false, false] rfl rfl (any_of HT_.out (by kernel_rfl)) (fun _ _ _ h => h) (Or.inl ⟨by rfl, ?_⟩) ?_ ?_
    rotate_left
    · intro w'
      go_simp
      with_reducible rfl
    rotate_left
    · simp only [Act.put, List.setIfInBounds_toArray, List.set_cons_zero, List.set_cons_succ, i64_w, i32_w]
      rfl
    refine pure_ (i := 14) (N := some 26) (v := ?_) (a' := ?_) #[true, false, true, false, true, false, false, true, false, true, false, false, true, false, true, false, false, false, false] rfl rfl (any_of HT_.out (by kernel_rfl)) (fun _ _ _ h => h) (Or.inl ⟨by rfl, ?_⟩) ?_ ?_
    rotate_left
    · intro w'
      go_simp
      with_reducible rfl
    rotate_left
    · simp only [Act.put, List.setIfInBounds_toArray, List.set_cons_zero, List.set_cons_succ, i64_w, i32_w]
      rfl
    refine take_ (i := 1) (N := some 13) (v := ?_) (a' := ?_) #[true, true, true, false, true, false, false, true, false, true, false, false, true, false, true, false, false, false, false] rfl rfl (take_ofW HT_.out HW_.out (by kernel_rfl)) (fun _ _ _ h => h) (Or.inl ⟨by rfl, ?_⟩) hHeld ?_ ?_
    rotate_left
    · rintro w' ⟨s0, s1, s2, s3, s4, s5, s6, s7⟩
      go_simp
      with_reducible rfl
    rotate_left
    · simp only [Act.put, List.setIfInBounds_toArray, List.set_cons_zero, List.set_cons_succ, i64_w, i32_w]
      rfl
    refine take_ (i := 3) (N := some 15) (v := ?_) (a' := ?_) #[true, true, true, true, true, false, false, true, false, true, false, false, true, false, true, false, false, false, false] rfl rfl (take_ofW HT_.out HW_.out (by kernel_rfl)) (fun _ _ _ h => h) (Or.inl ⟨by rfl, ?_⟩) hHeld ?_ ?_
    rotate_left
    · rintro w' ⟨s0, s1, s2, s3, s4, s5, s6, s7⟩
      go_simp
      with_reducible rfl
    rotate_left
    · simp only [Act.put, List.setIfInBounds_toArray, List.set_cons_zero, List.set_cons_succ, i64_w, i32_w]
      rfl
    refine take_ (i := 5) (N := some 17) (v := ?_) (a' := ?_) #[true, true, true, true, true, true, false, true, false, true, false, false, true, false, true, false, false, false, false] rfl rfl (take_ofW HT_.out HW_.out (by kernel_rfl)) (fun _ _ _ h => h) (Or.inl ⟨by rfl, ?_⟩) hHeld ?_ ?_
    rotate_left
    · rintro w' ⟨s0, s1, s2, s3, s4, s5, s6, s7⟩
      go_simp
      with_reducible rfl
    rotate_left
    · simp only [Act.put, List.setIfInBounds_toArray, List.set_cons_zero, List.set_cons_succ, i64_w, i32_w]
      rfl
    refine pure_ (i := 6) (N := some 18) (v := ?_) (a' := ?_) #[true, true, true, true, true, true, true, true, false, true, false, false, true, false, true, false, false, false, false] rfl rfl (any_of HT_.out (by kernel_rfl)) (fun _ _ _ h => h) (Or.inl ⟨by rfl, ?_⟩) ?_ ?_
    rotate_left
    · intro w'
      go_simp
      with_reducible rfl
    rotate_left
    · simp only [Act.put, List.setIfInBounds_toArray, List.set_cons_zero, List.set_cons_succ, i64_w, i32_w]
      rfl
    refine take_ (i := 8) (N := some 20) (v := ?_) (a' := ?_) #[true, true, true, true, true, true, true, true, true, true, false, false, true, false, true, false, false, false, false] rfl rfl (take_ofW HT_.out HW_.out (by kernel_rfl)) (fun _ _ _ h => h) (Or.inl ⟨by rfl, ?_⟩) hHeld ?_ ?_
    rotate_left
    · rintro w' ⟨s0, s1, s2, s3, s4, s5, s6, s7⟩
      go_simp
      with_reducible rfl
    rotate_left
    · simp only [Act.put, List.setIfInBounds_toArray, List.set_cons_zero, List.set_cons_succ, i64_w, i32_w]
      rfl
    refine take_ (i := 10) (N := some 22) (v := ?_) (a' := ?_) #[true, true, true, true, true, true, true, true, true, true, true, false, true, false, true, false, false, false, false] rfl rfl (take_ofW HT_.out HW_.out (by kernel_rfl)) (fun _ _ _ h => h) (Or.inl ⟨by rfl, ?_⟩) hHeld ?_ ?_
    rotate_left
    · rintro w' ⟨s0, s1, s2, s3, s4, s5, s6, s7⟩
      go_simp
      with_reducible rfl
    rotate_left
    · simp only [Act.put, List.setIfInBounds_toArray, List.set_cons_zero, List.set_cons_succ, i64_w, i32_w]
      rfl
    refine take_ (i := 13) (N := some 25) (v := ?_) (a' := ?_) #[true, true, true, true, true, true, true, true, true, true, true, false, true, true, true, false, false, false, false] rfl rfl (take_ofW HT_.out HW_.out (by kernel_rfl)) (fun _ _ _ h => h) (Or.inl ⟨by rfl, ?_⟩) hHeld ?_ ?_
    rotate_left
    · rintro w' ⟨s0, s1, s2, s3, s4, s5, s6, s7⟩
      go_simp
      with_reducible rfl
    rotate_left
    · simp only [Act.put, List.setIfInBounds_toArray, List.set_cons_zero, List.set_cons_succ, i64_w, i32_w]
      rfl
    refine take_ (i := 15) (N := some 27) (v := ?_) (a' := ?_) #[true, true, true, true, true, true, true, true, true, true, true, false, true, true, true, true, false, false, false] rfl rfl (take_ofW HT_.out HW_.out (by kernel_rfl)) (fun _ _ _ h => h) (Or.inl ⟨by rfl, ?_⟩) hHeld ?_ ?_
    rotate_left
    · rintro w' ⟨s0, s1, s2, s3, s4, s5, s6, s7⟩
      go_simp
      with_reducible rfl
    rotate_left
    · simp only [Act.put, List.setIfInBounds_toArray, List.set_cons_zero, List.set_cons_succ, i64_w, i32_w]
      rfl
    refine pure_ (i := 16) (N := some 28) (v := ?_) (a' := ?_) #[true, true, true, true, true, true, true, true, true, true, true, false, true, true, true, true, true, false, false] rfl rfl (any_of HT_.out (by kernel_rfl)) (fun _ _ _ h => h) (Or.inl ⟨by rfl, ?_⟩) ?_ ?_
    rotate_left
    · intro w'
      go_simp
      with_reducible rfl
    rotate_left
    · simp only [Act.put, List.setIfInBounds_toArray, List.set_cons_zero, List.set_cons_succ, i64_w, i32_w]
      rfl
    refine one_ (i := 11) (N := some 23) #[true, true, true, true, true, true, true, true, true, true, true, true, true, true, true, true, true, false, false] rfl rfl (one_of HT_.out (by kernel_rfl)) (by decide) (fun K hK => ?_)
    refine goes_ Try.func48 (by kernel_rfl) rfl #[.slice A0_2 l0_2.length c0_2, .slice A1_2 l1_2.length c1_2] (by rfl) rfl rfl (by (try simp only [List.map_toArray, List.map_cons, List.map_nil]); first | done | rfl | (simp only [List.length_drop, List.length_take]; rfl)) ?_
    with_reducible refine (impl_JoinFlags.calls k _ _ l0_2 _ _ l1_2 t270 _ ?side1 ?side2 ?side3 ?side4 A5.out).mono ?_
    (case side1 => repeat (first | exact (Kd.C_below HR0_2.out HB.out) | (with_reducible refine Kd.C_alloc ?_ _) | (with_reducible refine Kd.C_drewN ?_ _) | (with_reducible refine Kd.C_drew ?_)))
    (case side2 => exact HC0_2.out)
    (case side3 => repeat (first | exact (Kd.C_below HR1_2.out HB.out) | (with_reducible refine Kd.C_alloc ?_ _) | (with_reducible refine Kd.C_drewN ?_ _) | (with_reducible refine Kd.C_drew ?_)))
    (case side4 => exact HC1_2.out)
    rintro e w15 ⟨v271, rfl, ho0, hb⟩
    refine ⟨_, rfl, ?_⟩
    have n0_ := Aside0.mk (Kd.R_lower ho0 (below_size (by repeat (first | (with_reducible first | exact HB.out | apply below_alloc | apply pw_below_drewN | apply below_drew1 | refine below_set ?_ GE267.out | refine below_set ?_ GE268.out | refine below_set ?_ GE269.out) | exact HB.out))))
    have n1_ := Aside0.mk (blk_below (g := gb267) (o := .cells #[.int .i64 a0_0, .int .i64 a0_1, .slice A0_2 l0_2.length c0_2, .string a0_3] 69 (0, 0)) (by (with_reducible repeat (first | refine blk_drewN ?_ _ | refine blk_drew ?_ | refine blk_alloc ?_ _)); exact BK267.out) hb)
    have n2_ := Aside0.mk (blk_below (g := gb268) (o := .cells #[.int .i64 a1_0, .int .i64 a1_1, .slice A1_2 l1_2.length c1_2, .string a1_3] 69 (0, 0)) (by (with_reducible repeat (first | refine blk_drewN ?_ _ | refine blk_drew ?_ | refine blk_alloc ?_ _)); exact BK268.out) hb)
    have n3_ := Aside0.mk (blk_below (g := gb269) (o := .cells #[.int .i64 0, .int .i64 0, .slice none 0 0, .string (⟨#[]⟩ : ByteArray)] 69 (0, 0)) (by (with_reducible repeat (first | refine blk_drewN ?_ _ | refine blk_drew ?_ | refine blk_alloc ?_ _)); exact BK269.out) hb)
    have n4_ := Aside0.mk (below_step (by repeat (first | (with_reducible first | exact HB.out | apply below_alloc | apply pw_below_drewN | apply below_drew1 | refine below_set ?_ GE267.out | refine below_set ?_ GE268.out | refine below_set ?_ GE269.out) | exact HB.out)) hb)
    clear BK267
    clear BK268
    clear BK269
    clear HB
    have HO272 := n0_
    have BK267 := n1_
    have BK268 := n2_
    have BK269 := n3_
    have HB := n4_
    clear n0_ n1_ n2_ n3_ n4_
    (try clear hb)
    (try clear hb2)
    (try clear hk)
    (try clear hi)
    (try clear ho0)
    obtain ⟨Ao16, co16, eo16⟩ := Kd.R_slice HO272.out
    (first | subst eo16 | (injection eo16 with f1_ f2_ f3_; have f4_ := f1_.symm; have f5_ := f3_.symm; clear f1_ f2_ f3_; subst f4_; subst f5_))
    refine hK.out _ _ ⟨(blk_cell BK267.out 0).trans rfl, (blk_cell BK267.out 1).trans rfl, (blk_cell BK267.out 2).trans rfl, (blk_cell BK267.out 3).trans rfl, (blk_cell BK268.out 0).trans rfl, (blk_cell BK268.out 1).trans rfl, (blk_cell BK268.out 2).trans rfl, (blk_cell BK268.out 3).trans rfl⟩ (fun hHeld => ?_)
    clear hK K
    refine norm_ (a' := ?_) ?_ ?_
    rotate_left
    · show Act.put _ (some 23) _ = _
      simp only [Act.put, List.setIfInBounds_toArray, List.set_cons_zero, List.set_cons_succ, i64_w, i32_w]
      rfl
    refine pure_ (i := 17) (N := some 29) (v := ?_) (a' := ?_) #[true, true, true, true, true, true, true, true, true, true, true, true, true, true, true, true, true, true, false] rfl rfl (any_of HT_.out (by kernel_rfl)) (fun _ _ _ h => h) (Or.inl ⟨by rfl, ?_⟩) ?_ ?_
    rotate_left
    · intro w'
      go_simp
      with_reducible rfl
    rotate_left
    · simp only [Act.put, List.setIfInBounds_toArray, List.set_cons_zero, List.set_cons_succ, i64_w, i32_w]
      rfl
    refine one_ (i := 18) (N := none) #[true, true, true, true, true, true, true, true, true, true, true, true, true, true, true, true, true, true, true] rfl rfl (one_of HT_.out (by kernel_rfl)) (by decide) (fun K hK => ?_)
    have hs17 : w15.cell? ⟨gb269, 0, none⟩ = some (.int .i64 0) := (blk_cell BK269.out 0).trans rfl
    have hfs17 := blk_frozen BK269.out 0
    have hns17_0 := NB267_269.out
    have hns17_1 := NB268_269.out
    have hms17_0 := NB269_267.out
    have hms17_1 := NB269_268.out
    have hs18 : w15.cell? ⟨gb269, 1, none⟩ = some (.int .i64 0) := (blk_cell BK269.out 1).trans rfl
    have hfs18 := blk_frozen BK269.out 1
    have hns18_0 := NB267_269.out
    have hns18_1 := NB268_269.out
    have hms18_0 := NB269_267.out
    have hms18_1 := NB269_268.out
    have hs19 : w15.cell? ⟨gb269, 2, none⟩ = some (.slice none 0 0) := (blk_cell BK269.out 2).trans rfl
    have hfs19 := blk_frozen BK269.out 2
    have hns19_0 := NB267_269.out
    have hns19_1 := NB268_269.out
    have hms19_0 := NB269_267.out
    have hms19_1 := NB269_268.out
    have hs20 : w15.cell? ⟨gb269, 3, none⟩ = some (.string (⟨#[]⟩ : ByteArray)) := (blk_cell BK269.out 3).trans rfl
    have hfs20 := blk_frozen BK269.out 3
    have hns20_0 := NB267_269.out
    have hns20_1 := NB268_269.out
    have hms20_0 := NB269_267.out
    have hms20_1 := NB269_268.out
    refine skip_ (w1 := ?_) (by rfl) rfl ?_ ?_
    rotate_left
    · go_simp
      rfl
    refine hK.out _ _ ⟨((cell_far (p := ⟨gb269, _, none⟩) NB267_269.out _).trans (((cell_far (p := ⟨gb269, _, none⟩) NB267_269.out _).trans (((cell_far (p := ⟨gb269, _, none⟩) NB267_269.out _).trans (((cell_far (p := ⟨gb269, _, none⟩) NB267_269.out _).trans (hHeld.1)))))))), ((cell_far (p := ⟨gb269, _, none⟩) NB267_269.out _).trans (((cell_far (p := ⟨gb269, _, none⟩) NB267_269.out _).trans (((cell_far (p := ⟨gb269, _, none⟩) NB267_269.out _).trans (((cell_far (p := ⟨gb269, _, none⟩) NB267_269.out _).trans (hHeld.2.1)))))))), ((cell_far (p := ⟨gb269, _, none⟩) NB267_269.out _).trans (((cell_far (p := ⟨gb269, _, none⟩) NB267_269.out _).trans (((cell_far (p := ⟨gb269, _, none⟩) NB267_269.out _).trans (((cell_far (p := ⟨gb269, _, none⟩) NB267_269.out _).trans (hHeld.2.2.1)))))))), ((cell_far (p := ⟨gb269, _, none⟩) NB267_269.out _).trans (((cell_far (p := ⟨gb269, _, none⟩) NB267_269.out _).trans (((cell_far (p := ⟨gb269, _, none⟩) NB267_269.out _).trans (((cell_far (p := ⟨gb269, _, none⟩) NB267_269.out _).trans (hHeld.2.2.2.1)))))))), ((cell_far (p := ⟨gb269, _, none⟩) NB268_269.out _).trans (((cell_far (p := ⟨gb269, _, none⟩) NB268_269.out _).trans (((cell_far (p := ⟨gb269, _, none⟩) NB268_269.out _).trans (((cell_far (p := ⟨gb269, _, none⟩) NB268_269.out _).trans (hHeld.2.2.2.2.1)))))))), ((cell_far (p := ⟨gb269, _, none⟩) NB268_269.out _).trans (((cell_far (p := ⟨gb269, _, none⟩) NB268_269.out _).trans (((cell_far (p := ⟨gb269, _, none⟩) NB268_269.out _).trans (((cell_far (p := ⟨gb269, _, none⟩) NB268_269.out _).trans (hHeld.2.2.2.2.2.1)))))))), ((cell_far (p := ⟨gb269, _, none⟩) NB268_269.out _).trans (((cell_far (p := ⟨gb269, _, none⟩) NB268_269.out _).trans (((cell_far (p := ⟨gb269, _, none⟩) NB268_269.out _).trans (((cell_far (p := ⟨gb269, _, none⟩) NB268_269.out _).trans (hHeld.2.2.2.2.2.2.1)))))))), ((cell_far (p := ⟨gb269, _, none⟩) NB268_269.out _).trans (((cell_far (p := ⟨gb269, _, none⟩) NB268_269.out _).trans (((cell_far (p := ⟨gb269, _, none⟩) NB268_269.out _).trans (((cell_far (p := ⟨gb269, _, none⟩) NB268_269.out _).trans (hHeld.2.2.2.2.2.2.2))))))))⟩ (fun hHeld => ?_)
    clear hK K
    refine done_ (done_of HT_.out (by kernel_rfl)) ?_
    try go_wp2
    refine bodyPost_ret (results_cell_row rfl _ _ gb269 69 #[.int .i64 a0_0, .int .i64 ji4, .slice Ao16 t270.length co16, .string (smax a0_3 a1_3)] (0, 0) _ rfl (by (with_reducible repeat (first | refine blk_drewN ?_ _ | refine blk_drew ?_ | refine blk_alloc ?_ _)); refine blk_put (cs := #[.int .i64 a0_0, .int .i64 ji4, .slice Ao16 t270.length co16, .string (⟨#[]⟩ : ByteArray)]) ?_ 3 _ rfl; (with_reducible repeat (first | refine blk_drewN ?_ _ | refine blk_drew ?_ | refine blk_alloc ?_ _)); refine blk_put (cs := #[.int .i64 a0_0, .int .i64 ji4, .slice none 0 0, .string (⟨#[]⟩ : ByteArray)]) ?_ 2 _ rfl; (with_reducible repeat (first | refine blk_drewN ?_ _ | refine blk_drew ?_ | refine blk_alloc ?_ _)); refine blk_put (cs := #[.int .i64 a0_0, .int .i64 0, .slice none 0 0, .string (⟨#[]⟩ : ByteArray)]) ?_ 1 _ rfl; (with_reducible repeat (first | refine blk_drewN ?_ _ | refine blk_drew ?_ | refine blk_alloc ?_ _)); refine blk_put (cs := #[.int .i64 0, .int .i64 0, .slice none 0 0, .string (⟨#[]⟩ : ByteArray)]) ?_ 0 _ rfl; (with_reducible repeat (first | refine blk_drewN ?_ _ | refine blk_drew ?_ | refine blk_alloc ?_ _)); exact BK269.out) Try.underlying69 rfl (by kernel_rfl)) rfl ?_
    exact ⟨_, by first | rfl | (simp [errW_none, errW_some] <;> rfl) | (simp only [← hji4]; first | rfl | (simp [errW_none, errW_some] <;> rfl)) | (simp [*, errW_none, errW_some] <;> rfl), by (with_reducible repeat (first | apply Kd.R_alloc | apply Kd.R_drewN | apply Kd.R_drew)); exact Kd.R_mono (Kd.R_far (p := ⟨gb269, 3, none⟩) (Kd.R_far (p := ⟨gb269, 2, none⟩) (Kd.R_far (p := ⟨gb269, 1, none⟩) (Kd.R_far (p := ⟨gb269, 0, none⟩) (Kd.R_types HO272.out BK269.out (by decide)) (fun _ hk => hk.2) (.int .i64 a0_0)) (fun _ hk => hk.2) (.int .i64 ji4)) (fun _ hk => hk.2) (.slice Ao16 t270.length co16)) (fun _ hk => hk.2) (.string (smax a0_3 a1_3))) (fun _ hk => trivial), by repeat (first | (with_reducible first | exact HB.out | apply below_alloc | apply pw_below_drewN | apply below_drew1 | refine below_set ?_ GE267.out | refine below_set ?_ GE268.out | refine below_set ?_ GE269.out) | exact HB.out)⟩
  · rw [if_neg c3] at H
    have c3b0 : (a0_0 == a1_0) = false := beq_eq_false_iff_ne.mpr c3
    have c3b1 : (a0_0 != a1_0) = true := bne_iff_ne.mpr c3
    replace H := Option.bind_eq_some_iff.mp H
    obtain ⟨⟨t273, t274, t275, t278⟩, A210, H⟩ := H
    replace H : (some (t273, t274, t275, t278)) = some (r1, r2, r3, r4) := H
    have A21 := Aside0.mk A210
    clear A210
    simp only [Option.some.injEq, Prod.mk.injEq] at H
    obtain ⟨rfl, rfl, rfl, rfl⟩ := H
    go_enter Try.func43, Try.ntmps43
    go_wp2_with (first | ((with_reducible refine gate_dst (N := 2) rfl ?_); refine box_event ?hg (N := 2) ?hd (cs := #[.int .i64 a0_0, .int .i64 a0_1, .slice A0_2 l0_2.length c0_2, .string a0_3]) (t := 69) ?hr ?_; (case hd => rfl); (case hg => rfl); (case hr => first | (go_simp; done) | (go_simp; rfl)); intro gb267 hg w22 hbox hb; have n0_ := Aside0.mk (below_step (by repeat (first | (with_reducible first | exact HB.out | apply below_alloc | apply pw_below_drewN | apply below_drew1) | exact HB.out)) hb); have n1_ := Aside0.mk (hbox); have n2_ := Aside0.mk ((by rw [hg]; exact (below_size (by repeat (first | (with_reducible first | exact HB.out | apply below_alloc | apply pw_below_drewN | apply below_drew1) | exact HB.out))) : w.heap.size ≤ gb267)); have n3_ := Aside0.mk ((by rw [hg]; exact (below_size (by repeat (first | (with_reducible first | exact HB.out | apply below_alloc | apply pw_below_drewN | apply below_drew1) | exact HB.out))) : w.heap.size ≤ gb267)); clear HB; have HB := n0_; have BK267 := n1_; have GW267 := n2_; have GE267 := n3_; clear n0_ n1_ n2_ n3_; clear hb hbox hg) | ((with_reducible refine gate_dst (N := 3) rfl ?_); refine box_event ?hg (N := 3) ?hd (cs := #[.int .i64 a1_0, .int .i64 a1_1, .slice A1_2 l1_2.length c1_2, .string a1_3]) (t := 69) ?hr ?_; (case hd => rfl); (case hg => rfl); (case hr => first | (go_simp; done) | (go_simp; rfl)); intro gb268 hg w23 hbox hb; have n0_ := Aside0.mk (blk_below (g := gb267) (o := .cells #[.int .i64 a0_0, .int .i64 a0_1, .slice A0_2 l0_2.length c0_2, .string a0_3] 69 (0, 0)) (by (with_reducible repeat (first | refine blk_drewN ?_ _ | refine blk_drew ?_ | refine blk_alloc ?_ _)); exact BK267.out) hb); have n1_ := Aside0.mk (below_step (by repeat (first | (with_reducible first | exact HB.out | apply below_alloc | apply pw_below_drewN | apply below_drew1 | refine below_set ?_ GE267.out) | exact HB.out)) hb); have n2_ := Aside0.mk (hbox); have n3_ := Aside0.mk ((by rw [hg]; exact (below_size (by repeat (first | (with_reducible first | exact HB.out | apply below_alloc | apply pw_below_drewN | apply below_drew1 | refine below_set ?_ GE267.out) | exact HB.out))) : w.heap.size ≤ gb268)); have n4_ := Aside0.mk ((by rw [hg]; exact (below_size (by repeat (first | (with_reducible first | exact HB.out | apply below_alloc | apply pw_below_drewN | apply below_drew1 | refine below_set ?_ GE267.out) | exact HB.out))) : w.heap.size ≤ gb268)); have n5_ := Aside0.mk ((by rw [hg]; exact Nat.ne_of_lt (blk_lt (g := gb267) (o := .cells #[.int .i64 a0_0, .int .i64 a0_1, .slice A0_2 l0_2.length c0_2, .string a0_3] 69 (0, 0)) (by (with_reducible repeat (first | refine blk_drewN ?_ _ | refine blk_drew ?_ | refine blk_alloc ?_ _)); exact BK267.out)) : gb267 ≠ gb268)); have n6_ := Aside0.mk ((by rw [hg]; exact Nat.ne_of_gt (blk_lt (g := gb267) (o := .cells #[.int .i64 a0_0, .int .i64 a0_1, .slice A0_2 l0_2.length c0_2, .string a0_3] 69 (0, 0)) (by (with_reducible repeat (first | refine blk_drewN ?_ _ | refine blk_drew ?_ | refine blk_alloc ?_ _)); exact BK267.out)) : gb268 ≠ gb267)); clear BK267; clear HB; have BK267 := n0_; have HB := n1_; have BK268 := n2_; have GW268 := n3_; have GE268 := n4_; have NB267_268 := n5_; have NB268_267 := n6_; clear n0_ n1_ n2_ n3_ n4_ n5_ n6_; clear hb hbox hg) | ((with_reducible refine gate_dst (N := 4) rfl ?_); refine box_event ?hg (N := 4) ?hd (cs := #[.int .i64 0, .int .i64 0, .slice none 0 0, .string (⟨#[]⟩ : ByteArray)]) (t := 69) ?hr ?_; (case hd => rfl); (case hg => rfl); (case hr => first | (go_simp; done) | (go_simp; rfl)); intro gb269 hg w24 hbox hb; have n0_ := Aside0.mk (blk_below (g := gb267) (o := .cells #[.int .i64 a0_0, .int .i64 a0_1, .slice A0_2 l0_2.length c0_2, .string a0_3] 69 (0, 0)) (by (with_reducible repeat (first | refine blk_drewN ?_ _ | refine blk_drew ?_ | refine blk_alloc ?_ _)); exact BK267.out) hb); have n1_ := Aside0.mk (blk_below (g := gb268) (o := .cells #[.int .i64 a1_0, .int .i64 a1_1, .slice A1_2 l1_2.length c1_2, .string a1_3] 69 (0, 0)) (by (with_reducible repeat (first | refine blk_drewN ?_ _ | refine blk_drew ?_ | refine blk_alloc ?_ _)); exact BK268.out) hb); have n2_ := Aside0.mk (below_step (by repeat (first | (with_reducible first | exact HB.out | apply below_alloc | apply pw_below_drewN | apply below_drew1 | refine below_set ?_ GE267.out | refine below_set ?_ GE268.out) | exact HB.out)) hb); have n3_ := Aside0.mk (hbox); have n4_ := Aside0.mk ((by rw [hg]; exact (below_size (by repeat (first | (with_reducible first | exact HB.out | apply below_alloc | apply pw_below_drewN | apply below_drew1 | refine below_set ?_ GE267.out | refine below_set ?_ GE268.out) | exact HB.out))) : w.heap.size ≤ gb269)); have n5_ := Aside0.mk ((by rw [hg]; exact (below_size (by repeat (first | (with_reducible first | exact HB.out | apply below_alloc | apply pw_below_drewN | apply below_drew1 | refine below_set ?_ GE267.out | refine below_set ?_ GE268.out) | exact HB.out))) : w.heap.size ≤ gb269)); have n6_ := Aside0.mk ((by rw [hg]; exact Nat.ne_of_lt (blk_lt (g := gb267) (o := .cells #[.int .i64 a0_0, .int .i64 a0_1, .slice A0_2 l0_2.length c0_2, .string a0_3] 69 (0, 0)) (by (with_reducible repeat (first | refine blk_drewN ?_ _ | refine blk_drew ?_ | refine blk_alloc ?_ _)); exact BK267.out)) : gb267 ≠ gb269)); have n7_ := Aside0.mk ((by rw [hg]; exact Nat.ne_of_gt (blk_lt (g := gb267) (o := .cells #[.int .i64 a0_0, .int .i64 a0_1, .slice A0_2 l0_2.length c0_2, .string a0_3] 69 (0, 0)) (by (with_reducible repeat (first | refine blk_drewN ?_ _ | refine blk_drew ?_ | refine blk_alloc ?_ _)); exact BK267.out)) : gb269 ≠ gb267)); have n8_ := Aside0.mk ((by rw [hg]; exact Nat.ne_of_lt (blk_lt (g := gb268) (o := .cells #[.int .i64 a1_0, .int .i64 a1_1, .slice A1_2 l1_2.length c1_2, .string a1_3] 69 (0, 0)) (by (with_reducible repeat (first | refine blk_drewN ?_ _ | refine blk_drew ?_ | refine blk_alloc ?_ _)); exact BK268.out)) : gb268 ≠ gb269)); have n9_ := Aside0.mk ((by rw [hg]; exact Nat.ne_of_gt (blk_lt (g := gb268) (o := .cells #[.int .i64 a1_0, .int .i64 a1_1, .slice A1_2 l1_2.length c1_2, .string a1_3] 69 (0, 0)) (by (with_reducible repeat (first | refine blk_drewN ?_ _ | refine blk_drew ?_ | refine blk_alloc ?_ _)); exact BK268.out)) : gb269 ≠ gb268)); clear BK267; clear BK268; clear HB; have BK267 := n0_; have BK268 := n1_; have HB := n2_; have BK269 := n3_; have GW269 := n4_; have GE269 := n5_; have NB267_269 := n6_; have NB269_267 := n7_; have NB268_269 := n8_; have NB269_268 := n9_; clear n0_ n1_ n2_ n3_ n4_ n5_ n6_ n7_ n8_ n9_; clear hb hbox hg; have hnb25 := NB267_268.out; have hnc25 := NB268_267.out; have hnb26 := NB267_269.out; have hnc26 := NB269_267.out; have hcz27_0 : w24.cell? ⟨gb267, 0, none⟩ = some (.int .i64 a0_0) := (blk_cell BK267.out 0).trans rfl; have hcz27_1 : w24.cell? ⟨gb267, 1, none⟩ = some (.int .i64 a0_1) := (blk_cell BK267.out 1).trans rfl; have hcz27_2 : w24.cell? ⟨gb267, 2, none⟩ = some (.slice A0_2 l0_2.length c0_2) := (blk_cell BK267.out 2).trans rfl; have hcz27_3 : w24.cell? ⟨gb267, 3, none⟩ = some (.string a0_3) := (blk_cell BK267.out 3).trans rfl; have hfz27_0 := blk_frozen BK267.out 0; have hfz27_1 := blk_frozen BK267.out 1; have hfz27_2 := blk_frozen BK267.out 2; have hfz27_3 := blk_frozen BK267.out 3; have hnb28 := NB268_269.out; have hnc28 := NB269_268.out; have hcz29_0 : w24.cell? ⟨gb268, 0, none⟩ = some (.int .i64 a1_0) := (blk_cell BK268.out 0).trans rfl; have hcz29_1 : w24.cell? ⟨gb268, 1, none⟩ = some (.int .i64 a1_1) := (blk_cell BK268.out 1).trans rfl; have hcz29_2 : w24.cell? ⟨gb268, 2, none⟩ = some (.slice A1_2 l1_2.length c1_2) := (blk_cell BK268.out 2).trans rfl; have hcz29_3 : w24.cell? ⟨gb268, 3, none⟩ = some (.string a1_3) := (blk_cell BK268.out 3).trans rfl; have hfz29_0 := blk_frozen BK268.out 0; have hfz29_1 := blk_frozen BK268.out 1; have hfz29_2 := blk_frozen BK268.out 2; have hfz29_3 := blk_frozen BK268.out 3) | ((with_reducible refine gate_callee (f := 132) rfl ?_); refine goesL_ (some 11) rfl rfl Try.func132 (by kernel_rfl) rfl #[.agg #[.int .i64 a0_0, .int .i64 a0_1, .slice A0_2 l0_2.length c0_2, .string a0_3]] rfl (by (try simp only [List.map_toArray, List.map_cons, List.map_nil]); first | done | rfl | (simp only [List.length_drop, List.length_take]; rfl)) ?_; (with_reducible refine (impl_copyMail.calls a0_0 a0_1 _ _ l0_2 a0_3 t273 t274 t275 t278 _ ?side1 ?side2 A21.out).mono ?_); (case side1 => repeat (first | exact (Kd.C_below HR0_2.out HB.out) | (with_reducible refine Kd.C_alloc ?_ _) | (with_reducible refine Kd.C_drewN ?_ _) | (with_reducible refine Kd.C_drew ?_))); (case side2 => exact HC0_2.out); rintro e w30 ⟨v276, rfl, ho0, hb⟩; refine ⟨_, rfl, ?_⟩; have n0_ := Aside0.mk (Kd.R_lower ho0 (below_size (by repeat (first | (with_reducible first | exact HB.out | apply below_alloc | apply pw_below_drewN | apply below_drew1 | refine below_set ?_ GE267.out | refine below_set ?_ GE268.out | refine below_set ?_ GE269.out) | exact HB.out)))); have n1_ := Aside0.mk (blk_below (g := gb267) (o := .cells #[.int .i64 a0_0, .int .i64 a0_1, .slice A0_2 l0_2.length c0_2, .string a0_3] 69 (0, 0)) (by (with_reducible repeat (first | refine blk_drewN ?_ _ | refine blk_drew ?_ | refine blk_alloc ?_ _)); exact BK267.out) hb); have n2_ := Aside0.mk (blk_below (g := gb268) (o := .cells #[.int .i64 a1_0, .int .i64 a1_1, .slice A1_2 l1_2.length c1_2, .string a1_3] 69 (0, 0)) (by (with_reducible repeat (first | refine blk_drewN ?_ _ | refine blk_drew ?_ | refine blk_alloc ?_ _)); exact BK268.out) hb); have n3_ := Aside0.mk (blk_below (g := gb269) (o := .cells #[.int .i64 0, .int .i64 0, .slice none 0 0, .string (⟨#[]⟩ : ByteArray)] 69 (0, 0)) (by (with_reducible repeat (first | refine blk_drewN ?_ _ | refine blk_drew ?_ | refine blk_alloc ?_ _)); exact BK269.out) hb); have n4_ := Aside0.mk (below_step (by repeat (first | (with_reducible first | exact HB.out | apply below_alloc | apply pw_below_drewN | apply below_drew1 | refine below_set ?_ GE267.out | refine below_set ?_ GE268.out | refine below_set ?_ GE269.out) | exact HB.out)) hb); clear BK267; clear BK268; clear BK269; clear HB; have HO277 := n0_; have BK267 := n1_; have BK268 := n2_; have BK269 := n3_; have HB := n4_; clear n0_ n1_ n2_ n3_ n4_; (try clear hb); (try clear hb2); (try clear hk); (try clear hi); (try clear ho0); have hcz31_0 : w30.cell? ⟨gb269, 0, none⟩ = some (.int .i64 0) := (blk_cell BK269.out 0).trans rfl; have hcz31_1 : w30.cell? ⟨gb269, 1, none⟩ = some (.int .i64 0) := (blk_cell BK269.out 1).trans rfl; have hcz31_2 : w30.cell? ⟨gb269, 2, none⟩ = some (.slice none 0 0) := (blk_cell BK269.out 2).trans rfl; have hcz31_3 : w30.cell? ⟨gb269, 3, none⟩ = some (.string (⟨#[]⟩ : ByteArray)) := (blk_cell BK269.out 3).trans rfl; have hfz31_0 := blk_frozen BK269.out 0; have hfz31_1 := blk_frozen BK269.out 1; have hfz31_2 := blk_frozen BK269.out 2; have hfz31_3 := blk_frozen BK269.out 3; obtain ⟨Ao32, co32, eo32⟩ := Kd.R_slice HO277.out; subst eo32))
    refine bodyPost_ret (results_cell_row rfl _ _ gb269 69 #[.int .i64 t273, .int .i64 t274, .slice Ao32 t275.length co32, .string t278] (0, 0) _ rfl (by (with_reducible repeat (first | refine blk_drewN ?_ _ | refine blk_drew ?_ | refine blk_alloc ?_ _)); refine blk_put (cs := #[.int .i64 t273, .int .i64 t274, .slice Ao32 t275.length co32, .string (⟨#[]⟩ : ByteArray)]) ?_ 3 _ rfl; (with_reducible repeat (first | refine blk_drewN ?_ _ | refine blk_drew ?_ | refine blk_alloc ?_ _)); refine blk_put (cs := #[.int .i64 t273, .int .i64 t274, .slice none 0 0, .string (⟨#[]⟩ : ByteArray)]) ?_ 2 _ rfl; (with_reducible repeat (first | refine blk_drewN ?_ _ | refine blk_drew ?_ | refine blk_alloc ?_ _)); refine blk_put (cs := #[.int .i64 t273, .int .i64 0, .slice none 0 0, .string (⟨#[]⟩ : ByteArray)]) ?_ 1 _ rfl; (with_reducible repeat (first | refine blk_drewN ?_ _ | refine blk_drew ?_ | refine blk_alloc ?_ _)); refine blk_put (cs := #[.int .i64 0, .int .i64 0, .slice none 0 0, .string (⟨#[]⟩ : ByteArray)]) ?_ 0 _ rfl; (with_reducible repeat (first | refine blk_drewN ?_ _ | refine blk_drew ?_ | refine blk_alloc ?_ _)); exact BK269.out) Try.underlying69 rfl (by kernel_rfl)) rfl ?_
    exact ⟨_, by first | rfl | (simp [errW_none, errW_some] <;> rfl) | (simp [*, errW_none, errW_some] <;> rfl), by (with_reducible repeat (first | apply Kd.R_alloc | apply Kd.R_drewN | apply Kd.R_drew)); exact Kd.R_mono (Kd.R_far (p := ⟨gb269, 3, none⟩) (Kd.R_far (p := ⟨gb269, 2, none⟩) (Kd.R_far (p := ⟨gb269, 1, none⟩) (Kd.R_far (p := ⟨gb269, 0, none⟩) (Kd.R_types HO277.out BK269.out (by decide)) (fun _ hk => hk.2) (.int .i64 t273)) (fun _ hk => hk.2) (.int .i64 t274)) (fun _ hk => hk.2) (.slice Ao32 t275.length co32)) (fun _ hk => hk.2) (.string t278)) (fun _ hk => trivial), by repeat (first | (with_reducible first | exact HB.out | apply below_alloc | apply pw_below_drewN | apply below_drew1 | refine below_set ?_ GE267.out | refine below_set ?_ GE268.out | refine below_set ?_ GE269.out) | exact HB.out)⟩

end Go.Proofs.Ytjheiahfhknakaa.G
-- Laid by a program of this session for the seat Ytjheiahfhknakaa
namespace Go.Proofs.Ytjheiahfhknakaa.G
open Go.RowKit Go.Proofs.YtjheiahfhknakaaW.PrintWords Go.Proofs.YtjheiahfhknakaaW.PrintLast Go.Proofs.YtjheiahfhknakaaW.PrintMore
attribute [local go_sem] max2_int min2_int max_two min_two max_three min_three max_four min_four   -- for this text's walks alone
set_option linter.unusedVariables false
set_option linter.unusedSimpArgs false

/-! ### laws_toMail: function 42 -/
def laws_toMail.f (k : Nat) (a0_0 : Int) (a0_1 : Int) (l0_2 : List (S179)) (a0_3 : ByteArray) : Option (Int × Int × (List (S146)) × ByteArray) := (laws_toRegS.f k l0_2).bind fun t376 => (some (a0_0, a0_1, t376, a0_3))
theorem laws_toMail.mono : ∀ a0 a1 a2 a3 k, LeO (laws_toMail.f k a0 a1 a2 a3) (laws_toMail.f (k + 1) a0 a1 a2 a3) := by
  intro a0 a1 a2 a3 k
  unfold laws_toMail.f
  repeat' first
      | (with_reducible exact laws_toRegS.mono _ _)
      | (with_reducible exact LeO.refl _)
      | (with_reducible exact LeO.none _)
      | (with_reducible refine LeO.ite ?_ ?_)
      | (with_reducible refine LeO.bind ?_ (fun _ => ?_))
      | exact laws_toRegS.mono _ _
      | exact LeO.none _
      | refine LeO.ite ?_ ?_
      | refine LeO.bind ?_ (fun _ => ?_)
set_option maxHeartbeats 8000000 in
set_option maxRecDepth 100000 in
theorem laws_toMail.calls (k : Nat) (a0_0 : Int) (a0_1 : Int) (A0_2 : Option Addr) (c0_2 : Nat) (l0_2 : List (S179)) (a0_3 : ByteArray) (r1 : Int) (r2 : Int) (r3 : List (S146)) (r4 : ByteArray) (w : World) (hr0_2 : Kd.C k179 w A0_2 l0_2.length l0_2) (hc0_2 : l0_2.length ≤ c0_2) (h : laws_toMail.f k a0_0 a0_1 l0_2 a0_3 = some (r1, r2, r3, r4)) :
    Calls Try.prog 42 #[.agg #[.int .i64 a0_0, .int .i64 a0_1, .slice A0_2 l0_2.length c0_2, .string a0_3]] w fun e w' => ∃ v2_ : Value, e = .returned (.agg #[.int .i64 r1, .int .i64 r2, v2_, .string r4]) ∧ Kd.R k146 146 w' w.heap.size (fun _ => True) v2_ r3 ∧ Below w.heap.size w w' := by
  have hu65 := Try.underlying65
  have hu69 := Try.underlying69
  have HR0_2 := Aside0.mk hr0_2
  have HC0_2 := Aside0.mk hc0_2
  clear hr0_2 hc0_2
  have HB := Aside0.mk (Below.refl w.heap.size w)
  have H : ((laws_toRegS.f k l0_2).bind fun t376 => (some (a0_0, a0_1, t376, a0_3))) = some (r1, r2, r3, r4) := h
  clear h
  replace H := Option.bind_eq_some_iff.mp H
  obtain ⟨t376, A20, H⟩ := H
  replace H : (some (a0_0, a0_1, t376, a0_3)) = some (r1, r2, r3, r4) := H
  have A2 := Aside0.mk A20
  clear A20
  simp only [Option.some.injEq, Prod.mk.injEq] at H
  obtain ⟨rfl, rfl, rfl, rfl⟩ := H
  go_enter Try.func42, Try.ntmps42
  go_wp2_with (first | ((with_reducible refine gate_dst (N := 1) rfl ?_); refine box_event ?hg (N := 1) ?hd (cs := #[.int .i64 a0_0, .int .i64 a0_1, .slice A0_2 l0_2.length c0_2, .string a0_3]) (t := 65) ?hr ?_; (case hd => rfl); (case hg => rfl); (case hr => first | (go_simp; done) | (go_simp; rfl)); intro gb373 hg w3 hbox hb; have n0_ := Aside0.mk (below_step (by repeat (first | (with_reducible first | exact HB.out | apply below_alloc | apply pw_below_drewN | apply below_drew1) | exact HB.out)) hb); have n1_ := Aside0.mk (hbox); have n2_ := Aside0.mk ((by rw [hg]; exact (below_size (by repeat (first | (with_reducible first | exact HB.out | apply below_alloc | apply pw_below_drewN | apply below_drew1) | exact HB.out))) : w.heap.size ≤ gb373)); have n3_ := Aside0.mk ((by rw [hg]; exact (below_size (by repeat (first | (with_reducible first | exact HB.out | apply below_alloc | apply pw_below_drewN | apply below_drew1) | exact HB.out))) : w.heap.size ≤ gb373)); clear HB; have HB := n0_; have BK373 := n1_; have GW373 := n2_; have GE373 := n3_; clear n0_ n1_ n2_ n3_; clear hb hbox hg) | ((with_reducible refine gate_dst (N := 2) rfl ?_); refine box_event ?hg (N := 2) ?hd (cs := #[.int .i64 0, .int .i64 0, .slice none 0 0, .string (⟨#[]⟩ : ByteArray)]) (t := 69) ?hr ?_; (case hd => rfl); (case hg => rfl); (case hr => first | (go_simp; done) | (go_simp; rfl)); intro gb374 hg w4 hbox hb; have n0_ := Aside0.mk (blk_below (g := gb373) (o := .cells #[.int .i64 a0_0, .int .i64 a0_1, .slice A0_2 l0_2.length c0_2, .string a0_3] 65 (0, 0)) (by (with_reducible repeat (first | refine blk_drewN ?_ _ | refine blk_drew ?_ | refine blk_alloc ?_ _)); exact BK373.out) hb); have n1_ := Aside0.mk (below_step (by repeat (first | (with_reducible first | exact HB.out | apply below_alloc | apply pw_below_drewN | apply below_drew1 | refine below_set ?_ GE373.out) | exact HB.out)) hb); have n2_ := Aside0.mk (hbox); have n3_ := Aside0.mk ((by rw [hg]; exact (below_size (by repeat (first | (with_reducible first | exact HB.out | apply below_alloc | apply pw_below_drewN | apply below_drew1 | refine below_set ?_ GE373.out) | exact HB.out))) : w.heap.size ≤ gb374)); have n4_ := Aside0.mk ((by rw [hg]; exact (below_size (by repeat (first | (with_reducible first | exact HB.out | apply below_alloc | apply pw_below_drewN | apply below_drew1 | refine below_set ?_ GE373.out) | exact HB.out))) : w.heap.size ≤ gb374)); have n5_ := Aside0.mk ((by rw [hg]; exact Nat.ne_of_lt (blk_lt (g := gb373) (o := .cells #[.int .i64 a0_0, .int .i64 a0_1, .slice A0_2 l0_2.length c0_2, .string a0_3] 65 (0, 0)) (by (with_reducible repeat (first | refine blk_drewN ?_ _ | refine blk_drew ?_ | refine blk_alloc ?_ _)); exact BK373.out)) : gb373 ≠ gb374)); have n6_ := Aside0.mk ((by rw [hg]; exact Nat.ne_of_gt (blk_lt (g := gb373) (o := .cells #[.int .i64 a0_0, .int .i64 a0_1, .slice A0_2 l0_2.length c0_2, .string a0_3] 65 (0, 0)) (by (with_reducible repeat (first | refine blk_drewN ?_ _ | refine blk_drew ?_ | refine blk_alloc ?_ _)); exact BK373.out)) : gb374 ≠ gb373)); clear BK373; clear HB; have BK373 := n0_; have HB := n1_; have BK374 := n2_; have GW374 := n3_; have GE374 := n4_; have NB373_374 := n5_; have NB374_373 := n6_; clear n0_ n1_ n2_ n3_ n4_ n5_ n6_; clear hb hbox hg) | ((with_reducible refine gate_dst (N := 3) rfl ?_); refine box_event ?hg (N := 3) ?hd (cs := #[.int .i64 0, .int .i64 0, .slice none 0 0, .string (⟨#[]⟩ : ByteArray)]) (t := 69) ?hr ?_; (case hd => rfl); (case hg => rfl); (case hr => first | (go_simp; done) | (go_simp; rfl)); intro gb375 hg w5 hbox hb; have n0_ := Aside0.mk (blk_below (g := gb373) (o := .cells #[.int .i64 a0_0, .int .i64 a0_1, .slice A0_2 l0_2.length c0_2, .string a0_3] 65 (0, 0)) (by (with_reducible repeat (first | refine blk_drewN ?_ _ | refine blk_drew ?_ | refine blk_alloc ?_ _)); exact BK373.out) hb); have n1_ := Aside0.mk (blk_below (g := gb374) (o := .cells #[.int .i64 0, .int .i64 0, .slice none 0 0, .string (⟨#[]⟩ : ByteArray)] 69 (0, 0)) (by (with_reducible repeat (first | refine blk_drewN ?_ _ | refine blk_drew ?_ | refine blk_alloc ?_ _)); exact BK374.out) hb); have n2_ := Aside0.mk (below_step (by repeat (first | (with_reducible first | exact HB.out | apply below_alloc | apply pw_below_drewN | apply below_drew1 | refine below_set ?_ GE373.out | refine below_set ?_ GE374.out) | exact HB.out)) hb); have n3_ := Aside0.mk (hbox); have n4_ := Aside0.mk ((by rw [hg]; exact (below_size (by repeat (first | (with_reducible first | exact HB.out | apply below_alloc | apply pw_below_drewN | apply below_drew1 | refine below_set ?_ GE373.out | refine below_set ?_ GE374.out) | exact HB.out))) : w.heap.size ≤ gb375)); have n5_ := Aside0.mk ((by rw [hg]; exact (below_size (by repeat (first | (with_reducible first | exact HB.out | apply below_alloc | apply pw_below_drewN | apply below_drew1 | refine below_set ?_ GE373.out | refine below_set ?_ GE374.out) | exact HB.out))) : w.heap.size ≤ gb375)); have n6_ := Aside0.mk ((by rw [hg]; exact Nat.ne_of_lt (blk_lt (g := gb373) (o := .cells #[.int .i64 a0_0, .int .i64 a0_1, .slice A0_2 l0_2.length c0_2, .string a0_3] 65 (0, 0)) (by (with_reducible repeat (first | refine blk_drewN ?_ _ | refine blk_drew ?_ | refine blk_alloc ?_ _)); exact BK373.out)) : gb373 ≠ gb375)); have n7_ := Aside0.mk ((by rw [hg]; exact Nat.ne_of_gt (blk_lt (g := gb373) (o := .cells #[.int .i64 a0_0, .int .i64 a0_1, .slice A0_2 l0_2.length c0_2, .string a0_3] 65 (0, 0)) (by (with_reducible repeat (first | refine blk_drewN ?_ _ | refine blk_drew ?_ | refine blk_alloc ?_ _)); exact BK373.out)) : gb375 ≠ gb373)); have n8_ := Aside0.mk ((by rw [hg]; exact Nat.ne_of_lt (blk_lt (g := gb374) (o := .cells #[.int .i64 0, .int .i64 0, .slice none 0 0, .string (⟨#[]⟩ : ByteArray)] 69 (0, 0)) (by (with_reducible repeat (first | refine blk_drewN ?_ _ | refine blk_drew ?_ | refine blk_alloc ?_ _)); exact BK374.out)) : gb374 ≠ gb375)); have n9_ := Aside0.mk ((by rw [hg]; exact Nat.ne_of_gt (blk_lt (g := gb374) (o := .cells #[.int .i64 0, .int .i64 0, .slice none 0 0, .string (⟨#[]⟩ : ByteArray)] 69 (0, 0)) (by (with_reducible repeat (first | refine blk_drewN ?_ _ | refine blk_drew ?_ | refine blk_alloc ?_ _)); exact BK374.out)) : gb375 ≠ gb374)); clear BK373; clear BK374; clear HB; have BK373 := n0_; have BK374 := n1_; have HB := n2_; have BK375 := n3_; have GW375 := n4_; have GE375 := n5_; have NB373_375 := n6_; have NB375_373 := n7_; have NB374_375 := n8_; have NB375_374 := n9_; clear n0_ n1_ n2_ n3_ n4_ n5_ n6_ n7_ n8_ n9_; clear hb hbox hg; have hnb6 := NB373_374.out; have hnc6 := NB374_373.out; have hnb7 := NB373_375.out; have hnc7 := NB375_373.out; have hcz8_0 : w5.cell? ⟨gb373, 0, none⟩ = some (.int .i64 a0_0) := (blk_cell BK373.out 0).trans rfl; have hcz8_1 : w5.cell? ⟨gb373, 1, none⟩ = some (.int .i64 a0_1) := (blk_cell BK373.out 1).trans rfl; have hcz8_2 : w5.cell? ⟨gb373, 2, none⟩ = some (.slice A0_2 l0_2.length c0_2) := (blk_cell BK373.out 2).trans rfl; have hcz8_3 : w5.cell? ⟨gb373, 3, none⟩ = some (.string a0_3) := (blk_cell BK373.out 3).trans rfl; have hfz8_0 := blk_frozen BK373.out 0; have hfz8_1 := blk_frozen BK373.out 1; have hfz8_2 := blk_frozen BK373.out 2; have hfz8_3 := blk_frozen BK373.out 3; have hnb9 := NB375_374.out; have hnc9 := NB374_375.out; have hcz10_0 : w5.cell? ⟨gb375, 0, none⟩ = some (.int .i64 0) := (blk_cell BK375.out 0).trans rfl; have hcz10_1 : w5.cell? ⟨gb375, 1, none⟩ = some (.int .i64 0) := (blk_cell BK375.out 1).trans rfl; have hcz10_2 : w5.cell? ⟨gb375, 2, none⟩ = some (.slice none 0 0) := (blk_cell BK375.out 2).trans rfl; have hcz10_3 : w5.cell? ⟨gb375, 3, none⟩ = some (.string (⟨#[]⟩ : ByteArray)) := (blk_cell BK375.out 3).trans rfl; have hfz10_0 := blk_frozen BK375.out 0; have hfz10_1 := blk_frozen BK375.out 1; have hfz10_2 := blk_frozen BK375.out 2; have hfz10_3 := blk_frozen BK375.out 3) | ((with_reducible refine gate_callee (f := 131) rfl ?_); refine goesL_ (some 12) rfl rfl Try.func131 (by kernel_rfl) rfl #[.slice A0_2 l0_2.length c0_2] rfl (by (try simp only [List.map_toArray, List.map_cons, List.map_nil]); first | done | rfl | (simp only [List.length_drop, List.length_take]; rfl)) ?_; (with_reducible refine (laws_toRegS.calls k _ _ l0_2 t376 _ ?side1 ?side2 A2.out).mono ?_); (case side1 => exact Kd.C_below HR0_2.out (by repeat (first | (with_reducible first | exact HB.out | apply below_alloc | apply pw_below_drewN | apply below_drew1 | refine below_set ?_ GE373.out | refine below_set ?_ GE374.out | refine below_set ?_ GE375.out) | exact HB.out))); (case side2 => exact HC0_2.out); rintro e w11 ⟨v377, rfl, ho0, hb⟩; refine ⟨_, rfl, ?_⟩; have n0_ := Aside0.mk (Kd.R_lower ho0 (below_size (by repeat (first | (with_reducible first | exact HB.out | apply below_alloc | apply pw_below_drewN | apply below_drew1 | refine below_set ?_ GE373.out | refine below_set ?_ GE374.out | refine below_set ?_ GE375.out) | exact HB.out)))); have n1_ := Aside0.mk (blk_below (g := gb373) (o := .cells #[.int .i64 a0_0, .int .i64 a0_1, .slice A0_2 l0_2.length c0_2, .string a0_3] 65 (0, 0)) (by (with_reducible repeat (first | refine blk_drewN ?_ _ | refine blk_drew ?_ | refine blk_alloc ?_ _)); refine blk_far ?_ NB373_375.out _; (with_reducible repeat (first | refine blk_drewN ?_ _ | refine blk_drew ?_ | refine blk_alloc ?_ _)); refine blk_far ?_ NB373_375.out _; (with_reducible repeat (first | refine blk_drewN ?_ _ | refine blk_drew ?_ | refine blk_alloc ?_ _)); exact BK373.out) hb); have n2_ := Aside0.mk (blk_below (g := gb374) (o := .cells #[.int .i64 0, .int .i64 0, .slice none 0 0, .string (⟨#[]⟩ : ByteArray)] 69 (0, 0)) (by (with_reducible repeat (first | refine blk_drewN ?_ _ | refine blk_drew ?_ | refine blk_alloc ?_ _)); refine blk_far ?_ NB374_375.out _; (with_reducible repeat (first | refine blk_drewN ?_ _ | refine blk_drew ?_ | refine blk_alloc ?_ _)); refine blk_far ?_ NB374_375.out _; (with_reducible repeat (first | refine blk_drewN ?_ _ | refine blk_drew ?_ | refine blk_alloc ?_ _)); exact BK374.out) hb); have n3_ := Aside0.mk (blk_below (g := gb375) (o := .cells #[.int .i64 a0_0, .int .i64 a0_1, .slice none 0 0, .string (⟨#[]⟩ : ByteArray)] 69 (0, 0)) (by (with_reducible repeat (first | refine blk_drewN ?_ _ | refine blk_drew ?_ | refine blk_alloc ?_ _)); refine blk_put (cs := #[.int .i64 a0_0, .int .i64 0, .slice none 0 0, .string (⟨#[]⟩ : ByteArray)]) ?_ 1 _ rfl; (with_reducible repeat (first | refine blk_drewN ?_ _ | refine blk_drew ?_ | refine blk_alloc ?_ _)); refine blk_put (cs := #[.int .i64 0, .int .i64 0, .slice none 0 0, .string (⟨#[]⟩ : ByteArray)]) ?_ 0 _ rfl; (with_reducible repeat (first | refine blk_drewN ?_ _ | refine blk_drew ?_ | refine blk_alloc ?_ _)); exact BK375.out) hb); have n4_ := Aside0.mk (below_step (by repeat (first | (with_reducible first | exact HB.out | apply below_alloc | apply pw_below_drewN | apply below_drew1 | refine below_set ?_ GE373.out | refine below_set ?_ GE374.out | refine below_set ?_ GE375.out) | exact HB.out)) hb); clear BK373; clear BK374; clear BK375; clear HB; have HO378 := n0_; have BK373 := n1_; have BK374 := n2_; have BK375 := n3_; have HB := n4_; clear n0_ n1_ n2_ n3_ n4_; (try clear hb); (try clear hb2); (try clear hk); (try clear hi); (try clear ho0); obtain ⟨Ao12, co12, eo12⟩ := Kd.R_slice HO378.out; subst eo12; have hcz13_0 : w11.cell? ⟨gb375, 0, none⟩ = some (.int .i64 a0_0) := (blk_cell BK375.out 0).trans rfl; have hcz13_1 : w11.cell? ⟨gb375, 1, none⟩ = some (.int .i64 a0_1) := (blk_cell BK375.out 1).trans rfl; have hcz13_2 : w11.cell? ⟨gb375, 2, none⟩ = some (.slice none 0 0) := (blk_cell BK375.out 2).trans rfl; have hcz13_3 : w11.cell? ⟨gb375, 3, none⟩ = some (.string (⟨#[]⟩ : ByteArray)) := (blk_cell BK375.out 3).trans rfl; have hfz13_0 := blk_frozen BK375.out 0; have hfz13_1 := blk_frozen BK375.out 1; have hfz13_2 := blk_frozen BK375.out 2; have hfz13_3 := blk_frozen BK375.out 3; have hcz14_0 : w11.cell? ⟨gb373, 0, none⟩ = some (.int .i64 a0_0) := (blk_cell BK373.out 0).trans rfl; have hcz14_1 : w11.cell? ⟨gb373, 1, none⟩ = some (.int .i64 a0_1) := (blk_cell BK373.out 1).trans rfl; have hcz14_2 : w11.cell? ⟨gb373, 2, none⟩ = some (.slice A0_2 l0_2.length c0_2) := (blk_cell BK373.out 2).trans rfl; have hcz14_3 : w11.cell? ⟨gb373, 3, none⟩ = some (.string a0_3) := (blk_cell BK373.out 3).trans rfl; have hfz14_0 := blk_frozen BK373.out 0; have hfz14_1 := blk_frozen BK373.out 1; have hfz14_2 := blk_frozen BK373.out 2; have hfz14_3 := blk_frozen BK373.out 3; have hcz15_0 : w11.cell? ⟨gb374, 0, none⟩ = some (.int .i64 0) := (blk_cell BK374.out 0).trans rfl; have hcz15_1 : w11.cell? ⟨gb374, 1, none⟩ = some (.int .i64 0) := (blk_cell BK374.out 1).trans rfl; have hcz15_2 : w11.cell? ⟨gb374, 2, none⟩ = some (.slice none 0 0) := (blk_cell BK374.out 2).trans rfl; have hcz15_3 : w11.cell? ⟨gb374, 3, none⟩ = some (.string (⟨#[]⟩ : ByteArray)) := (blk_cell BK374.out 3).trans rfl; have hfz15_0 := blk_frozen BK374.out 0; have hfz15_1 := blk_frozen BK374.out 1; have hfz15_2 := blk_frozen BK374.out 2; have hfz15_3 := blk_frozen BK374.out 3))
  refine bodyPost_ret (results_cell_row rfl _ _ gb374 69 #[.int .i64 a0_0, .int .i64 a0_1, .slice Ao12 t376.length co12, .string a0_3] (0, 0) _ rfl (by (with_reducible repeat (first | refine blk_drewN ?_ _ | refine blk_drew ?_ | refine blk_alloc ?_ _)); refine blk_put (cs := #[.int .i64 a0_0, .int .i64 a0_1, .slice Ao12 t376.length co12, .string (⟨#[]⟩ : ByteArray)]) ?_ 3 _ rfl; (with_reducible repeat (first | refine blk_drewN ?_ _ | refine blk_drew ?_ | refine blk_alloc ?_ _)); refine blk_put (cs := #[.int .i64 a0_0, .int .i64 a0_1, .slice none 0 0, .string (⟨#[]⟩ : ByteArray)]) ?_ 2 _ rfl; (with_reducible repeat (first | refine blk_drewN ?_ _ | refine blk_drew ?_ | refine blk_alloc ?_ _)); refine blk_put (cs := #[.int .i64 a0_0, .int .i64 0, .slice none 0 0, .string (⟨#[]⟩ : ByteArray)]) ?_ 1 _ rfl; (with_reducible repeat (first | refine blk_drewN ?_ _ | refine blk_drew ?_ | refine blk_alloc ?_ _)); refine blk_put (cs := #[.int .i64 0, .int .i64 0, .slice none 0 0, .string (⟨#[]⟩ : ByteArray)]) ?_ 0 _ rfl; (with_reducible repeat (first | refine blk_drewN ?_ _ | refine blk_drew ?_ | refine blk_alloc ?_ _)); refine blk_far ?_ NB374_375.out _; (with_reducible repeat (first | refine blk_drewN ?_ _ | refine blk_drew ?_ | refine blk_alloc ?_ _)); refine blk_far ?_ NB374_375.out _; (with_reducible repeat (first | refine blk_drewN ?_ _ | refine blk_drew ?_ | refine blk_alloc ?_ _)); exact BK374.out) Try.underlying69 rfl (by kernel_rfl)) rfl ?_
  exact ⟨_, by first | rfl | (simp [errW_none, errW_some] <;> rfl) | (simp [*, errW_none, errW_some] <;> rfl), by (with_reducible repeat (first | apply Kd.R_alloc | apply Kd.R_drewN | apply Kd.R_drew)); exact Kd.R_mono (Kd.R_far (p := ⟨gb374, 3, none⟩) (Kd.R_far (p := ⟨gb374, 2, none⟩) (Kd.R_far (p := ⟨gb374, 1, none⟩) (Kd.R_far (p := ⟨gb374, 0, none⟩) (Kd.R_far (p := ⟨gb375, 3, none⟩) (Kd.R_far (p := ⟨gb375, 2, none⟩) (Kd.R_types (Kd.R_types HO378.out BK375.out (by decide)) BK374.out (by decide)) (fun _ hk => hk.1.2) (.slice Ao12 t376.length co12)) (fun _ hk => hk.1.2) (.string a0_3)) (fun _ hk => hk.2) (.int .i64 a0_0)) (fun _ hk => hk.2) (.int .i64 a0_1)) (fun _ hk => hk.2) (.slice Ao12 t376.length co12)) (fun _ hk => hk.2) (.string a0_3)) (fun _ hk => trivial), by repeat (first | (with_reducible first | exact HB.out | apply below_alloc | apply pw_below_drewN | apply below_drew1 | refine below_set ?_ GE373.out | refine below_set ?_ GE374.out | refine below_set ?_ GE375.out) | exact HB.out)⟩

end Go.Proofs.Ytjheiahfhknakaa.G
-- Laid by a program of this session for the seat Ytjheiahfhknakaa
namespace Go.Proofs.Ytjheiahfhknakaa.G
open Go.RowKit Go.Proofs.YtjheiahfhknakaaW.PrintWords Go.Proofs.YtjheiahfhknakaaW.PrintLast Go.Proofs.YtjheiahfhknakaaW.PrintMore
attribute [local go_sem] max2_int min2_int max_two min_two max_three min_three max_four min_four   -- for this text's walks alone
set_option linter.unusedVariables false
set_option linter.unusedSimpArgs false

/-! ### laws_eqMail: function 44 -/
def laws_eqMail.f (k : Nat) (a0_0 : Int) (a0_1 : Int) (l0_2 : List (S146)) (a0_3 : ByteArray) (a1_0 : Int) (a1_1 : Int) (l1_2 : List (S146)) (a1_3 : ByteArray) : Option (Bool) := if a0_0 = a1_0 then (if a0_1 = a1_1 then ((laws_eqRegS.f k l0_2 l1_2).bind fun t589 => (if t589 = true then (if a0_3.toList = a1_3.toList then (some true) else (some false)) else (some false))) else (some false)) else (some false)
theorem laws_eqMail.mono : ∀ a0 a1 a2 a3 a4 a5 a6 a7 k, LeO (laws_eqMail.f k a0 a1 a2 a3 a4 a5 a6 a7) (laws_eqMail.f (k + 1) a0 a1 a2 a3 a4 a5 a6 a7) := by
  intro a0 a1 a2 a3 a4 a5 a6 a7 k
  unfold laws_eqMail.f
  repeat' first
      | (with_reducible exact laws_eqRegS.mono _ _ _)
      | (with_reducible exact LeO.refl _)
      | (with_reducible exact LeO.none _)
      | (with_reducible refine LeO.ite ?_ ?_)
      | (with_reducible refine LeO.bind ?_ (fun _ => ?_))
      | exact laws_eqRegS.mono _ _ _
      | exact LeO.none _
      | refine LeO.ite ?_ ?_
      | refine LeO.bind ?_ (fun _ => ?_)
set_option maxHeartbeats 8000000 in
set_option maxRecDepth 100000 in
theorem laws_eqMail.calls (k : Nat) (a0_0 : Int) (a0_1 : Int) (A0_2 : Option Addr) (c0_2 : Nat) (l0_2 : List (S146)) (a0_3 : ByteArray) (a1_0 : Int) (a1_1 : Int) (A1_2 : Option Addr) (c1_2 : Nat) (l1_2 : List (S146)) (a1_3 : ByteArray) (r : Bool) (w : World) (hr0_2 : Kd.C k146 w A0_2 l0_2.length l0_2) (hc0_2 : l0_2.length ≤ c0_2) (hr1_2 : Kd.C k146 w A1_2 l1_2.length l1_2) (hc1_2 : l1_2.length ≤ c1_2) (h : laws_eqMail.f k a0_0 a0_1 l0_2 a0_3 a1_0 a1_1 l1_2 a1_3 = some r) :
    Calls Try.prog 44 #[.agg #[.int .i64 a0_0, .int .i64 a0_1, .slice A0_2 l0_2.length c0_2, .string a0_3], .agg #[.int .i64 a1_0, .int .i64 a1_1, .slice A1_2 l1_2.length c1_2, .string a1_3]] w fun e w' => e = .returned (.bool r) ∧ Below w.heap.size w w' := by
  have hu69 := Try.underlying69
  have HR0_2 := Aside0.mk hr0_2
  have HC0_2 := Aside0.mk hc0_2
  clear hr0_2 hc0_2
  have HR1_2 := Aside0.mk hr1_2
  have HC1_2 := Aside0.mk hc1_2
  clear hr1_2 hc1_2
  have HB := Aside0.mk (Below.refl w.heap.size w)
  have H : (if a0_0 = a1_0 then (if a0_1 = a1_1 then ((laws_eqRegS.f k l0_2 l1_2).bind fun t589 => (if t589 = true then (if a0_3.toList = a1_3.toList then (some true) else (some false)) else (some false))) else (some false)) else (some false)) = some r := h
  clear h
  by_cases c3 : a0_0 = a1_0
  · rw [if_pos c3] at H
    have c3b0 : (a0_0 == a1_0) = true := beq_iff_eq.mpr c3
    have c3b1 : (a0_0 != a1_0) = false := bne_eq_false_iff_eq.mpr c3
    clear c3
    by_cases c4 : a0_1 = a1_1
    · rw [if_pos c4] at H
      have c4b0 : (a0_1 == a1_1) = true := beq_iff_eq.mpr c4
      have c4b1 : (a0_1 != a1_1) = false := bne_eq_false_iff_eq.mpr c4
      clear c4
      replace H := Option.bind_eq_some_iff.mp H
      obtain ⟨t589, A50, H⟩ := H
      replace H : (if t589 = true then (if a0_3.toList = a1_3.toList then (some true) else (some false)) else (some false)) = some r := H
      have A5 := Aside0.mk A50
      clear A50
      by_cases c6 : t589 = true
      · subst c6
        have H1 : (if a0_3.toList = a1_3.toList then (some true) else (some false)) = some r := by rw [if_pos rfl] at H; exact H
        clear H
        have H := H1
        clear H1
        by_cases c7 : a0_3.toList = a1_3.toList
        · rw [if_pos c7] at H
          have c7b0 : (a0_3.toList == a1_3.toList) = true := beq_iff_eq.mpr c7
          have c7b1 : (a0_3.toList != a1_3.toList) = false := bne_eq_false_iff_eq.mpr c7
          clear c7
          obtain rfl := Option.some.inj H
          go_enter Try.func44, Try.ntmps44
          go_wp2_with (first | ((with_reducible refine gate_dst (N := 2) rfl ?_); refine box_event ?hg (N := 2) ?hd (cs := #[.int .i64 a0_0, .int .i64 a0_1, .slice A0_2 l0_2.length c0_2, .string a0_3]) (t := 69) ?hr ?_; (case hd => rfl); (case hg => rfl); (case hr => first | (go_simp; done) | (go_simp; rfl)); intro gb587 hg w8 hbox hb; have n0_ := Aside0.mk (below_step (by repeat (first | (with_reducible first | exact HB.out | apply below_alloc | apply pw_below_drewN | apply below_drew1) | exact HB.out)) hb); have n1_ := Aside0.mk (hbox); have n2_ := Aside0.mk ((by rw [hg]; exact (below_size (by repeat (first | (with_reducible first | exact HB.out | apply below_alloc | apply pw_below_drewN | apply below_drew1) | exact HB.out))) : w.heap.size ≤ gb587)); have n3_ := Aside0.mk ((by rw [hg]; exact (below_size (by repeat (first | (with_reducible first | exact HB.out | apply below_alloc | apply pw_below_drewN | apply below_drew1) | exact HB.out))) : w.heap.size ≤ gb587)); clear HB; have HB := n0_; have BK587 := n1_; have GW587 := n2_; have GE587 := n3_; clear n0_ n1_ n2_ n3_; clear hb hbox hg) | ((with_reducible refine gate_dst (N := 3) rfl ?_); refine box_event ?hg (N := 3) ?hd (cs := #[.int .i64 a1_0, .int .i64 a1_1, .slice A1_2 l1_2.length c1_2, .string a1_3]) (t := 69) ?hr ?_; (case hd => rfl); (case hg => rfl); (case hr => first | (go_simp; done) | (go_simp; rfl)); intro gb588 hg w9 hbox hb; have n0_ := Aside0.mk (blk_below (g := gb587) (o := .cells #[.int .i64 a0_0, .int .i64 a0_1, .slice A0_2 l0_2.length c0_2, .string a0_3] 69 (0, 0)) (by (with_reducible repeat (first | refine blk_drewN ?_ _ | refine blk_drew ?_ | refine blk_alloc ?_ _)); exact BK587.out) hb); have n1_ := Aside0.mk (below_step (by repeat (first | (with_reducible first | exact HB.out | apply below_alloc | apply pw_below_drewN | apply below_drew1 | refine below_set ?_ GE587.out) | exact HB.out)) hb); have n2_ := Aside0.mk (hbox); have n3_ := Aside0.mk ((by rw [hg]; exact (below_size (by repeat (first | (with_reducible first | exact HB.out | apply below_alloc | apply pw_below_drewN | apply below_drew1 | refine below_set ?_ GE587.out) | exact HB.out))) : w.heap.size ≤ gb588)); have n4_ := Aside0.mk ((by rw [hg]; exact (below_size (by repeat (first | (with_reducible first | exact HB.out | apply below_alloc | apply pw_below_drewN | apply below_drew1 | refine below_set ?_ GE587.out) | exact HB.out))) : w.heap.size ≤ gb588)); have n5_ := Aside0.mk ((by rw [hg]; exact Nat.ne_of_lt (blk_lt (g := gb587) (o := .cells #[.int .i64 a0_0, .int .i64 a0_1, .slice A0_2 l0_2.length c0_2, .string a0_3] 69 (0, 0)) (by (with_reducible repeat (first | refine blk_drewN ?_ _ | refine blk_drew ?_ | refine blk_alloc ?_ _)); exact BK587.out)) : gb587 ≠ gb588)); have n6_ := Aside0.mk ((by rw [hg]; exact Nat.ne_of_gt (blk_lt (g := gb587) (o := .cells #[.int .i64 a0_0, .int .i64 a0_1, .slice A0_2 l0_2.length c0_2, .string a0_3] 69 (0, 0)) (by (with_reducible repeat (first | refine blk_drewN ?_ _ | refine blk_drew ?_ | refine blk_alloc ?_ _)); exact BK587.out)) : gb588 ≠ gb587)); clear BK587; clear HB; have BK587 := n0_; have HB := n1_; have BK588 := n2_; have GW588 := n3_; have GE588 := n4_; have NB587_588 := n5_; have NB588_587 := n6_; clear n0_ n1_ n2_ n3_ n4_ n5_ n6_; clear hb hbox hg; have hnb10 := NB587_588.out; have hnc10 := NB588_587.out; have hcz11_0 : w9.cell? ⟨gb587, 0, none⟩ = some (.int .i64 a0_0) := (blk_cell BK587.out 0).trans rfl; have hcz11_1 : w9.cell? ⟨gb587, 1, none⟩ = some (.int .i64 a0_1) := (blk_cell BK587.out 1).trans rfl; have hcz11_2 : w9.cell? ⟨gb587, 2, none⟩ = some (.slice A0_2 l0_2.length c0_2) := (blk_cell BK587.out 2).trans rfl; have hcz11_3 : w9.cell? ⟨gb587, 3, none⟩ = some (.string a0_3) := (blk_cell BK587.out 3).trans rfl; have hfz11_0 := blk_frozen BK587.out 0; have hfz11_1 := blk_frozen BK587.out 1; have hfz11_2 := blk_frozen BK587.out 2; have hfz11_3 := blk_frozen BK587.out 3; have hcz12_0 : w9.cell? ⟨gb588, 0, none⟩ = some (.int .i64 a1_0) := (blk_cell BK588.out 0).trans rfl; have hcz12_1 : w9.cell? ⟨gb588, 1, none⟩ = some (.int .i64 a1_1) := (blk_cell BK588.out 1).trans rfl; have hcz12_2 : w9.cell? ⟨gb588, 2, none⟩ = some (.slice A1_2 l1_2.length c1_2) := (blk_cell BK588.out 2).trans rfl; have hcz12_3 : w9.cell? ⟨gb588, 3, none⟩ = some (.string a1_3) := (blk_cell BK588.out 3).trans rfl; have hfz12_0 := blk_frozen BK588.out 0; have hfz12_1 := blk_frozen BK588.out 1; have hfz12_2 := blk_frozen BK588.out 2; have hfz12_3 := blk_frozen BK588.out 3) | ((with_reducible refine gate_callee (f := 133) rfl ?_); refine goesL_ (some 19) rfl rfl Try.func133 (by kernel_rfl) rfl #[.slice A0_2 l0_2.length c0_2, .slice A1_2 l1_2.length c1_2] rfl (by (try simp only [List.map_toArray, List.map_cons, List.map_nil]); first | done | rfl | (simp only [List.length_drop, List.length_take]; rfl)) ?_; (with_reducible refine (laws_eqRegS.calls k _ _ l0_2 _ _ l1_2 true _ ?side1 ?side2 ?side3 ?side4 A5.out).mono ?_); (case side1 => repeat (first | exact (Kd.C_below HR0_2.out HB.out) | (with_reducible refine Kd.C_alloc ?_ _) | (with_reducible refine Kd.C_drewN ?_ _) | (with_reducible refine Kd.C_drew ?_))); (case side2 => exact HC0_2.out); (case side3 => repeat (first | exact (Kd.C_below HR1_2.out HB.out) | (with_reducible refine Kd.C_alloc ?_ _) | (with_reducible refine Kd.C_drewN ?_ _) | (with_reducible refine Kd.C_drew ?_))); (case side4 => exact HC1_2.out); rintro e w13 ⟨rfl, hb⟩; refine ⟨_, rfl, ?_⟩; have n0_ := Aside0.mk (blk_below (g := gb587) (o := .cells #[.int .i64 a0_0, .int .i64 a0_1, .slice A0_2 l0_2.length c0_2, .string a0_3] 69 (0, 0)) (by (with_reducible repeat (first | refine blk_drewN ?_ _ | refine blk_drew ?_ | refine blk_alloc ?_ _)); exact BK587.out) hb); have n1_ := Aside0.mk (blk_below (g := gb588) (o := .cells #[.int .i64 a1_0, .int .i64 a1_1, .slice A1_2 l1_2.length c1_2, .string a1_3] 69 (0, 0)) (by (with_reducible repeat (first | refine blk_drewN ?_ _ | refine blk_drew ?_ | refine blk_alloc ?_ _)); exact BK588.out) hb); have n2_ := Aside0.mk (below_step (by repeat (first | (with_reducible first | exact HB.out | apply below_alloc | apply pw_below_drewN | apply below_drew1 | refine below_set ?_ GE587.out | refine below_set ?_ GE588.out) | exact HB.out)) hb); clear BK587; clear BK588; clear HB; have BK587 := n0_; have BK588 := n1_; have HB := n2_; clear n0_ n1_ n2_; (try clear hb); (try clear hb2); (try clear hk); (try clear hi); have hcz14_0 : w13.cell? ⟨gb587, 0, none⟩ = some (.int .i64 a0_0) := (blk_cell BK587.out 0).trans rfl; have hcz14_1 : w13.cell? ⟨gb587, 1, none⟩ = some (.int .i64 a0_1) := (blk_cell BK587.out 1).trans rfl; have hcz14_2 : w13.cell? ⟨gb587, 2, none⟩ = some (.slice A0_2 l0_2.length c0_2) := (blk_cell BK587.out 2).trans rfl; have hcz14_3 : w13.cell? ⟨gb587, 3, none⟩ = some (.string a0_3) := (blk_cell BK587.out 3).trans rfl; have hfz14_0 := blk_frozen BK587.out 0; have hfz14_1 := blk_frozen BK587.out 1; have hfz14_2 := blk_frozen BK587.out 2; have hfz14_3 := blk_frozen BK587.out 3; have hcz15_0 : w13.cell? ⟨gb588, 0, none⟩ = some (.int .i64 a1_0) := (blk_cell BK588.out 0).trans rfl; have hcz15_1 : w13.cell? ⟨gb588, 1, none⟩ = some (.int .i64 a1_1) := (blk_cell BK588.out 1).trans rfl; have hcz15_2 : w13.cell? ⟨gb588, 2, none⟩ = some (.slice A1_2 l1_2.length c1_2) := (blk_cell BK588.out 2).trans rfl; have hcz15_3 : w13.cell? ⟨gb588, 3, none⟩ = some (.string a1_3) := (blk_cell BK588.out 3).trans rfl; have hfz15_0 := blk_frozen BK588.out 0; have hfz15_1 := blk_frozen BK588.out 1; have hfz15_2 := blk_frozen BK588.out 2; have hfz15_3 := blk_frozen BK588.out 3))
          go_ret
          exact ⟨by first | rfl | (simp [errW_none, errW_some] <;> rfl) | (simp [*, errW_none, errW_some] <;> rfl), by repeat (first | (with_reducible first | exact HB.out | apply below_alloc | apply pw_below_drewN | apply below_drew1 | refine below_set ?_ GE587.out | refine below_set ?_ GE588.out) | exact HB.out)⟩
        · rw [if_neg c7] at H
          have c7b0 : (a0_3.toList == a1_3.toList) = false := beq_eq_false_iff_ne.mpr c7
          have c7b1 : (a0_3.toList != a1_3.toList) = true := bne_iff_ne.mpr c7
          obtain rfl := Option.some.inj H
          go_enter Try.func44, Try.ntmps44
          go_wp2_with (first | ((with_reducible refine gate_dst (N := 2) rfl ?_); refine box_event ?hg (N := 2) ?hd (cs := #[.int .i64 a0_0, .int .i64 a0_1, .slice A0_2 l0_2.length c0_2, .string a0_3]) (t := 69) ?hr ?_; (case hd => rfl); (case hg => rfl); (case hr => first | (go_simp; done) | (go_simp; rfl)); intro gb587 hg w16 hbox hb; have n0_ := Aside0.mk (below_step (by repeat (first | (with_reducible first | exact HB.out | apply below_alloc | apply pw_below_drewN | apply below_drew1) | exact HB.out)) hb); have n1_ := Aside0.mk (hbox); have n2_ := Aside0.mk ((by rw [hg]; exact (below_size (by repeat (first | (with_reducible first | exact HB.out | apply below_alloc | apply pw_below_drewN | apply below_drew1) | exact HB.out))) : w.heap.size ≤ gb587)); have n3_ := Aside0.mk ((by rw [hg]; exact (below_size (by repeat (first | (with_reducible first | exact HB.out | apply below_alloc | apply pw_below_drewN | apply below_drew1) | exact HB.out))) : w.heap.size ≤ gb587)); clear HB; have HB := n0_; have BK587 := n1_; have GW587 := n2_; have GE587 := n3_; clear n0_ n1_ n2_ n3_; clear hb hbox hg) | ((with_reducible refine gate_dst (N := 3) rfl ?_); refine box_event ?hg (N := 3) ?hd (cs := #[.int .i64 a1_0, .int .i64 a1_1, .slice A1_2 l1_2.length c1_2, .string a1_3]) (t := 69) ?hr ?_; (case hd => rfl); (case hg => rfl); (case hr => first | (go_simp; done) | (go_simp; rfl)); intro gb588 hg w17 hbox hb; have n0_ := Aside0.mk (blk_below (g := gb587) (o := .cells #[.int .i64 a0_0, .int .i64 a0_1, .slice A0_2 l0_2.length c0_2, .string a0_3] 69 (0, 0)) (by (with_reducible repeat (first | refine blk_drewN ?_ _ | refine blk_drew ?_ | refine blk_alloc ?_ _)); exact BK587.out) hb); have n1_ := Aside0.mk (below_step (by repeat (first | (with_reducible first | exact HB.out | apply below_alloc | apply pw_below_drewN | apply below_drew1 | refine below_set ?_ GE587.out) | exact HB.out)) hb); have n2_ := Aside0.mk (hbox); have n3_ := Aside0.mk ((by rw [hg]; exact (below_size (by repeat (first | (with_reducible first | exact HB.out | apply below_alloc | apply pw_below_drewN | apply below_drew1 | refine below_set ?_ GE587.out) | exact HB.out))) : w.heap.size ≤ gb588)); have n4_ := Aside0.mk ((by rw [hg]; exact (below_size (by repeat (first | (with_reducible first | exact HB.out | apply below_alloc | apply pw_below_drewN | apply below_drew1 | refine below_set ?_ GE587.out) | exact HB.out))) : w.heap.size ≤ gb588)); have n5_ := Aside0.mk ((by rw [hg]; exact Nat.ne_of_lt (blk_lt (g := gb587) (o := .cells #[.int .i64 a0_0, .int .i64 a0_1, .slice A0_2 l0_2.length c0_2, .string a0_3] 69 (0, 0)) (by (with_reducible repeat (first | refine blk_drewN ?_ _ | refine blk_drew ?_ | refine blk_alloc ?_ _)); exact BK587.out)) : gb587 ≠ gb588)); have n6_ := Aside0.mk ((by rw [hg]; exact Nat.ne_of_gt (blk_lt (g := gb587) (o := .cells #[.int .i64 a0_0, .int .i64 a0_1, .slice A0_2 l0_2.length c0_2, .string a0_3] 69 (0, 0)) (by (with_reducible repeat (first | refine blk_drewN ?_ _ | refine blk_drew ?_ | refine blk_alloc ?_ _)); exact BK587.out)) : gb588 ≠ gb587)); clear BK587; clear HB; have BK587 := n0_; have HB := n1_; have BK588 := n2_; have GW588 := n3_; have GE588 := n4_; have NB587_588 := n5_; have NB588_587 := n6_; clear n0_ n1_ n2_ n3_ n4_ n5_ n6_; clear hb hbox hg; have hnb18 := NB587_588.out; have hnc18 := NB588_587.out; have hcz19_0 : w17.cell? ⟨gb587, 0, none⟩ = some (.int .i64 a0_0) := (blk_cell BK587.out 0).trans rfl; have hcz19_1 : w17.cell? ⟨gb587, 1, none⟩ = some (.int .i64 a0_1) := (blk_cell BK587.out 1).trans rfl; have hcz19_2 : w17.cell? ⟨gb587, 2, none⟩ = some (.slice A0_2 l0_2.length c0_2) := (blk_cell BK587.out 2).trans rfl; have hcz19_3 : w17.cell? ⟨gb587, 3, none⟩ = some (.string a0_3) := (blk_cell BK587.out 3).trans rfl; have hfz19_0 := blk_frozen BK587.out 0; have hfz19_1 := blk_frozen BK587.out 1; have hfz19_2 := blk_frozen BK587.out 2; have hfz19_3 := blk_frozen BK587.out 3; have hcz20_0 : w17.cell? ⟨gb588, 0, none⟩ = some (.int .i64 a1_0) := (blk_cell BK588.out 0).trans rfl; have hcz20_1 : w17.cell? ⟨gb588, 1, none⟩ = some (.int .i64 a1_1) := (blk_cell BK588.out 1).trans rfl; have hcz20_2 : w17.cell? ⟨gb588, 2, none⟩ = some (.slice A1_2 l1_2.length c1_2) := (blk_cell BK588.out 2).trans rfl; have hcz20_3 : w17.cell? ⟨gb588, 3, none⟩ = some (.string a1_3) := (blk_cell BK588.out 3).trans rfl; have hfz20_0 := blk_frozen BK588.out 0; have hfz20_1 := blk_frozen BK588.out 1; have hfz20_2 := blk_frozen BK588.out 2; have hfz20_3 := blk_frozen BK588.out 3) | ((with_reducible refine gate_callee (f := 133) rfl ?_); refine goesL_ (some 19) rfl rfl Try.func133 (by kernel_rfl) rfl #[.slice A0_2 l0_2.length c0_2, .slice A1_2 l1_2.length c1_2] rfl (by (try simp only [List.map_toArray, List.map_cons, List.map_nil]); first | done | rfl | (simp only [List.length_drop, List.length_take]; rfl)) ?_; (with_reducible refine (laws_eqRegS.calls k _ _ l0_2 _ _ l1_2 true _ ?side1 ?side2 ?side3 ?side4 A5.out).mono ?_); (case side1 => repeat (first | exact (Kd.C_below HR0_2.out HB.out) | (with_reducible refine Kd.C_alloc ?_ _) | (with_reducible refine Kd.C_drewN ?_ _) | (with_reducible refine Kd.C_drew ?_))); (case side2 => exact HC0_2.out); (case side3 => repeat (first | exact (Kd.C_below HR1_2.out HB.out) | (with_reducible refine Kd.C_alloc ?_ _) | (with_reducible refine Kd.C_drewN ?_ _) | (with_reducible refine Kd.C_drew ?_))); (case side4 => exact HC1_2.out); rintro e w21 ⟨rfl, hb⟩; refine ⟨_, rfl, ?_⟩; have n0_ := Aside0.mk (blk_below (g := gb587) (o := .cells #[.int .i64 a0_0, .int .i64 a0_1, .slice A0_2 l0_2.length c0_2, .string a0_3] 69 (0, 0)) (by (with_reducible repeat (first | refine blk_drewN ?_ _ | refine blk_drew ?_ | refine blk_alloc ?_ _)); exact BK587.out) hb); have n1_ := Aside0.mk (blk_below (g := gb588) (o := .cells #[.int .i64 a1_0, .int .i64 a1_1, .slice A1_2 l1_2.length c1_2, .string a1_3] 69 (0, 0)) (by (with_reducible repeat (first | refine blk_drewN ?_ _ | refine blk_drew ?_ | refine blk_alloc ?_ _)); exact BK588.out) hb); have n2_ := Aside0.mk (below_step (by repeat (first | (with_reducible first | exact HB.out | apply below_alloc | apply pw_below_drewN | apply below_drew1 | refine below_set ?_ GE587.out | refine below_set ?_ GE588.out) | exact HB.out)) hb); clear BK587; clear BK588; clear HB; have BK587 := n0_; have BK588 := n1_; have HB := n2_; clear n0_ n1_ n2_; (try clear hb); (try clear hb2); (try clear hk); (try clear hi); have hcz22_0 : w21.cell? ⟨gb587, 0, none⟩ = some (.int .i64 a0_0) := (blk_cell BK587.out 0).trans rfl; have hcz22_1 : w21.cell? ⟨gb587, 1, none⟩ = some (.int .i64 a0_1) := (blk_cell BK587.out 1).trans rfl; have hcz22_2 : w21.cell? ⟨gb587, 2, none⟩ = some (.slice A0_2 l0_2.length c0_2) := (blk_cell BK587.out 2).trans rfl; have hcz22_3 : w21.cell? ⟨gb587, 3, none⟩ = some (.string a0_3) := (blk_cell BK587.out 3).trans rfl; have hfz22_0 := blk_frozen BK587.out 0; have hfz22_1 := blk_frozen BK587.out 1; have hfz22_2 := blk_frozen BK587.out 2; have hfz22_3 := blk_frozen BK587.out 3; have hcz23_0 : w21.cell? ⟨gb588, 0, none⟩ = some (.int .i64 a1_0) := (blk_cell BK588.out 0).trans rfl; have hcz23_1 : w21.cell? ⟨gb588, 1, none⟩ = some (.int .i64 a1_1) := (blk_cell BK588.out 1).trans rfl; have hcz23_2 : w21.cell? ⟨gb588, 2, none⟩ = some (.slice A1_2 l1_2.length c1_2) := (blk_cell BK588.out 2).trans rfl; have hcz23_3 : w21.cell? ⟨gb588, 3, none⟩ = some (.string a1_3) := (blk_cell BK588.out 3).trans rfl; have hfz23_0 := blk_frozen BK588.out 0; have hfz23_1 := blk_frozen BK588.out 1; have hfz23_2 := blk_frozen BK588.out 2; have hfz23_3 := blk_frozen BK588.out 3))
          go_ret
          exact ⟨by first | rfl | (simp [errW_none, errW_some] <;> rfl) | (simp [*, errW_none, errW_some] <;> rfl), by repeat (first | (with_reducible first | exact HB.out | apply below_alloc | apply pw_below_drewN | apply below_drew1 | refine below_set ?_ GE587.out | refine below_set ?_ GE588.out) | exact HB.out)⟩
      · replace c6 := Bool.eq_false_iff.mpr c6
        subst c6
        have H1 : (some false) = some r := by rw [if_neg (show ¬ (false = true) by decide)] at H; exact H
        clear H
        have H := H1
        clear H1
        obtain rfl := Option.some.inj H
        go_enter Try.func44, Try.ntmps44
        go_wp2_with (first | ((with_reducible refine gate_dst (N := 2) rfl ?_); refine box_event ?hg (N := 2) ?hd (cs := #[.int .i64 a0_0, .int .i64 a0_1, .slice A0_2 l0_2.length c0_2, .string a0_3]) (t := 69) ?hr ?_; (case hd => rfl); (case hg => rfl); (case hr => first | (go_simp; done) | (go_simp; rfl)); intro gb587 hg w24 hbox hb; have n0_ := Aside0.mk (below_step (by repeat (first | (with_reducible first | exact HB.out | apply below_alloc | apply pw_below_drewN | apply below_drew1) | exact HB.out)) hb); have n1_ := Aside0.mk (hbox); have n2_ := Aside0.mk ((by rw [hg]; exact (below_size (by repeat (first | (with_reducible first | exact HB.out | apply below_alloc | apply pw_below_drewN | apply below_drew1) | exact HB.out))) : w.heap.size ≤ gb587)); have n3_ := Aside0.mk ((by rw [hg]; exact (below_size (by repeat (first | (with_reducible first | exact HB.out | apply below_alloc | apply pw_below_drewN | apply below_drew1) | exact HB.out))) : w.heap.size ≤ gb587)); clear HB; have HB := n0_; have BK587 := n1_; have GW587 := n2_; have GE587 := n3_; clear n0_ n1_ n2_ n3_; clear hb hbox hg) | ((with_reducible refine gate_dst (N := 3) rfl ?_); refine box_event ?hg (N := 3) ?hd (cs := #[.int .i64 a1_0, .int .i64 a1_1, .slice A1_2 l1_2.length c1_2, .string a1_3]) (t := 69) ?hr ?_; (case hd => rfl); (case hg => rfl); (case hr => first | (go_simp; done) | (go_simp; rfl)); intro gb588 hg w25 hbox hb; have n0_ := Aside0.mk (blk_below (g := gb587) (o := .cells #[.int .i64 a0_0, .int .i64 a0_1, .slice A0_2 l0_2.length c0_2, .string a0_3] 69 (0, 0)) (by (with_reducible repeat (first | refine blk_drewN ?_ _ | refine blk_drew ?_ | refine blk_alloc ?_ _)); exact BK587.out) hb); have n1_ := Aside0.mk (below_step (by repeat (first | (with_reducible first | exact HB.out | apply below_alloc | apply pw_below_drewN | apply below_drew1 | refine below_set ?_ GE587.out) | exact HB.out)) hb); have n2_ := Aside0.mk (hbox); have n3_ := Aside0.mk ((by rw [hg]; exact (below_size (by repeat (first | (with_reducible first | exact HB.out | apply below_alloc | apply pw_below_drewN | apply below_drew1 | refine below_set ?_ GE587.out) | exact HB.out))) : w.heap.size ≤ gb588)); have n4_ := Aside0.mk ((by rw [hg]; exact (below_size (by repeat (first | (with_reducible first | exact HB.out | apply below_alloc | apply pw_below_drewN | apply below_drew1 | refine below_set ?_ GE587.out) | exact HB.out))) : w.heap.size ≤ gb588)); have n5_ := Aside0.mk ((by rw [hg]; exact Nat.ne_of_lt (blk_lt (g := gb587) (o := .cells #[.int .i64 a0_0, .int .i64 a0_1, .slice A0_2 l0_2.length c0_2, .string a0_3] 69 (0, 0)) (by (with_reducible repeat (first | refine blk_drewN ?_ _ | refine blk_drew ?_ | refine blk_alloc ?_ _)); exact BK587.out)) : gb587 ≠ gb588)); have n6_ := Aside0.mk ((by rw [hg]; exact Nat.ne_of_gt (blk_lt (g := gb587) (o := .cells #[.int .i64 a0_0, .int .i64 a0_1, .slice A0_2 l0_2.length c0_2, .string a0_3] 69 (0, 0)) (by (with_reducible repeat (first | refine blk_drewN ?_ _ | refine blk_drew ?_ | refine blk_alloc ?_ _)); exact BK587.out)) : gb588 ≠ gb587)); clear BK587; clear HB; have BK587 := n0_; have HB := n1_; have BK588 := n2_; have GW588 := n3_; have GE588 := n4_; have NB587_588 := n5_; have NB588_587 := n6_; clear n0_ n1_ n2_ n3_ n4_ n5_ n6_; clear hb hbox hg; have hnb26 := NB587_588.out; have hnc26 := NB588_587.out; have hcz27_0 : w25.cell? ⟨gb587, 0, none⟩ = some (.int .i64 a0_0) := (blk_cell BK587.out 0).trans rfl; have hcz27_1 : w25.cell? ⟨gb587, 1, none⟩ = some (.int .i64 a0_1) := (blk_cell BK587.out 1).trans rfl; have hcz27_2 : w25.cell? ⟨gb587, 2, none⟩ = some (.slice A0_2 l0_2.length c0_2) := (blk_cell BK587.out 2).trans rfl; have hcz27_3 : w25.cell? ⟨gb587, 3, none⟩ = some (.string a0_3) := (blk_cell BK587.out 3).trans rfl; have hfz27_0 := blk_frozen BK587.out 0; have hfz27_1 := blk_frozen BK587.out 1; have hfz27_2 := blk_frozen BK587.out 2; have hfz27_3 := blk_frozen BK587.out 3; have hcz28_0 : w25.cell? ⟨gb588, 0, none⟩ = some (.int .i64 a1_0) := (blk_cell BK588.out 0).trans rfl; have hcz28_1 : w25.cell? ⟨gb588, 1, none⟩ = some (.int .i64 a1_1) := (blk_cell BK588.out 1).trans rfl; have hcz28_2 : w25.cell? ⟨gb588, 2, none⟩ = some (.slice A1_2 l1_2.length c1_2) := (blk_cell BK588.out 2).trans rfl; have hcz28_3 : w25.cell? ⟨gb588, 3, none⟩ = some (.string a1_3) := (blk_cell BK588.out 3).trans rfl; have hfz28_0 := blk_frozen BK588.out 0; have hfz28_1 := blk_frozen BK588.out 1; have hfz28_2 := blk_frozen BK588.out 2; have hfz28_3 := blk_frozen BK588.out 3) | ((with_reducible refine gate_callee (f := 133) rfl ?_); refine goesL_ (some 19) rfl rfl Try.func133 (by kernel_rfl) rfl #[.slice A0_2 l0_2.length c0_2, .slice A1_2 l1_2.length c1_2] rfl (by (try simp only [List.map_toArray, List.map_cons, List.map_nil]); first | done | rfl | (simp only [List.length_drop, List.length_take]; rfl)) ?_; (with_reducible refine (laws_eqRegS.calls k _ _ l0_2 _ _ l1_2 false _ ?side1 ?side2 ?side3 ?side4 A5.out).mono ?_); (case side1 => repeat (first | exact (Kd.C_below HR0_2.out HB.out) | (with_reducible refine Kd.C_alloc ?_ _) | (with_reducible refine Kd.C_drewN ?_ _) | (with_reducible refine Kd.C_drew ?_))); (case side2 => exact HC0_2.out); (case side3 => repeat (first | exact (Kd.C_below HR1_2.out HB.out) | (with_reducible refine Kd.C_alloc ?_ _) | (with_reducible refine Kd.C_drewN ?_ _) | (with_reducible refine Kd.C_drew ?_))); (case side4 => exact HC1_2.out); rintro e w29 ⟨rfl, hb⟩; refine ⟨_, rfl, ?_⟩; have n0_ := Aside0.mk (blk_below (g := gb587) (o := .cells #[.int .i64 a0_0, .int .i64 a0_1, .slice A0_2 l0_2.length c0_2, .string a0_3] 69 (0, 0)) (by (with_reducible repeat (first | refine blk_drewN ?_ _ | refine blk_drew ?_ | refine blk_alloc ?_ _)); exact BK587.out) hb); have n1_ := Aside0.mk (blk_below (g := gb588) (o := .cells #[.int .i64 a1_0, .int .i64 a1_1, .slice A1_2 l1_2.length c1_2, .string a1_3] 69 (0, 0)) (by (with_reducible repeat (first | refine blk_drewN ?_ _ | refine blk_drew ?_ | refine blk_alloc ?_ _)); exact BK588.out) hb); have n2_ := Aside0.mk (below_step (by repeat (first | (with_reducible first | exact HB.out | apply below_alloc | apply pw_below_drewN | apply below_drew1 | refine below_set ?_ GE587.out | refine below_set ?_ GE588.out) | exact HB.out)) hb); clear BK587; clear BK588; clear HB; have BK587 := n0_; have BK588 := n1_; have HB := n2_; clear n0_ n1_ n2_; (try clear hb); (try clear hb2); (try clear hk); (try clear hi)))
        go_ret
        exact ⟨by first | rfl | (simp [errW_none, errW_some] <;> rfl) | (simp [*, errW_none, errW_some] <;> rfl), by repeat (first | (with_reducible first | exact HB.out | apply below_alloc | apply pw_below_drewN | apply below_drew1 | refine below_set ?_ GE587.out | refine below_set ?_ GE588.out) | exact HB.out)⟩
    · rw [if_neg c4] at H
      have c4b0 : (a0_1 == a1_1) = false := beq_eq_false_iff_ne.mpr c4
      have c4b1 : (a0_1 != a1_1) = true := bne_iff_ne.mpr c4
      obtain rfl := Option.some.inj H
      go_enter Try.func44, Try.ntmps44
      go_wp2_with (first | ((with_reducible refine gate_dst (N := 2) rfl ?_); refine box_event ?hg (N := 2) ?hd (cs := #[.int .i64 a0_0, .int .i64 a0_1, .slice A0_2 l0_2.length c0_2, .string a0_3]) (t := 69) ?hr ?_; (case hd => rfl); (case hg => rfl); (case hr => first | (go_simp; done) | (go_simp; rfl)); intro gb587 hg w30 hbox hb; have n0_ := Aside0.mk (below_step (by repeat (first | (with_reducible first | exact HB.out | apply below_alloc | apply pw_below_drewN | apply below_drew1) | exact HB.out)) hb); have n1_ := Aside0.mk (hbox); have n2_ := Aside0.mk ((by rw [hg]; exact (below_size (by repeat (first | (with_reducible first | exact HB.out | apply below_alloc | apply pw_below_drewN | apply below_drew1) | exact HB.out))) : w.heap.size ≤ gb587)); have n3_ := Aside0.mk ((by rw [hg]; exact (below_size (by repeat (first | (with_reducible first | exact HB.out | apply below_alloc | apply pw_below_drewN | apply below_drew1) | exact HB.out))) : w.heap.size ≤ gb587)); clear HB; have HB := n0_; have BK587 := n1_; have GW587 := n2_; have GE587 := n3_; clear n0_ n1_ n2_ n3_; clear hb hbox hg) | ((with_reducible refine gate_dst (N := 3) rfl ?_); refine box_event ?hg (N := 3) ?hd (cs := #[.int .i64 a1_0, .int .i64 a1_1, .slice A1_2 l1_2.length c1_2, .string a1_3]) (t := 69) ?hr ?_; (case hd => rfl); (case hg => rfl); (case hr => first | (go_simp; done) | (go_simp; rfl)); intro gb588 hg w31 hbox hb; have n0_ := Aside0.mk (blk_below (g := gb587) (o := .cells #[.int .i64 a0_0, .int .i64 a0_1, .slice A0_2 l0_2.length c0_2, .string a0_3] 69 (0, 0)) (by (with_reducible repeat (first | refine blk_drewN ?_ _ | refine blk_drew ?_ | refine blk_alloc ?_ _)); exact BK587.out) hb); have n1_ := Aside0.mk (below_step (by repeat (first | (with_reducible first | exact HB.out | apply below_alloc | apply pw_below_drewN | apply below_drew1 | refine below_set ?_ GE587.out) | exact HB.out)) hb); have n2_ := Aside0.mk (hbox); have n3_ := Aside0.mk ((by rw [hg]; exact (below_size (by repeat (first | (with_reducible first | exact HB.out | apply below_alloc | apply pw_below_drewN | apply below_drew1 | refine below_set ?_ GE587.out) | exact HB.out))) : w.heap.size ≤ gb588)); have n4_ := Aside0.mk ((by rw [hg]; exact (below_size (by repeat (first | (with_reducible first | exact HB.out | apply below_alloc | apply pw_below_drewN | apply below_drew1 | refine below_set ?_ GE587.out) | exact HB.out))) : w.heap.size ≤ gb588)); have n5_ := Aside0.mk ((by rw [hg]; exact Nat.ne_of_lt (blk_lt (g := gb587) (o := .cells #[.int .i64 a0_0, .int .i64 a0_1, .slice A0_2 l0_2.length c0_2, .string a0_3] 69 (0, 0)) (by (with_reducible repeat (first | refine blk_drewN ?_ _ | refine blk_drew ?_ | refine blk_alloc ?_ _)); exact BK587.out)) : gb587 ≠ gb588)); have n6_ := Aside0.mk ((by rw [hg]; exact Nat.ne_of_gt (blk_lt (g := gb587) (o := .cells #[.int .i64 a0_0, .int .i64 a0_1, .slice A0_2 l0_2.length c0_2, .string a0_3] 69 (0, 0)) (by (with_reducible repeat (first | refine blk_drewN ?_ _ | refine blk_drew ?_ | refine blk_alloc ?_ _)); exact BK587.out)) : gb588 ≠ gb587)); clear BK587; clear HB; have BK587 := n0_; have HB := n1_; have BK588 := n2_; have GW588 := n3_; have GE588 := n4_; have NB587_588 := n5_; have NB588_587 := n6_; clear n0_ n1_ n2_ n3_ n4_ n5_ n6_; clear hb hbox hg; have hnb32 := NB587_588.out; have hnc32 := NB588_587.out; have hcz33_0 : w31.cell? ⟨gb587, 0, none⟩ = some (.int .i64 a0_0) := (blk_cell BK587.out 0).trans rfl; have hcz33_1 : w31.cell? ⟨gb587, 1, none⟩ = some (.int .i64 a0_1) := (blk_cell BK587.out 1).trans rfl; have hcz33_2 : w31.cell? ⟨gb587, 2, none⟩ = some (.slice A0_2 l0_2.length c0_2) := (blk_cell BK587.out 2).trans rfl; have hcz33_3 : w31.cell? ⟨gb587, 3, none⟩ = some (.string a0_3) := (blk_cell BK587.out 3).trans rfl; have hfz33_0 := blk_frozen BK587.out 0; have hfz33_1 := blk_frozen BK587.out 1; have hfz33_2 := blk_frozen BK587.out 2; have hfz33_3 := blk_frozen BK587.out 3; have hcz34_0 : w31.cell? ⟨gb588, 0, none⟩ = some (.int .i64 a1_0) := (blk_cell BK588.out 0).trans rfl; have hcz34_1 : w31.cell? ⟨gb588, 1, none⟩ = some (.int .i64 a1_1) := (blk_cell BK588.out 1).trans rfl; have hcz34_2 : w31.cell? ⟨gb588, 2, none⟩ = some (.slice A1_2 l1_2.length c1_2) := (blk_cell BK588.out 2).trans rfl; have hcz34_3 : w31.cell? ⟨gb588, 3, none⟩ = some (.string a1_3) := (blk_cell BK588.out 3).trans rfl; have hfz34_0 := blk_frozen BK588.out 0; have hfz34_1 := blk_frozen BK588.out 1; have hfz34_2 := blk_frozen BK588.out 2; have hfz34_3 := blk_frozen BK588.out 3))
      go_ret
      exact ⟨by first | rfl | (simp [errW_none, errW_some] <;> rfl) | (simp [*, errW_none, errW_some] <;> rfl), by repeat (first | (with_reducible first | exact HB.out | apply below_alloc | apply pw_below_drewN | apply below_drew1 | refine below_set ?_ GE587.out | refine below_set ?_ GE588.out) | exact HB.out)⟩
  · rw [if_neg c3] at H
    have c3b0 : (a0_0 == a1_0) = false := beq_eq_false_iff_ne.mpr c3
    have c3b1 : (a0_0 != a1_0) = true := bne_iff_ne.mpr c3
    obtain rfl := Option.some.inj H
    go_enter Try.func44, Try.ntmps44
    go_wp2_with (first | ((with_reducible refine gate_dst (N := 2) rfl ?_); refine box_event ?hg (N := 2) ?hd (cs := #[.int .i64 a0_0, .int .i64 a0_1, .slice A0_2 l0_2.length c0_2, .string a0_3]) (t := 69) ?hr ?_; (case hd => rfl); (case hg => rfl); (case hr => first | (go_simp; done) | (go_simp; rfl)); intro gb587 hg w35 hbox hb; have n0_ := Aside0.mk (below_step (by repeat (first | (with_reducible first | exact HB.out | apply below_alloc | apply pw_below_drewN | apply below_drew1) | exact HB.out)) hb); have n1_ := Aside0.mk (hbox); have n2_ := Aside0.mk ((by rw [hg]; exact (below_size (by repeat (first | (with_reducible first | exact HB.out | apply below_alloc | apply pw_below_drewN | apply below_drew1) | exact HB.out))) : w.heap.size ≤ gb587)); have n3_ := Aside0.mk ((by rw [hg]; exact (below_size (by repeat (first | (with_reducible first | exact HB.out | apply below_alloc | apply pw_below_drewN | apply below_drew1) | exact HB.out))) : w.heap.size ≤ gb587)); clear HB; have HB := n0_; have BK587 := n1_; have GW587 := n2_; have GE587 := n3_; clear n0_ n1_ n2_ n3_; clear hb hbox hg) | ((with_reducible refine gate_dst (N := 3) rfl ?_); refine box_event ?hg (N := 3) ?hd (cs := #[.int .i64 a1_0, .int .i64 a1_1, .slice A1_2 l1_2.length c1_2, .string a1_3]) (t := 69) ?hr ?_; (case hd => rfl); (case hg => rfl); (case hr => first | (go_simp; done) | (go_simp; rfl)); intro gb588 hg w36 hbox hb; have n0_ := Aside0.mk (blk_below (g := gb587) (o := .cells #[.int .i64 a0_0, .int .i64 a0_1, .slice A0_2 l0_2.length c0_2, .string a0_3] 69 (0, 0)) (by (with_reducible repeat (first | refine blk_drewN ?_ _ | refine blk_drew ?_ | refine blk_alloc ?_ _)); exact BK587.out) hb); have n1_ := Aside0.mk (below_step (by repeat (first | (with_reducible first | exact HB.out | apply below_alloc | apply pw_below_drewN | apply below_drew1 | refine below_set ?_ GE587.out) | exact HB.out)) hb); have n2_ := Aside0.mk (hbox); have n3_ := Aside0.mk ((by rw [hg]; exact (below_size (by repeat (first | (with_reducible first | exact HB.out | apply below_alloc | apply pw_below_drewN | apply below_drew1 | refine below_set ?_ GE587.out) | exact HB.out))) : w.heap.size ≤ gb588)); have n4_ := Aside0.mk ((by rw [hg]; exact (below_size (by repeat (first | (with_reducible first | exact HB.out | apply below_alloc | apply pw_below_drewN | apply below_drew1 | refine below_set ?_ GE587.out) | exact HB.out))) : w.heap.size ≤ gb588)); have n5_ := Aside0.mk ((by rw [hg]; exact Nat.ne_of_lt (blk_lt (g := gb587) (o := .cells #[.int .i64 a0_0, .int .i64 a0_1, .slice A0_2 l0_2.length c0_2, .string a0_3] 69 (0, 0)) (by (with_reducible repeat (first | refine blk_drewN ?_ _ | refine blk_drew ?_ | refine blk_alloc ?_ _)); exact BK587.out)) : gb587 ≠ gb588)); have n6_ := Aside0.mk ((by rw [hg]; exact Nat.ne_of_gt (blk_lt (g := gb587) (o := .cells #[.int .i64 a0_0, .int .i64 a0_1, .slice A0_2 l0_2.length c0_2, .string a0_3] 69 (0, 0)) (by (with_reducible repeat (first | refine blk_drewN ?_ _ | refine blk_drew ?_ | refine blk_alloc ?_ _)); exact BK587.out)) : gb588 ≠ gb587)); clear BK587; clear HB; have BK587 := n0_; have HB := n1_; have BK588 := n2_; have GW588 := n3_; have GE588 := n4_; have NB587_588 := n5_; have NB588_587 := n6_; clear n0_ n1_ n2_ n3_ n4_ n5_ n6_; clear hb hbox hg; have hnb37 := NB587_588.out; have hnc37 := NB588_587.out; have hcz38_0 : w36.cell? ⟨gb587, 0, none⟩ = some (.int .i64 a0_0) := (blk_cell BK587.out 0).trans rfl; have hcz38_1 : w36.cell? ⟨gb587, 1, none⟩ = some (.int .i64 a0_1) := (blk_cell BK587.out 1).trans rfl; have hcz38_2 : w36.cell? ⟨gb587, 2, none⟩ = some (.slice A0_2 l0_2.length c0_2) := (blk_cell BK587.out 2).trans rfl; have hcz38_3 : w36.cell? ⟨gb587, 3, none⟩ = some (.string a0_3) := (blk_cell BK587.out 3).trans rfl; have hfz38_0 := blk_frozen BK587.out 0; have hfz38_1 := blk_frozen BK587.out 1; have hfz38_2 := blk_frozen BK587.out 2; have hfz38_3 := blk_frozen BK587.out 3; have hcz39_0 : w36.cell? ⟨gb588, 0, none⟩ = some (.int .i64 a1_0) := (blk_cell BK588.out 0).trans rfl; have hcz39_1 : w36.cell? ⟨gb588, 1, none⟩ = some (.int .i64 a1_1) := (blk_cell BK588.out 1).trans rfl; have hcz39_2 : w36.cell? ⟨gb588, 2, none⟩ = some (.slice A1_2 l1_2.length c1_2) := (blk_cell BK588.out 2).trans rfl; have hcz39_3 : w36.cell? ⟨gb588, 3, none⟩ = some (.string a1_3) := (blk_cell BK588.out 3).trans rfl; have hfz39_0 := blk_frozen BK588.out 0; have hfz39_1 := blk_frozen BK588.out 1; have hfz39_2 := blk_frozen BK588.out 2; have hfz39_3 := blk_frozen BK588.out 3))
    go_ret
    exact ⟨by first | rfl | (simp [errW_none, errW_some] <;> rfl) | (simp [*, errW_none, errW_some] <;> rfl), by repeat (first | (with_reducible first | exact HB.out | apply below_alloc | apply pw_below_drewN | apply below_drew1 | refine below_set ?_ GE587.out | refine below_set ?_ GE588.out) | exact HB.out)⟩

end Go.Proofs.Ytjheiahfhknakaa.G
-- Laid by a program of this session for the seat Ytjheiahfhknakaa
namespace Go.Proofs.Ytjheiahfhknakaa.G
open Go.RowKit Go.Proofs.YtjheiahfhknakaaW.PrintWords Go.Proofs.YtjheiahfhknakaaW.PrintLast Go.Proofs.YtjheiahfhknakaaW.PrintMore
attribute [local go_sem] max2_int min2_int max_two min_two max_three min_three max_four min_four   -- for this text's walks alone
set_option linter.unusedVariables false
set_option linter.unusedSimpArgs false

/-! ### laws_heldMail: function 46 -/
def laws_heldMail.f (k : Nat) (a0_0 : Int) (a0_1 : Int) (l0_2 : List (S146)) (a0_3 : ByteArray) (a1 : Int) : Option (Int) := (laws_heldRegS.f k l0_2 a1).bind fun t1177 => (if t1177 < 0 then (some (-1)) else (some t1177))
theorem laws_heldMail.mono : ∀ a0 a1 a2 a3 a4 k, LeO (laws_heldMail.f k a0 a1 a2 a3 a4) (laws_heldMail.f (k + 1) a0 a1 a2 a3 a4) := by
  intro a0 a1 a2 a3 a4 k
  unfold laws_heldMail.f
  repeat' first
      | (with_reducible exact laws_heldRegS.mono _ _ _)
      | (with_reducible exact LeO.refl _)
      | (with_reducible exact LeO.none _)
      | (with_reducible refine LeO.ite ?_ ?_)
      | (with_reducible refine LeO.bind ?_ (fun _ => ?_))
      | exact laws_heldRegS.mono _ _ _
      | exact LeO.none _
      | refine LeO.ite ?_ ?_
      | refine LeO.bind ?_ (fun _ => ?_)
set_option maxHeartbeats 8000000 in
set_option maxRecDepth 100000 in
theorem laws_heldMail.calls (k : Nat) (a0_0 : Int) (a0_1 : Int) (A0_2 : Option Addr) (c0_2 : Nat) (l0_2 : List (S146)) (a0_3 : ByteArray) (a1 : Int) (r : Int) (w : World) (hr0_2 : Kd.C k146 w A0_2 l0_2.length l0_2) (hc0_2 : l0_2.length ≤ c0_2) (h : laws_heldMail.f k a0_0 a0_1 l0_2 a0_3 a1 = some r) :
    Calls Try.prog 46 #[.agg #[.int .i64 a0_0, .int .i64 a0_1, .slice A0_2 l0_2.length c0_2, .string a0_3], .int .i64 a1] w fun e w' => e = .returned (.int .i64 r) ∧ Below w.heap.size w w' := by
  have hu69 := Try.underlying69
  have HR0_2 := Aside0.mk hr0_2
  have HC0_2 := Aside0.mk hc0_2
  clear hr0_2 hc0_2
  have HB := Aside0.mk (Below.refl w.heap.size w)
  have H : ((laws_heldRegS.f k l0_2 a1).bind fun t1177 => (if t1177 < 0 then (some (-1)) else (some t1177))) = some r := h
  clear h
  replace H := Option.bind_eq_some_iff.mp H
  obtain ⟨t1177, A30, H⟩ := H
  replace H : (if t1177 < 0 then (some (-1)) else (some t1177)) = some r := H
  have A3 := Aside0.mk A30
  clear A30
  by_cases c4 : t1177 < 0
  · rw [if_pos c4] at H
    have c4b0 : decide (t1177 < 0) = true := decide_eq_true c4
    clear c4
    obtain rfl := Option.some.inj H
    go_enter Try.func46, Try.ntmps46
    go_wp2_with (first | ((with_reducible refine gate_dst (N := 2) rfl ?_); refine box_event ?hg (N := 2) ?hd (cs := #[.int .i64 a0_0, .int .i64 a0_1, .slice A0_2 l0_2.length c0_2, .string a0_3]) (t := 69) ?hr ?_; (case hd => rfl); (case hg => rfl); (case hr => first | (go_simp; done) | (go_simp; rfl)); intro gb1176 hg w5 hbox hb; have n0_ := Aside0.mk (below_step (by repeat (first | (with_reducible first | exact HB.out | apply below_alloc | apply pw_below_drewN | apply below_drew1) | exact HB.out)) hb); have n1_ := Aside0.mk (hbox); have n2_ := Aside0.mk ((by rw [hg]; exact (below_size (by repeat (first | (with_reducible first | exact HB.out | apply below_alloc | apply pw_below_drewN | apply below_drew1) | exact HB.out))) : w.heap.size ≤ gb1176)); have n3_ := Aside0.mk ((by rw [hg]; exact (below_size (by repeat (first | (with_reducible first | exact HB.out | apply below_alloc | apply pw_below_drewN | apply below_drew1) | exact HB.out))) : w.heap.size ≤ gb1176)); clear HB; have HB := n0_; have BK1176 := n1_; have GW1176 := n2_; have GE1176 := n3_; clear n0_ n1_ n2_ n3_; clear hb hbox hg; have hcz6_0 : w5.cell? ⟨gb1176, 0, none⟩ = some (.int .i64 a0_0) := (blk_cell BK1176.out 0).trans rfl; have hcz6_1 : w5.cell? ⟨gb1176, 1, none⟩ = some (.int .i64 a0_1) := (blk_cell BK1176.out 1).trans rfl; have hcz6_2 : w5.cell? ⟨gb1176, 2, none⟩ = some (.slice A0_2 l0_2.length c0_2) := (blk_cell BK1176.out 2).trans rfl; have hcz6_3 : w5.cell? ⟨gb1176, 3, none⟩ = some (.string a0_3) := (blk_cell BK1176.out 3).trans rfl; have hfz6_0 := blk_frozen BK1176.out 0; have hfz6_1 := blk_frozen BK1176.out 1; have hfz6_2 := blk_frozen BK1176.out 2; have hfz6_3 := blk_frozen BK1176.out 3) | ((with_reducible refine gate_callee (f := 135) rfl ?_); refine goesL_ (some 8) rfl rfl Try.func135 (by kernel_rfl) rfl #[.slice A0_2 l0_2.length c0_2, .int .i64 a1] rfl (by (try simp only [List.map_toArray, List.map_cons, List.map_nil]); first | done | rfl | (simp only [List.length_drop, List.length_take]; rfl)) ?_; (with_reducible refine (laws_heldRegS.calls k _ _ l0_2 a1 t1177 _ ?side1 ?side2 A3.out).mono ?_); (case side1 => repeat (first | exact (Kd.C_below HR0_2.out HB.out) | (with_reducible refine Kd.C_alloc ?_ _) | (with_reducible refine Kd.C_drewN ?_ _) | (with_reducible refine Kd.C_drew ?_))); (case side2 => exact HC0_2.out); rintro e w' ⟨rfl, ⟨nd, rfl⟩⟩; refine ⟨_, rfl, ?_⟩))
    go_ret
    exact ⟨by first | rfl | (simp [errW_none, errW_some] <;> rfl) | (simp [*, errW_none, errW_some] <;> rfl), by repeat (first | (with_reducible first | exact HB.out | apply below_alloc | apply pw_below_drewN | apply below_drew1 | refine below_set ?_ GE1176.out) | exact HB.out)⟩
  · rw [if_neg c4] at H
    have c4b0 : decide (t1177 < 0) = false := decide_eq_false c4
    clear c4
    obtain rfl := Option.some.inj H
    go_enter Try.func46, Try.ntmps46
    go_wp2_with (first | ((with_reducible refine gate_dst (N := 2) rfl ?_); refine box_event ?hg (N := 2) ?hd (cs := #[.int .i64 a0_0, .int .i64 a0_1, .slice A0_2 l0_2.length c0_2, .string a0_3]) (t := 69) ?hr ?_; (case hd => rfl); (case hg => rfl); (case hr => first | (go_simp; done) | (go_simp; rfl)); intro gb1176 hg w7 hbox hb; have n0_ := Aside0.mk (below_step (by repeat (first | (with_reducible first | exact HB.out | apply below_alloc | apply pw_below_drewN | apply below_drew1) | exact HB.out)) hb); have n1_ := Aside0.mk (hbox); have n2_ := Aside0.mk ((by rw [hg]; exact (below_size (by repeat (first | (with_reducible first | exact HB.out | apply below_alloc | apply pw_below_drewN | apply below_drew1) | exact HB.out))) : w.heap.size ≤ gb1176)); have n3_ := Aside0.mk ((by rw [hg]; exact (below_size (by repeat (first | (with_reducible first | exact HB.out | apply below_alloc | apply pw_below_drewN | apply below_drew1) | exact HB.out))) : w.heap.size ≤ gb1176)); clear HB; have HB := n0_; have BK1176 := n1_; have GW1176 := n2_; have GE1176 := n3_; clear n0_ n1_ n2_ n3_; clear hb hbox hg; have hcz8_0 : w7.cell? ⟨gb1176, 0, none⟩ = some (.int .i64 a0_0) := (blk_cell BK1176.out 0).trans rfl; have hcz8_1 : w7.cell? ⟨gb1176, 1, none⟩ = some (.int .i64 a0_1) := (blk_cell BK1176.out 1).trans rfl; have hcz8_2 : w7.cell? ⟨gb1176, 2, none⟩ = some (.slice A0_2 l0_2.length c0_2) := (blk_cell BK1176.out 2).trans rfl; have hcz8_3 : w7.cell? ⟨gb1176, 3, none⟩ = some (.string a0_3) := (blk_cell BK1176.out 3).trans rfl; have hfz8_0 := blk_frozen BK1176.out 0; have hfz8_1 := blk_frozen BK1176.out 1; have hfz8_2 := blk_frozen BK1176.out 2; have hfz8_3 := blk_frozen BK1176.out 3) | ((with_reducible refine gate_callee (f := 135) rfl ?_); refine goesL_ (some 8) rfl rfl Try.func135 (by kernel_rfl) rfl #[.slice A0_2 l0_2.length c0_2, .int .i64 a1] rfl (by (try simp only [List.map_toArray, List.map_cons, List.map_nil]); first | done | rfl | (simp only [List.length_drop, List.length_take]; rfl)) ?_; (with_reducible refine (laws_heldRegS.calls k _ _ l0_2 a1 t1177 _ ?side1 ?side2 A3.out).mono ?_); (case side1 => repeat (first | exact (Kd.C_below HR0_2.out HB.out) | (with_reducible refine Kd.C_alloc ?_ _) | (with_reducible refine Kd.C_drewN ?_ _) | (with_reducible refine Kd.C_drew ?_))); (case side2 => exact HC0_2.out); rintro e w' ⟨rfl, ⟨nd, rfl⟩⟩; refine ⟨_, rfl, ?_⟩))
    go_ret
    exact ⟨by first | rfl | (simp [errW_none, errW_some] <;> rfl) | (simp [*, errW_none, errW_some] <;> rfl), by repeat (first | (with_reducible first | exact HB.out | apply below_alloc | apply pw_below_drewN | apply below_drew1 | refine below_set ?_ GE1176.out) | exact HB.out)⟩

end Go.Proofs.Ytjheiahfhknakaa.G
-- Laid by a program of this session for the seat Ytjheiahfhknakaa
namespace Go.Proofs.Ytjheiahfhknakaa.G
open Go.RowKit Go.Proofs.YtjheiahfhknakaaW.PrintWords Go.Proofs.YtjheiahfhknakaaW.PrintLast Go.Proofs.YtjheiahfhknakaaW.PrintMore
attribute [local go_sem] max2_int min2_int max_two min_two max_three min_three max_four min_four   -- for this text's walks alone
set_option linter.unusedVariables false
set_option linter.unusedSimpArgs false

/-! ### laws_szRegS: function 128 -/
def laws_szRegS.f (l0 : List (S179)) (a1 : Int) : Option (Int) := if (wrap64 (a1 - (l0.length : Int))) < 0 then (some (-1)) else (some (wrap64 (a1 - (l0.length : Int))))
set_option maxHeartbeats 8000000 in
set_option maxRecDepth 100000 in
theorem laws_szRegS.calls (A0 : Option Addr) (c0 : Nat) (l0 : List (S179)) (a1 : Int) (r : Int) (w : World) (hr0 : Kd.C k179 w A0 l0.length l0) (hc0 : l0.length ≤ c0) (h : laws_szRegS.f l0 a1 = some r) :
    Calls Try.prog 128 #[.slice A0 l0.length c0, .int .i64 a1] w fun e w' => e = .returned (.int .i64 r) ∧ Drawn0 w w' := by
  have HR0 := Aside0.mk hr0
  have HC0 := Aside0.mk hc0
  clear hr0 hc0
  have H : (if (wrap64 (a1 - (l0.length : Int))) < 0 then (some (-1)) else (some (wrap64 (a1 - (l0.length : Int))))) = some r := h
  clear h
  by_cases c3 : (wrap64 (a1 - (l0.length : Int))) < 0
  · rw [if_pos c3] at H
    have c3b0 : decide ((wrap64 (a1 - (l0.length : Int))) < 0) = true := decide_eq_true c3
    clear c3
    obtain rfl := Option.some.inj H
    go_enter Try.func128, Try.ntmps128
    go_wp2
    go_ret
    exact ⟨by first | rfl | (simp; done) | (simp [*]; done), by repeat (first | exact Drawn0.refl _ | apply Drawn0.step)⟩
  · rw [if_neg c3] at H
    have c3b0 : decide ((wrap64 (a1 - (l0.length : Int))) < 0) = false := decide_eq_false c3
    clear c3
    obtain rfl := Option.some.inj H
    go_enter Try.func128, Try.ntmps128
    go_wp2
    go_ret
    exact ⟨by first | rfl | (simp; done) | (simp [*]; done), by repeat (first | exact Drawn0.refl _ | apply Drawn0.step)⟩

end Go.Proofs.Ytjheiahfhknakaa.G
-- Laid by a program of this session for the seat Ytjheiahfhknakaa
namespace Go.Proofs.Ytjheiahfhknakaa.G
open Go.RowKit Go.Proofs.YtjheiahfhknakaaW.PrintWords Go.Proofs.YtjheiahfhknakaaW.PrintLast Go.Proofs.YtjheiahfhknakaaW.PrintMore
attribute [local go_sem] max2_int min2_int max_two min_two max_three min_three max_four min_four   -- for this text's walks alone
set_option linter.unusedVariables false
set_option linter.unusedSimpArgs false

/-! ### laws_szMail: function 40 -/
def laws_szMail.f (a0_0 : Int) (a0_1 : Int) (l0_2 : List (S179)) (a0_3 : ByteArray) (a1 : Int) : Option (Int) := (laws_szRegS.f l0_2 a1).bind fun t102 => (if t102 < 0 then (some (-1)) else (if (wrap64 (t102 - (a0_3.size : Int))) < 0 then (some (-1)) else (some (wrap64 (t102 - (a0_3.size : Int))))))
set_option maxHeartbeats 8000000 in
set_option maxRecDepth 100000 in
theorem laws_szMail.calls (a0_0 : Int) (a0_1 : Int) (A0_2 : Option Addr) (c0_2 : Nat) (l0_2 : List (S179)) (a0_3 : ByteArray) (a1 : Int) (r : Int) (w : World) (hr0_2 : Kd.C k179 w A0_2 l0_2.length l0_2) (hc0_2 : l0_2.length ≤ c0_2) (h : laws_szMail.f a0_0 a0_1 l0_2 a0_3 a1 = some r) :
    Calls Try.prog 40 #[.agg #[.int .i64 a0_0, .int .i64 a0_1, .slice A0_2 l0_2.length c0_2, .string a0_3], .int .i64 a1] w fun e w' => e = .returned (.int .i64 r) ∧ Below w.heap.size w w' := by
  have hu65 := Try.underlying65
  have HR0_2 := Aside0.mk hr0_2
  have HC0_2 := Aside0.mk hc0_2
  clear hr0_2 hc0_2
  have HB := Aside0.mk (Below.refl w.heap.size w)
  have H : ((laws_szRegS.f l0_2 a1).bind fun t102 => (if t102 < 0 then (some (-1)) else (if (wrap64 (t102 - (a0_3.size : Int))) < 0 then (some (-1)) else (some (wrap64 (t102 - (a0_3.size : Int))))))) = some r := h
  clear h
  replace H := Option.bind_eq_some_iff.mp H
  obtain ⟨t102, A30, H⟩ := H
  replace H : (if t102 < 0 then (some (-1)) else (if (wrap64 (t102 - (a0_3.size : Int))) < 0 then (some (-1)) else (some (wrap64 (t102 - (a0_3.size : Int)))))) = some r := H
  have A3 := Aside0.mk A30
  clear A30
  by_cases c4 : t102 < 0
  · rw [if_pos c4] at H
    have c4b0 : decide (t102 < 0) = true := decide_eq_true c4
    clear c4
    obtain rfl := Option.some.inj H
    go_enter Try.func40, Try.ntmps40
    go_wp2_with (first | ((with_reducible refine gate_dst (N := 2) rfl ?_); refine box_event ?hg (N := 2) ?hd (cs := #[.int .i64 a0_0, .int .i64 a0_1, .slice A0_2 l0_2.length c0_2, .string a0_3]) (t := 65) ?hr ?_; (case hd => rfl); (case hg => rfl); (case hr => first | (go_simp; done) | (go_simp; rfl)); intro gb101 hg w5 hbox hb; have n0_ := Aside0.mk (below_step (by repeat (first | (with_reducible first | exact HB.out | apply below_alloc | apply pw_below_drewN | apply below_drew1) | exact HB.out)) hb); have n1_ := Aside0.mk (hbox); have n2_ := Aside0.mk ((by rw [hg]; exact (below_size (by repeat (first | (with_reducible first | exact HB.out | apply below_alloc | apply pw_below_drewN | apply below_drew1) | exact HB.out))) : w.heap.size ≤ gb101)); have n3_ := Aside0.mk ((by rw [hg]; exact (below_size (by repeat (first | (with_reducible first | exact HB.out | apply below_alloc | apply pw_below_drewN | apply below_drew1) | exact HB.out))) : w.heap.size ≤ gb101)); clear HB; have HB := n0_; have BK101 := n1_; have GW101 := n2_; have GE101 := n3_; clear n0_ n1_ n2_ n3_; clear hb hbox hg; have hcz6_0 : w5.cell? ⟨gb101, 0, none⟩ = some (.int .i64 a0_0) := (blk_cell BK101.out 0).trans rfl; have hcz6_1 : w5.cell? ⟨gb101, 1, none⟩ = some (.int .i64 a0_1) := (blk_cell BK101.out 1).trans rfl; have hcz6_2 : w5.cell? ⟨gb101, 2, none⟩ = some (.slice A0_2 l0_2.length c0_2) := (blk_cell BK101.out 2).trans rfl; have hcz6_3 : w5.cell? ⟨gb101, 3, none⟩ = some (.string a0_3) := (blk_cell BK101.out 3).trans rfl; have hfz6_0 := blk_frozen BK101.out 0; have hfz6_1 := blk_frozen BK101.out 1; have hfz6_2 := blk_frozen BK101.out 2; have hfz6_3 := blk_frozen BK101.out 3) | ((with_reducible refine gate_callee (f := 128) rfl ?_); refine goesL_ (some 8) rfl rfl Try.func128 (by kernel_rfl) rfl #[.slice A0_2 l0_2.length c0_2, .int .i64 a1] rfl (by (try simp only [List.map_toArray, List.map_cons, List.map_nil]); first | done | rfl | (simp only [List.length_drop, List.length_take]; rfl)) ?_; (with_reducible refine (laws_szRegS.calls _ _ l0_2 a1 t102 _ ?side1 ?side2 A3.out).mono ?_); (case side1 => repeat (first | exact (Kd.C_below HR0_2.out HB.out) | (with_reducible refine Kd.C_alloc ?_ _) | (with_reducible refine Kd.C_drewN ?_ _) | (with_reducible refine Kd.C_drew ?_))); (case side2 => exact HC0_2.out); rintro e w' ⟨rfl, ⟨nd, rfl⟩⟩; refine ⟨_, rfl, ?_⟩))
    go_ret
    exact ⟨by first | rfl | (simp [errW_none, errW_some] <;> rfl) | (simp [*, errW_none, errW_some] <;> rfl), by repeat (first | (with_reducible first | exact HB.out | apply below_alloc | apply pw_below_drewN | apply below_drew1 | refine below_set ?_ GE101.out) | exact HB.out)⟩
  · rw [if_neg c4] at H
    have c4b0 : decide (t102 < 0) = false := decide_eq_false c4
    clear c4
    by_cases c7 : (wrap64 (t102 - (a0_3.size : Int))) < 0
    · rw [if_pos c7] at H
      have c7b0 : decide ((wrap64 (t102 - (a0_3.size : Int))) < 0) = true := decide_eq_true c7
      clear c7
      obtain rfl := Option.some.inj H
      go_enter Try.func40, Try.ntmps40
      go_wp2_with (first | ((with_reducible refine gate_dst (N := 2) rfl ?_); refine box_event ?hg (N := 2) ?hd (cs := #[.int .i64 a0_0, .int .i64 a0_1, .slice A0_2 l0_2.length c0_2, .string a0_3]) (t := 65) ?hr ?_; (case hd => rfl); (case hg => rfl); (case hr => first | (go_simp; done) | (go_simp; rfl)); intro gb101 hg w8 hbox hb; have n0_ := Aside0.mk (below_step (by repeat (first | (with_reducible first | exact HB.out | apply below_alloc | apply pw_below_drewN | apply below_drew1) | exact HB.out)) hb); have n1_ := Aside0.mk (hbox); have n2_ := Aside0.mk ((by rw [hg]; exact (below_size (by repeat (first | (with_reducible first | exact HB.out | apply below_alloc | apply pw_below_drewN | apply below_drew1) | exact HB.out))) : w.heap.size ≤ gb101)); have n3_ := Aside0.mk ((by rw [hg]; exact (below_size (by repeat (first | (with_reducible first | exact HB.out | apply below_alloc | apply pw_below_drewN | apply below_drew1) | exact HB.out))) : w.heap.size ≤ gb101)); clear HB; have HB := n0_; have BK101 := n1_; have GW101 := n2_; have GE101 := n3_; clear n0_ n1_ n2_ n3_; clear hb hbox hg; have hcz9_0 : w8.cell? ⟨gb101, 0, none⟩ = some (.int .i64 a0_0) := (blk_cell BK101.out 0).trans rfl; have hcz9_1 : w8.cell? ⟨gb101, 1, none⟩ = some (.int .i64 a0_1) := (blk_cell BK101.out 1).trans rfl; have hcz9_2 : w8.cell? ⟨gb101, 2, none⟩ = some (.slice A0_2 l0_2.length c0_2) := (blk_cell BK101.out 2).trans rfl; have hcz9_3 : w8.cell? ⟨gb101, 3, none⟩ = some (.string a0_3) := (blk_cell BK101.out 3).trans rfl; have hfz9_0 := blk_frozen BK101.out 0; have hfz9_1 := blk_frozen BK101.out 1; have hfz9_2 := blk_frozen BK101.out 2; have hfz9_3 := blk_frozen BK101.out 3) | ((with_reducible refine gate_callee (f := 128) rfl ?_); refine goesL_ (some 8) rfl rfl Try.func128 (by kernel_rfl) rfl #[.slice A0_2 l0_2.length c0_2, .int .i64 a1] rfl (by (try simp only [List.map_toArray, List.map_cons, List.map_nil]); first | done | rfl | (simp only [List.length_drop, List.length_take]; rfl)) ?_; (with_reducible refine (laws_szRegS.calls _ _ l0_2 a1 t102 _ ?side1 ?side2 A3.out).mono ?_); (case side1 => repeat (first | exact (Kd.C_below HR0_2.out HB.out) | (with_reducible refine Kd.C_alloc ?_ _) | (with_reducible refine Kd.C_drewN ?_ _) | (with_reducible refine Kd.C_drew ?_))); (case side2 => exact HC0_2.out); rintro e w' ⟨rfl, ⟨nd, rfl⟩⟩; refine ⟨_, rfl, ?_⟩))
      go_ret
      exact ⟨by first | rfl | (simp [errW_none, errW_some] <;> rfl) | (simp [*, errW_none, errW_some] <;> rfl), by repeat (first | (with_reducible first | exact HB.out | apply below_alloc | apply pw_below_drewN | apply below_drew1 | refine below_set ?_ GE101.out) | exact HB.out)⟩
    · rw [if_neg c7] at H
      have c7b0 : decide ((wrap64 (t102 - (a0_3.size : Int))) < 0) = false := decide_eq_false c7
      clear c7
      obtain rfl := Option.some.inj H
      go_enter Try.func40, Try.ntmps40
      go_wp2_with (first | ((with_reducible refine gate_dst (N := 2) rfl ?_); refine box_event ?hg (N := 2) ?hd (cs := #[.int .i64 a0_0, .int .i64 a0_1, .slice A0_2 l0_2.length c0_2, .string a0_3]) (t := 65) ?hr ?_; (case hd => rfl); (case hg => rfl); (case hr => first | (go_simp; done) | (go_simp; rfl)); intro gb101 hg w10 hbox hb; have n0_ := Aside0.mk (below_step (by repeat (first | (with_reducible first | exact HB.out | apply below_alloc | apply pw_below_drewN | apply below_drew1) | exact HB.out)) hb); have n1_ := Aside0.mk (hbox); have n2_ := Aside0.mk ((by rw [hg]; exact (below_size (by repeat (first | (with_reducible first | exact HB.out | apply below_alloc | apply pw_below_drewN | apply below_drew1) | exact HB.out))) : w.heap.size ≤ gb101)); have n3_ := Aside0.mk ((by rw [hg]; exact (below_size (by repeat (first | (with_reducible first | exact HB.out | apply below_alloc | apply pw_below_drewN | apply below_drew1) | exact HB.out))) : w.heap.size ≤ gb101)); clear HB; have HB := n0_; have BK101 := n1_; have GW101 := n2_; have GE101 := n3_; clear n0_ n1_ n2_ n3_; clear hb hbox hg; have hcz11_0 : w10.cell? ⟨gb101, 0, none⟩ = some (.int .i64 a0_0) := (blk_cell BK101.out 0).trans rfl; have hcz11_1 : w10.cell? ⟨gb101, 1, none⟩ = some (.int .i64 a0_1) := (blk_cell BK101.out 1).trans rfl; have hcz11_2 : w10.cell? ⟨gb101, 2, none⟩ = some (.slice A0_2 l0_2.length c0_2) := (blk_cell BK101.out 2).trans rfl; have hcz11_3 : w10.cell? ⟨gb101, 3, none⟩ = some (.string a0_3) := (blk_cell BK101.out 3).trans rfl; have hfz11_0 := blk_frozen BK101.out 0; have hfz11_1 := blk_frozen BK101.out 1; have hfz11_2 := blk_frozen BK101.out 2; have hfz11_3 := blk_frozen BK101.out 3) | ((with_reducible refine gate_callee (f := 128) rfl ?_); refine goesL_ (some 8) rfl rfl Try.func128 (by kernel_rfl) rfl #[.slice A0_2 l0_2.length c0_2, .int .i64 a1] rfl (by (try simp only [List.map_toArray, List.map_cons, List.map_nil]); first | done | rfl | (simp only [List.length_drop, List.length_take]; rfl)) ?_; (with_reducible refine (laws_szRegS.calls _ _ l0_2 a1 t102 _ ?side1 ?side2 A3.out).mono ?_); (case side1 => repeat (first | exact (Kd.C_below HR0_2.out HB.out) | (with_reducible refine Kd.C_alloc ?_ _) | (with_reducible refine Kd.C_drewN ?_ _) | (with_reducible refine Kd.C_drew ?_))); (case side2 => exact HC0_2.out); rintro e w' ⟨rfl, ⟨nd, rfl⟩⟩; refine ⟨_, rfl, ?_⟩))
      go_ret
      exact ⟨by first | rfl | (simp [errW_none, errW_some] <;> rfl) | (simp [*, errW_none, errW_some] <;> rfl), by repeat (first | (with_reducible first | exact HB.out | apply below_alloc | apply pw_below_drewN | apply below_drew1 | refine below_set ?_ GE101.out) | exact HB.out)⟩

end Go.Proofs.Ytjheiahfhknakaa.G
/- What the functions on single mails compute: sizes, the copy from the statement's mail, what two mails come to by the reference and by the program (one and the same), that a mail equals itself, that its marks are held. Conditions: rows of fewer than 2^40 registers, texts of fewer than 2^47 bytes. -/
namespace Go.Proofs.Ytjheiahfhknakaa.Plain
open Go.RowKit Go.Proofs.YtjheiahfhknakaaW.PrintWords Go.Proofs.Ytjheiahfhknakaa.G
set_option linter.unusedVariables false
set_option linter.unusedSimpArgs false

theorem szRegS (l : List S179) (hl : l.length ≤ 140737488351232) (n : Int) (h0 : 0 ≤ n) (h1 : n ≤ 1048576) : ∃ r, laws_szRegS.f l n = some r ∧ r ≤ n ∧ (0 ≤ r → l.length ≤ n) := by
  have hw : wrap64 (n - (l.length : Int)) = n - l.length := by unfold wrap64; omega
  unfold laws_szRegS.f
  rw [hw]
  split
  · exact ⟨_, rfl, by omega, by omega⟩
  · exact ⟨_, rfl, by omega, by omega⟩
theorem szMail (m : S65) (hl : m.f2.length ≤ 140737488351232) (hs : m.f3.size ≤ 140737488351232) (n : Int) (h0 : 0 ≤ n) (h1 : n ≤ 1048576) :
    ∃ r, laws_szMail.f m.f0 m.f1 m.f2 m.f3 n = some r ∧ r ≤ n ∧ (0 ≤ r → (m.f2.length : Int) ≤ n ∧ (m.f3.size : Int) ≤ n) := by
  obtain ⟨r, e, h2, h3⟩ := szRegS m.f2 hl n h0 h1
  unfold laws_szMail.f
  rw [e]
  simp only [Option.bind_some]
  by_cases hr : r < 0
  · rw [if_pos hr]
    exact ⟨_, rfl, by omega, by omega⟩
  · rw [if_neg hr]
    have hw : wrap64 (r - (m.f3.size : Int)) = r - m.f3.size := by unfold wrap64; omega
    rw [hw]
    have := h3 (by omega)
    split
    · exact ⟨_, rfl, by omega, by omega⟩
    · exact ⟨_, rfl, by omega, by omega⟩
/-- The statement's mail as the program's. -/
def cvMail (m : S65) : S69 := ⟨m.f0, m.f1, m.f2.map cvReg, m.f3⟩
theorem toMail (m : S65) (hl : m.f2.length ≤ 1099511627776) : Ev (fun k => laws_toMail.f k m.f0 m.f1 m.f2 m.f3) ((cvMail m).f0, (cvMail m).f1, (cvMail m).f2, (cvMail m).f3) :=
  Ev.bind (toRegS m.f2 hl) (Ev.now _)
/-- What two mails come to. -/
def joinM (a b : S69) : S69 := if a.f0 = b.f0 then ⟨a.f0, mx a.f1 b.f1, joinF a.f2 b.f2, smax a.f3 b.f3⟩ else a
theorem copyM (m : S69) (hl : m.f2.length ≤ 1099511627776) : impl_copyMail.f m.f0 m.f1 m.f2 m.f3 = some (m.f0, m.f1, m.f2, m.f3) ∧ spec_l05Copy.f m.f0 m.f1 m.f2 m.f3 = some (m.f0, m.f1, m.f2, m.f3) := by
  constructor
  · unfold impl_copyMail.f impl_copyRegs.f
    simp only [Option.bind_some, List.length_nil, Nat.zero_add, List.nil_append]
    rw [if_pos (by omega)]
    rfl
  · unfold spec_l05Copy.f spec_l04Copy.f
    simp only [Option.bind_some, List.length_nil, Nat.zero_add, List.nil_append]
    rw [if_pos (by omega)]
    rfl
theorem implJoinMail (a b : S69) (hl : a.f2.length ≤ 1099511627776) :
    Ev (fun k => impl_JoinMail.f k a.f0 a.f1 a.f2 a.f3 b.f0 b.f1 b.f2 b.f3) ((joinM a b).f0, (joinM a b).f1, (joinM a b).f2, (joinM a b).f3) := by
  unfold impl_JoinMail.f joinM
  by_cases h : a.f0 = b.f0
  · simp only [h, if_true]
    exact Ev.bind (implJoinFlags a.f2 b.f2 hl) (Ev.now _)
  · simp only [h, if_false, (copyM a hl).1, Option.bind_some]
    exact Ev.now _
theorem specJoinMail (a b : S69) (hl : a.f2.length ≤ 1099511627776) :
    Ev (fun k => spec_JoinMail.f k a.f0 a.f1 a.f2 a.f3 b.f0 b.f1 b.f2 b.f3) ((joinM a b).f0, (joinM a b).f1, (joinM a b).f2, (joinM a b).f3) := by
  unfold spec_JoinMail.f joinM
  simp only [(copyM a hl).2, Option.bind_some]
  by_cases h : a.f0 = b.f0
  · simp only [h, if_true]
    refine Ev.bind (specJoinFlags a.f2 b.f2 hl) ?_
    unfold smax mx
    by_cases h1 : b.f1 > a.f1
    · have h2 : a.f1 < b.f1 := h1
      by_cases h3 : Op.bytesLess a.f3.toList b.f3.toList = true
      · simp only [h1, h2, h3, if_true]; exact Ev.now _
      · simp only [h1, h2, h3, if_true, if_false]; exact Ev.now _
    · have h2 : ¬ a.f1 < b.f1 := h1
      by_cases h3 : Op.bytesLess a.f3.toList b.f3.toList = true
      · simp only [h1, h2, h3, if_true, if_false]; exact Ev.now _
      · simp only [h1, h2, h3, if_false]; exact Ev.now _
  · simp only [h, if_false]
    exact Ev.now _
theorem joinM_flags (a b : S69) : (joinM a b).f2.length ≤ a.f2.length := by
  unfold joinM
  split
  · rw [joinF_length]; omega
  · exact Nat.le_refl _
theorem eqMail (m : S69) (hl : m.f2.length ≤ 1099511627776) : Ev (fun k => laws_eqMail.f k m.f0 m.f1 m.f2 m.f3 m.f0 m.f1 m.f2 m.f3) true := by
  unfold laws_eqMail.f
  simp only [if_true]
  refine Ev.bind (eqRegS_self m.f2 hl) ?_
  simp only [if_true]
  exact Ev.now _


theorem heldMail (m : S69) (c : Int) (h0 : 0 ≤ c) (h1 : c + 3 * m.f2.length ≤ 4611686018427387904) : Ev (fun k => laws_heldMail.f k (mMail c m).f0 (mMail c m).f1 (mMail c m).f2 (mMail c m).f3 c) (c + 3 * m.f2.length) := by
  unfold laws_heldMail.f
  refine Ev.bind (heldRegS m.f2 c h0 h1) ?_
  simp only [show ¬ (c + 3 * (m.f2.length : Int) < 0) from by omega, if_false]
  exact Ev.now _
end Go.Proofs.Ytjheiahfhknakaa.Plain
/- The walk of FnExactJoinMail: it returns true and changes nothing that was there. Conditions: the arguments can be read, and take fewer than 2^47 bytes each. -/
namespace Go.Proofs.Ytjheiahfhknakaa.G
open Go.RowKit Go.Proofs.YtjheiahfhknakaaW.PrintWords Go.Proofs.YtjheiahfhknakaaW.PrintLast Go.Proofs.YtjheiahfhknakaaW.PrintMore Go.Proofs.Ytjheiahfhknakaa.Plain
set_option linter.unusedVariables false
set_option linter.unusedSimpArgs false

set_option maxRecDepth 100000 in
set_option maxHeartbeats 40000000 in
theorem laws_FnExactJoinMail.walk (a b : S65) (A0 : Option Addr) (c0 : Nat) (A1 : Option Addr) (c1 : Nat) (w : World) (ha : Kd.C k179 w A0 a.f2.length a.f2) (hca : a.f2.length ≤ c0) (hb : Kd.C k179 w A1 b.f2.length b.f2) (hcb : b.f2.length ≤ c1)
    (la : a.f2.length ≤ 1048576) (lb : b.f2.length ≤ 1048576) (r1 r2 : Int) (s1 : laws_szMail.f a.f0 a.f1 a.f2 a.f3 1048576 = some r1) (p1 : 0 ≤ r1) (s2 : laws_szMail.f b.f0 b.f1 b.f2 b.f3 r1 = some r2) (p2 : 0 ≤ r2) :
    Calls Try.prog 7 #[.agg #[.int .i64 a.f0, .int .i64 a.f1, .slice A0 a.f2.length c0, .string a.f3], .agg #[.int .i64 b.f0, .int .i64 b.f1, .slice A1 b.f2.length c1, .string b.f3]] w fun e w' => e = .returned (.bool true) ∧ Below w.heap.size w w' := by
  have HA := Aside0.mk ha
  have HCA := Aside0.mk hca
  have HB := Aside0.mk hb
  have HCB := Aside0.mk hcb
  have S1 := Aside0.mk s1
  have S2 := Aside0.mk s2
  obtain ⟨ka, hta⟩ := (toMail a (by omega)).rounds
  obtain ⟨kb, htb⟩ := (toMail b (by omega)).rounds
  obtain ⟨ks, hsj⟩ := (specJoinMail (cvMail a) (cvMail b) (by simp [cvMail]; omega)).rounds
  obtain ⟨ki, hij⟩ := (implJoinMail (cvMail a) (cvMail b) (by simp [cvMail]; omega)).rounds
  obtain ⟨ke, heq⟩ := (Plain.eqMail (joinM (cvMail a) (cvMail b)) (Nat.le_trans (joinM_flags _ _) (by simp [cvMail]; omega))).rounds
  have EQ := Aside0.mk heq
  obtain ⟨kea, hea⟩ := (Plain.eqMail (cvMail a) (by simp [cvMail]; omega)).rounds
  have EQA := Aside0.mk hea
  obtain ⟨keb, heb⟩ := (Plain.eqMail (cvMail b) (by simp [cvMail]; omega)).rounds
  have EQB := Aside0.mk heb
  have lxa : (cvMail a).f2.length ≤ 1048576 := by simp [cvMail]; omega
  have lxb : (cvMail b).f2.length ≤ 1048576 := by simp [cvMail]; omega
  have lxj : (joinM (cvMail a) (cvMail b)).f2.length ≤ 1048576 := Nat.le_trans (joinM_flags _ _) lxa
  obtain ⟨kh, hhd⟩ := (Plain.heldMail (joinM (cvMail a) (cvMail b)) 1 (by omega) (by omega)).rounds
  have HD := Aside0.mk hhd
  clear hea heb hhd
  clear heq
  have TA := Aside0.mk hta
  have TB := Aside0.mk htb
  have SJ := Aside0.mk hsj
  have IJ := Aside0.mk hij
  have d1 : decide (r1 < 0) = false := by simp; omega
  have d2 : decide (r2 < 0) = false := by simp; omega
  clear ha hca hb hcb s1 s2 hta htb hsj hij
  go_enter Try.func7, Try.ntmps7
  go_wp2_with fail
  refine (laws_szMail.calls _ _ _ _ a.f2 _ _ r1 _ (Kd.C_below HA.out (below_alloc (below_alloc (Below.refl _ _) _) _)) HCA.out S1.out).mono ?_
  rintro e w1 ⟨rfl, hd1⟩
  have BL1 := Aside0.mk (below_then ((Below.refl w.heap.size w).alloc (Nat.le_refl _) (.cells #[.int .i64 a.f0, .int .i64 a.f1, .slice A0 a.f2.length c0, .string a.f3] 65) |>.alloc (by simp) (.cells #[.int .i64 b.f0, .int .i64 b.f1, .slice A1 b.f2.length c1, .string b.f3] 65)) (by simp; omega) hd1)
  have GA := Aside0.mk (blk_below (g := w.heap.size) (o := .cells #[.int .i64 a.f0, .int .i64 a.f1, .slice A0 a.f2.length c0, .string a.f3] 65 (0, 0)) (by refine blk_alloc ?_ _; exact heap_alloc_new w _) hd1)
  have GB := Aside0.mk (blk_below (g := w.heap.size + 1) (o := .cells #[.int .i64 b.f0, .int .i64 b.f1, .slice A1 b.f2.length c1, .string b.f3] 65 (0, 0)) (by simpa using heap_alloc_new (w.alloc _) _) hd1)
  clear hd1
  have hb0 : w1.cell? ⟨w.heap.size + 1, 0, none⟩ = some (.int .i64 b.f0) := (blk_cell GB.out 0).trans rfl
  have hb1 : w1.cell? ⟨w.heap.size + 1, 1, none⟩ = some (.int .i64 b.f1) := (blk_cell GB.out 1).trans rfl
  have hb2 : w1.cell? ⟨w.heap.size + 1, 2, none⟩ = some (.slice A1 b.f2.length c1) := (blk_cell GB.out 2).trans rfl
  have hb3 : w1.cell? ⟨w.heap.size + 1, 3, none⟩ = some (.string b.f3) := (blk_cell GB.out 3).trans rfl
  go_wp2_with fail
  refine (laws_szMail.calls _ _ _ _ b.f2 _ _ r2 _ (Kd.C_below HB.out BL1.out) HCB.out S2.out).mono ?_
  rintro e w2 ⟨rfl, hd2⟩
  have BL2 := Aside0.mk (below_then BL1.out BL1.out.size hd2)
  have GA2 := Aside0.mk (blk_below GA.out hd2)
  have GB2 := Aside0.mk (blk_below GB.out hd2)
  have hga : w.heap.size < w2.heap.size := blk_lt GA2.out
  clear hb0 hb1 hb2 hb3 hd2 BL1 GA GB
  go_upto_region 8 with (fail)
  generalize w.heap.size + 1 = gb at GB2 ⊢
  obtain ⟨ga, hgae⟩ : ∃ ga, ga = w.heap.size := ⟨_, rfl⟩
  rw [← hgae] at GA2 hga ⊢
  have HGA := Aside0.mk hgae
  clear hgae
  generalize cvMail a = xa at *
  generalize cvMail b = xb at *
  generalize joinM xa xb = xj at *
  have BL := BL2; have GA := GA2; have GB := GB2; clear BL2 GA2 GB2
  obtain ⟨n_0, e_⟩ : ∃ n_, n_ = w2.heap.size := ⟨_, rfl⟩
  have oga : ga < n_0 := by rw [e_]; exact hga
  have ogb : gb < n_0 := by rw [e_]; exact blk_lt GB.out
  have ow0 : w.heap.size ≤ n_0 := by rw [e_]; exact BL.out.size
  have SZ := Aside0.mk (Nat.le_of_eq e_)
  clear e_ hga HGA
  have q0 : w2.cell? ⟨ga, 0, none⟩ = some (.int .i64 a.f0) := (blk_cell GA.out 0).trans rfl
  have q1 : w2.cell? ⟨ga, 1, none⟩ = some (.int .i64 a.f1) := (blk_cell GA.out 1).trans rfl
  have q2 : w2.cell? ⟨ga, 2, none⟩ = some (.slice A0 a.f2.length c0) := (blk_cell GA.out 2).trans rfl
  have q3 : w2.cell? ⟨ga, 3, none⟩ = some (.string a.f3) := (blk_cell GA.out 3).trans rfl
  have p0 : w2.cell? ⟨gb, 0, none⟩ = some (.int .i64 b.f0) := (blk_cell GB.out 0).trans rfl
  have p1 : w2.cell? ⟨gb, 1, none⟩ = some (.int .i64 b.f1) := (blk_cell GB.out 1).trans rfl
  have p2 : w2.cell? ⟨gb, 2, none⟩ = some (.slice A1 b.f2.length c1) := (blk_cell GB.out 2).trans rfl
  have p3 : w2.cell? ⟨gb, 3, none⟩ = some (.string b.f3) := (blk_cell GB.out 3).trans rfl
  have B2 := Aside0.mk (Below.refl w2.heap.size w2)
  go_cut [6] (fun s_ wx => ∃ g : Nat, s_ = .pointer (some ⟨g, 0, none⟩) ∧ Aside0 (VarAt k69 69 wx g w2.heap.size wx.heap.size xj) ∧ Aside0 (Below w2.heap.size w2 wx))
  case first =>
    try clear VW
    try clear VG
    try clear VH
    try clear HD
    try clear EQ
    try clear EQA
    try clear EQB
    try clear dk
    try clear dh
    try clear S1
    try clear S2
    try clear SZ
    try clear hcut
    try clear IJ
    go_region_held3 (fun w' => w'.cell? ⟨ga, 0, none⟩ = some (.int .i64 a.f0) ∧ w'.cell? ⟨ga, 1, none⟩ = some (.int .i64 a.f1) ∧ w'.cell? ⟨ga, 2, none⟩ = some (.slice A0 a.f2.length c0) ∧ w'.cell? ⟨ga, 3, none⟩ = some (.string a.f3) ∧ w'.cell? ⟨gb, 0, none⟩ = some (.int .i64 b.f0) ∧ w'.cell? ⟨gb, 1, none⟩ = some (.int .i64 b.f1) ∧ w'.cell? ⟨gb, 2, none⟩ = some (.slice A1 b.f2.length c1) ∧ w'.cell? ⟨gb, 3, none⟩ = some (.string b.f3)) (first | exact ⟨pw_cell_below (by (with_reducible repeat (first | exact B2.out | apply below_alloc | refine below_set ?_ GE.out | apply below_drew | apply pw_below_drewN))) q0, pw_cell_below (by (with_reducible repeat (first | exact B2.out | apply below_alloc | refine below_set ?_ GE.out | apply below_drew | apply pw_below_drewN))) q1, pw_cell_below (by (with_reducible repeat (first | exact B2.out | apply below_alloc | refine below_set ?_ GE.out | apply below_drew | apply pw_below_drewN))) q2, pw_cell_below (by (with_reducible repeat (first | exact B2.out | apply below_alloc | refine below_set ?_ GE.out | apply below_drew | apply pw_below_drewN))) q3, pw_cell_below (by (with_reducible repeat (first | exact B2.out | apply below_alloc | refine below_set ?_ GE.out | apply below_drew | apply pw_below_drewN))) p0, pw_cell_below (by (with_reducible repeat (first | exact B2.out | apply below_alloc | refine below_set ?_ GE.out | apply below_drew | apply pw_below_drewN))) p1, pw_cell_below (by (with_reducible repeat (first | exact B2.out | apply below_alloc | refine below_set ?_ GE.out | apply below_drew | apply pw_below_drewN))) p2, pw_cell_below (by (with_reducible repeat (first | exact B2.out | apply below_alloc | refine below_set ?_ GE.out | apply below_drew | apply pw_below_drewN))) p3⟩ | go_keep)
      (first | (go_at_call_of 42 (Value.agg #[.int .i64 a.f0, .int .i64 a.f1, .slice A0 a.f2.length c0, .string a.f3]); refine (laws_toMail.calls ka _ _ _ _ a.f2 _ _ _ _ _ _ (Kd.C_below (Kd.C_below HA.out BL.out) (by (with_reducible repeat (first | exact B2.out | apply below_alloc | refine below_set ?_ GE.out | apply below_drew | apply pw_below_drewN)))) HCA.out TA.out).mono ?_; rintro e wa_1 ⟨va_, rfl, hR_, hb_⟩; (try (have t_ := RA.out; clear t_; have nz_ := Aside0.mk (Kd.R_below (by (with_reducible repeat (first | exact RA.out | apply Kd.R_alloc | apply Kd.R_drew | apply Kd.R_drewN))) hb_); clear RA; have RA := nz_; clear nz_)); (try (have t_ := RB.out; clear t_; have nz_ := Aside0.mk (Kd.R_below (by (with_reducible repeat (first | exact RB.out | apply Kd.R_alloc | apply Kd.R_drew | apply Kd.R_drewN))) hb_); clear RB; have RB := nz_; clear nz_)); (try (have t_ := GZ.out; clear t_; have nz_ := Aside0.mk (blk_below (by first | (with_reducible exact GZ.out) | (with_reducible exact blk_drew GZ.out) | (with_reducible exact blk_drewN GZ.out _) | (with_reducible exact blk_alloc GZ.out _) | (with_reducible exact blk_drew (blk_alloc GZ.out _)) | (with_reducible exact blk_alloc (blk_drew GZ.out) _)) hb_); clear GZ; have GZ := nz_; clear nz_)); (try ((first | (have t_ : (∃ n_ w_ o_ w1_, Below n_ (World.alloc w_ o_) w1_) := ⟨_, _, _, _, by with_reducible exact hb_⟩; clear t_; have GZ := Aside0.mk (blk_below (o := .cells #[.int .i64 0, .int .i64 0, .slice none 0 0, .string ⟨#[]⟩] 69 (0, 0)) (heap_alloc_new _ _) hb_)) | (have t_ : (∃ n_ w_ o_ w1_, Below n_ (World.drew (World.alloc w_ o_)) w1_) := ⟨_, _, _, _, by with_reducible exact hb_⟩; clear t_; have GZ := Aside0.mk (blk_below (o := .cells #[.int .i64 0, .int .i64 0, .slice none 0 0, .string ⟨#[]⟩] 69 (0, 0)) (blk_drew (heap_alloc_new _ _)) hb_)) | (have t_ : (∃ n_ w_ o_ m_ w1_, Below n_ (World.drewN (World.alloc w_ o_) m_) w1_) := ⟨_, _, _, _, _, by with_reducible exact hb_⟩; clear t_; have GZ := Aside0.mk (blk_below (o := .cells #[.int .i64 0, .int .i64 0, .slice none 0 0, .string ⟨#[]⟩] 69 (0, 0)) (blk_drewN (heap_alloc_new _ _) _) hb_))); have GE := Aside0.mk B2.out.size)); have n0_ := Aside0.mk (below_then (by (with_reducible repeat (first | exact B2.out | apply below_alloc | refine below_set ?_ GE.out | apply below_drew | apply pw_below_drewN))) ((by (with_reducible repeat (first | exact B2.out | apply below_alloc | refine below_set ?_ GE.out | apply below_drew | apply pw_below_drewN))) : Below w2.heap.size w2 _).size hb_); clear B2; have B2 := n0_; clear n0_; have RA := Aside0.mk hR_; clear hR_ hb_) | (go_at_call_of 42 (Value.agg #[.int .i64 b.f0, .int .i64 b.f1, .slice A1 b.f2.length c1, .string b.f3]); refine (laws_toMail.calls kb _ _ _ _ b.f2 _ _ _ _ _ _ (Kd.C_below (Kd.C_below HB.out BL.out) (by (with_reducible repeat (first | exact B2.out | apply below_alloc | refine below_set ?_ GE.out | apply below_drew | apply pw_below_drewN)))) HCB.out TB.out).mono ?_; rintro e wb_2 ⟨vb_, rfl, hR_, hb_⟩; (try (have t_ := RA.out; clear t_; have nz_ := Aside0.mk (Kd.R_below (by (with_reducible repeat (first | exact RA.out | apply Kd.R_alloc | apply Kd.R_drew | apply Kd.R_drewN))) hb_); clear RA; have RA := nz_; clear nz_)); (try (have t_ := RB.out; clear t_; have nz_ := Aside0.mk (Kd.R_below (by (with_reducible repeat (first | exact RB.out | apply Kd.R_alloc | apply Kd.R_drew | apply Kd.R_drewN))) hb_); clear RB; have RB := nz_; clear nz_)); (try (have t_ := GZ.out; clear t_; have nz_ := Aside0.mk (blk_below (by first | (with_reducible exact GZ.out) | (with_reducible exact blk_drew GZ.out) | (with_reducible exact blk_drewN GZ.out _) | (with_reducible exact blk_alloc GZ.out _) | (with_reducible exact blk_drew (blk_alloc GZ.out _)) | (with_reducible exact blk_alloc (blk_drew GZ.out) _)) hb_); clear GZ; have GZ := nz_; clear nz_)); (try ((first | (have t_ : (∃ n_ w_ o_ w1_, Below n_ (World.alloc w_ o_) w1_) := ⟨_, _, _, _, by with_reducible exact hb_⟩; clear t_; have GZ := Aside0.mk (blk_below (o := .cells #[.int .i64 0, .int .i64 0, .slice none 0 0, .string ⟨#[]⟩] 69 (0, 0)) (heap_alloc_new _ _) hb_)) | (have t_ : (∃ n_ w_ o_ w1_, Below n_ (World.drew (World.alloc w_ o_)) w1_) := ⟨_, _, _, _, by with_reducible exact hb_⟩; clear t_; have GZ := Aside0.mk (blk_below (o := .cells #[.int .i64 0, .int .i64 0, .slice none 0 0, .string ⟨#[]⟩] 69 (0, 0)) (blk_drew (heap_alloc_new _ _)) hb_)) | (have t_ : (∃ n_ w_ o_ m_ w1_, Below n_ (World.drewN (World.alloc w_ o_) m_) w1_) := ⟨_, _, _, _, _, by with_reducible exact hb_⟩; clear t_; have GZ := Aside0.mk (blk_below (o := .cells #[.int .i64 0, .int .i64 0, .slice none 0 0, .string ⟨#[]⟩] 69 (0, 0)) (blk_drewN (heap_alloc_new _ _) _) hb_))); have GE := Aside0.mk B2.out.size)); have n0_ := Aside0.mk (below_then (by (with_reducible repeat (first | exact B2.out | apply below_alloc | refine below_set ?_ GE.out | apply below_drew | apply pw_below_drewN))) ((by (with_reducible repeat (first | exact B2.out | apply below_alloc | refine below_set ?_ GE.out | apply below_drew | apply pw_below_drewN))) : Below w2.heap.size w2 _).size hb_); clear B2; have B2 := n0_; clear n0_; have RB := Aside0.mk hR_; clear hR_ hb_) | (go_at_call 41; obtain ⟨A2_, c2_, rfl, l2_, C2_⟩ := Kd.R_reads RA.out; obtain ⟨A3_, c3_, rfl, l3_, C3_⟩ := Kd.R_reads RB.out; refine (spec_JoinMail.calls ks _ _ _ _ xa.f2 _ _ _ _ _ xb.f2 _ _ _ _ _ _ (Kd.C_below C2_ (by (with_reducible repeat (first | exact Below.refl _ _ | apply below_alloc | apply below_drew | apply pw_below_drewN)))) l2_ (Kd.C_below C3_ (by (with_reducible repeat (first | exact Below.refl _ _ | apply below_alloc | apply below_drew | apply pw_below_drewN)))) l3_ SJ.out).mono ?_; rintro e wc_3 ⟨vc_, rfl, hR_, hb_⟩; obtain ⟨Ac_, cc_, rfl⟩ := Kd.R_slice hR_; (try (have t_ := GZ.out; clear t_; have nz_ := Aside0.mk (blk_below (by first | (with_reducible exact GZ.out) | (with_reducible exact blk_drew GZ.out) | (with_reducible exact blk_drewN GZ.out _) | (with_reducible exact blk_alloc GZ.out _) | (with_reducible exact blk_drew (blk_alloc GZ.out _)) | (with_reducible exact blk_alloc (blk_drew GZ.out) _)) hb_); clear GZ; have GZ := nz_; clear nz_)); (try ((first | (have t_ : (∃ n_ w_ o_ w1_, Below n_ (World.alloc w_ o_) w1_) := ⟨_, _, _, _, by with_reducible exact hb_⟩; clear t_; have GZ := Aside0.mk (blk_below (o := .cells #[.int .i64 0, .int .i64 0, .slice none 0 0, .string ⟨#[]⟩] 69 (0, 0)) (heap_alloc_new _ _) hb_)) | (have t_ : (∃ n_ w_ o_ w1_, Below n_ (World.drew (World.alloc w_ o_)) w1_) := ⟨_, _, _, _, by with_reducible exact hb_⟩; clear t_; have GZ := Aside0.mk (blk_below (o := .cells #[.int .i64 0, .int .i64 0, .slice none 0 0, .string ⟨#[]⟩] 69 (0, 0)) (blk_drew (heap_alloc_new _ _)) hb_)) | (have t_ : (∃ n_ w_ o_ m_ w1_, Below n_ (World.drewN (World.alloc w_ o_) m_) w1_) := ⟨_, _, _, _, _, by with_reducible exact hb_⟩; clear t_; have GZ := Aside0.mk (blk_below (o := .cells #[.int .i64 0, .int .i64 0, .slice none 0 0, .string ⟨#[]⟩] 69 (0, 0)) (blk_drewN (heap_alloc_new _ _) _) hb_))); have GE := Aside0.mk B2.out.size)); have RC := Aside0.mk (Kd.R_lower hR_ ((by (with_reducible repeat (first | exact B2.out | apply below_alloc | refine below_set ?_ GE.out | apply below_drew | apply pw_below_drewN))) : Below w2.heap.size w2 _).size); have n0_ := Aside0.mk (below_then (by (with_reducible repeat (first | exact B2.out | apply below_alloc | refine below_set ?_ GE.out | apply below_drew | apply pw_below_drewN))) ((by (with_reducible repeat (first | exact B2.out | apply below_alloc | refine below_set ?_ GE.out | apply below_drew | apply pw_below_drewN))) : Below w2.heap.size w2 _).size hb_); clear B2; have B2 := n0_; clear n0_; clear hR_ hb_ C2_ C3_; (try (have z0_ : wc_3.cell? ⟨_, 0, none⟩ = some (.int .i64 0) := (blk_cell GZ.out 0).trans rfl; have y0_ := blk_frozen GZ.out 0; have z1_ : wc_3.cell? ⟨_, 1, none⟩ = some (.int .i64 0) := (blk_cell GZ.out 1).trans rfl; have y1_ := blk_frozen GZ.out 1; have z2_ : wc_3.cell? ⟨_, 2, none⟩ = some (.slice none 0 0) := (blk_cell GZ.out 2).trans rfl; have y2_ := blk_frozen GZ.out 2; have z3_ : wc_3.cell? ⟨_, 3, none⟩ = some (.string ⟨#[]⟩) := (blk_cell GZ.out 3).trans rfl; have y3_ := blk_frozen GZ.out 3))))
    all_goals (go_wp2_with fail; go_meet; first | (have t_ := GZ.out; clear t_; exact ⟨_, rfl, ⟨VarAt.setMail GZ.out RC.out GE.out⟩, ⟨below_set (below_set (below_set (below_set B2.out GE.out) GE.out) GE.out) GE.out⟩⟩) | exact ⟨_, rfl, ⟨VarAt.newMail2 RC.out B2.out.size⟩, ⟨below_alloc B2.out _⟩⟩)
  case rest =>
    obtain ⟨g6, rfl, V_, hb_⟩ := hcut
    have hb2_ := hb_.out
    clear q0 q1 q2 q3
    clear p0 p1 p2 p3
    clear hb_ B2
    have V2_ := Aside0.mk (V_.out.lower SZ.out (Nat.le_refl _) (Nat.le_refl _)); clear V_
    have n_ := Aside0.mk (Nat.le_trans SZ.out (hb2_).size); clear SZ; have SZ := n_; clear n_
    have n_ := Aside0.mk (below_then BL.out BL.out.size (hb2_)); clear BL; have BL := n_; clear n_
    have n_ := Aside0.mk (blk_below GA.out (hb2_)); clear GA; have GA := n_; clear n_
    have n_ := Aside0.mk (blk_below GB.out (hb2_)); clear GB; have GB := n_; clear n_
    clear hb2_
    obtain ⟨n_1, e_⟩ : ∃ n_, n_ = wc.heap.size := ⟨_, rfl⟩
    rw [← e_] at V2_
    have n_ := Aside0.mk (Nat.le_of_eq e_); clear SZ; have SZ := n_; clear n_
    clear e_
    obtain ⟨o1_g6, o2_g6⟩ : n_0 ≤ g6 ∧ g6 < n_1 := ⟨V2_.out.1, V2_.out.2.1⟩
    have VW := V2_; clear V2_
    have q0 : wc.cell? ⟨ga, 0, none⟩ = some (.int .i64 a.f0) := (blk_cell GA.out 0).trans rfl
    have q1 : wc.cell? ⟨ga, 1, none⟩ = some (.int .i64 a.f1) := (blk_cell GA.out 1).trans rfl
    have q2 : wc.cell? ⟨ga, 2, none⟩ = some (.slice A0 a.f2.length c0) := (blk_cell GA.out 2).trans rfl
    have q3 : wc.cell? ⟨ga, 3, none⟩ = some (.string a.f3) := (blk_cell GA.out 3).trans rfl
    go_wp2_with fail
    refine (laws_toMail.calls ka _ _ _ _ a.f2 _ _ _ _ _ _ (Kd.C_below HA.out BL.out) HCA.out TA.out).mono ?_
    rintro e w_4 ⟨v_, rfl, hR_, hb_⟩
    obtain ⟨Ar_, cr_, rfl⟩ := Kd.R_slice hR_
    have V_ := Aside0.mk ((VarAt.newMail2 (m := xa) hR_ hb_.size).lower SZ.out (Nat.le_refl _) (Nat.le_refl _))
    have hb2_ := below_alloc hb_ (.cells #[.int .i64 xa.f0, .int .i64 xa.f1, .slice Ar_ xa.f2.length cr_, .string xa.f3] 69)
    clear hR_ hb_
    go_upto_region 10 with (fail)
    clear q0 q1 q2 q3
    have n_ := Aside0.mk (Nat.le_trans SZ.out (hb2_).size); clear SZ; have SZ := n_; clear n_
    have n_ := Aside0.mk (below_then BL.out BL.out.size (hb2_)); clear BL; have BL := n_; clear n_
    have n_ := Aside0.mk (blk_below GA.out (hb2_)); clear GA; have GA := n_; clear n_
    have n_ := Aside0.mk (blk_below GB.out (hb2_)); clear GB; have GB := n_; clear n_
    have n_ := Aside0.mk (VarAt.below VW.out (hb2_)); clear VW; have VW := n_; clear n_
    clear hb2_
    generalize hw_ : w_4.alloc (.cells #[.int .i64 xa.f0, .int .i64 xa.f1, .slice Ar_ xa.f2.length cr_, .string xa.f3] 69) = w_5 at *
    clear hw_
    generalize w_4.heap.size = g7 at V_ ⊢
    obtain ⟨n_2, e_⟩ : ∃ n_, n_ = w_5.heap.size := ⟨_, rfl⟩
    rw [← e_] at V_
    have n_ := Aside0.mk (Nat.le_of_eq e_); clear SZ; have SZ := n_; clear n_
    clear e_
    have o_g7 : n_1 ≤ g7 ∧ g7 < n_2 := ⟨V_.out.1, V_.out.2.1⟩
    obtain ⟨o1_g7, o2_g7⟩ := o_g7
    have VX := V_; clear V_
    have q0 : w_5.cell? ⟨gb, 0, none⟩ = some (.int .i64 b.f0) := (blk_cell GB.out 0).trans rfl
    have q1 : w_5.cell? ⟨gb, 1, none⟩ = some (.int .i64 b.f1) := (blk_cell GB.out 1).trans rfl
    have q2 : w_5.cell? ⟨gb, 2, none⟩ = some (.slice A1 b.f2.length c1) := (blk_cell GB.out 2).trans rfl
    have q3 : w_5.cell? ⟨gb, 3, none⟩ = some (.string b.f3) := (blk_cell GB.out 3).trans rfl
    go_wp2_with fail
    refine (laws_toMail.calls kb _ _ _ _ b.f2 _ _ _ _ _ _ (Kd.C_below HB.out BL.out) HCB.out TB.out).mono ?_
    rintro e w_6 ⟨v_, rfl, hR_, hb_⟩
    obtain ⟨Ar_, cr_, rfl⟩ := Kd.R_slice hR_
    have V_ := Aside0.mk ((VarAt.newMail2 (m := xb) hR_ hb_.size).lower SZ.out (Nat.le_refl _) (Nat.le_refl _))
    have hb2_ := below_alloc hb_ (.cells #[.int .i64 xb.f0, .int .i64 xb.f1, .slice Ar_ xb.f2.length cr_, .string xb.f3] 69)
    clear hR_ hb_
    go_upto_region 11 with (fail)
    clear q0 q1 q2 q3
    have n_ := Aside0.mk (Nat.le_trans SZ.out (hb2_).size); clear SZ; have SZ := n_; clear n_
    have n_ := Aside0.mk (below_then BL.out BL.out.size (hb2_)); clear BL; have BL := n_; clear n_
    have n_ := Aside0.mk (blk_below GA.out (hb2_)); clear GA; have GA := n_; clear n_
    have n_ := Aside0.mk (blk_below GB.out (hb2_)); clear GB; have GB := n_; clear n_
    have n_ := Aside0.mk (VarAt.below VW.out (hb2_)); clear VW; have VW := n_; clear n_
    have n_ := Aside0.mk (VarAt.below VX.out (hb2_)); clear VX; have VX := n_; clear n_
    clear hb2_
    generalize hw_ : w_6.alloc (.cells #[.int .i64 xb.f0, .int .i64 xb.f1, .slice Ar_ xb.f2.length cr_, .string xb.f3] 69) = w_7 at *
    clear hw_
    generalize w_6.heap.size = g8 at V_ ⊢
    obtain ⟨n_3, e_⟩ : ∃ n_, n_ = w_7.heap.size := ⟨_, rfl⟩
    rw [← e_] at V_
    have n_ := Aside0.mk (Nat.le_of_eq e_); clear SZ; have SZ := n_; clear n_
    clear e_
    have o_g8 : n_2 ≤ g8 ∧ g8 < n_3 := ⟨V_.out.1, V_.out.2.1⟩
    obtain ⟨o1_g8, o2_g8⟩ := o_g8
    have VY := V_; clear V_
    obtain ⟨Aq, cq, bq, Rq, Cq, lq⟩ := VX.out.mail
    have q0 : w_7.cell? ⟨g7, 0, none⟩ = some (.int .i64 xa.f0) := (blk_cell bq 0).trans rfl
    have q1 : w_7.cell? ⟨g7, 1, none⟩ = some (.int .i64 xa.f1) := (blk_cell bq 1).trans rfl
    have q2 : w_7.cell? ⟨g7, 2, none⟩ = some (.slice Aq xa.f2.length cq) := (blk_cell bq 2).trans rfl
    have q3 : w_7.cell? ⟨g7, 3, none⟩ = some (.string xa.f3) := (blk_cell bq 3).trans rfl
    have Hbq := Aside0.mk bq; clear bq
    have HRq := Aside0.mk Rq; clear Rq
    have HCq := Aside0.mk Cq; clear Cq
    have Hlq := Aside0.mk lq; clear lq
    obtain ⟨Ap, cp, bp, Rp, Cp, lp⟩ := VY.out.mail
    have p0 : w_7.cell? ⟨g8, 0, none⟩ = some (.int .i64 xb.f0) := (blk_cell bp 0).trans rfl
    have p1 : w_7.cell? ⟨g8, 1, none⟩ = some (.int .i64 xb.f1) := (blk_cell bp 1).trans rfl
    have p2 : w_7.cell? ⟨g8, 2, none⟩ = some (.slice Ap xb.f2.length cp) := (blk_cell bp 2).trans rfl
    have p3 : w_7.cell? ⟨g8, 3, none⟩ = some (.string xb.f3) := (blk_cell bp 3).trans rfl
    have Hbp := Aside0.mk bp; clear bp
    have HRp := Aside0.mk Rp; clear Rp
    have HCp := Aside0.mk Cp; clear Cp
    have Hlp := Aside0.mk lp; clear lp
    go_wp2_with fail
    refine (impl_JoinMail.calls ki _ _ _ _ xa.f2 _ _ _ _ _ xb.f2 _ _ _ _ _ _ HCq.out Hlq.out HCp.out Hlp.out IJ.out).mono ?_
    rintro e w_8 ⟨v_, rfl, hR_, hb_⟩
    obtain ⟨Ar_, cr_, rfl⟩ := Kd.R_slice hR_
    have V_ := Aside0.mk ((VarAt.newMail2 (m := xj) hR_ hb_.size).lower SZ.out (Nat.le_refl _) (Nat.le_refl _))
    have hb2_ := below_alloc hb_ (.cells #[.int .i64 xj.f0, .int .i64 xj.f1, .slice Ar_ xj.f2.length cr_, .string xj.f3] 69)
    clear hR_ hb_
    go_upto_region 12 with (fail)
    clear q0 q1 q2 q3 Hbq HRq HCq Hlq
    clear p0 p1 p2 p3 Hbp HRp HCp Hlp
    have n_ := Aside0.mk (Nat.le_trans SZ.out (hb2_).size); clear SZ; have SZ := n_; clear n_
    have n_ := Aside0.mk (below_then BL.out BL.out.size (hb2_)); clear BL; have BL := n_; clear n_
    have n_ := Aside0.mk (blk_below GA.out (hb2_)); clear GA; have GA := n_; clear n_
    have n_ := Aside0.mk (blk_below GB.out (hb2_)); clear GB; have GB := n_; clear n_
    have n_ := Aside0.mk (VarAt.below VW.out (hb2_)); clear VW; have VW := n_; clear n_
    have n_ := Aside0.mk (VarAt.below VX.out (hb2_)); clear VX; have VX := n_; clear n_
    have n_ := Aside0.mk (VarAt.below VY.out (hb2_)); clear VY; have VY := n_; clear n_
    clear hb2_
    generalize hw_ : w_8.alloc (.cells #[.int .i64 xj.f0, .int .i64 xj.f1, .slice Ar_ xj.f2.length cr_, .string xj.f3] 69) = w_9 at *
    clear hw_
    generalize w_8.heap.size = g9 at V_ ⊢
    obtain ⟨n_4, e_⟩ : ∃ n_, n_ = w_9.heap.size := ⟨_, rfl⟩
    rw [← e_] at V_
    have n_ := Aside0.mk (Nat.le_of_eq e_); clear SZ; have SZ := n_; clear n_
    clear e_
    have o_g9 : n_3 ≤ g9 ∧ g9 < n_4 := ⟨V_.out.1, V_.out.2.1⟩
    obtain ⟨o1_g9, o2_g9⟩ := o_g9
    have VG := V_; clear V_
    obtain ⟨Aq, cq, bq, Rq, Cq, lq⟩ := VG.out.mail
    have q0 : w_9.cell? ⟨g9, 0, none⟩ = some (.int .i64 xj.f0) := (blk_cell bq 0).trans rfl
    have q1 : w_9.cell? ⟨g9, 1, none⟩ = some (.int .i64 xj.f1) := (blk_cell bq 1).trans rfl
    have q2 : w_9.cell? ⟨g9, 2, none⟩ = some (.slice Aq xj.f2.length cq) := (blk_cell bq 2).trans rfl
    have q3 : w_9.cell? ⟨g9, 3, none⟩ = some (.string xj.f3) := (blk_cell bq 3).trans rfl
    have Hbq := Aside0.mk bq; clear bq
    have HRq := Aside0.mk Rq; clear Rq
    have HCq := Aside0.mk Cq; clear Cq
    have Hlq := Aside0.mk lq; clear lq
    obtain ⟨Ap, cp, bp, Rp, Cp, lp⟩ := VW.out.mail
    have p0 : w_9.cell? ⟨g6, 0, none⟩ = some (.int .i64 xj.f0) := (blk_cell bp 0).trans rfl
    have p1 : w_9.cell? ⟨g6, 1, none⟩ = some (.int .i64 xj.f1) := (blk_cell bp 1).trans rfl
    have p2 : w_9.cell? ⟨g6, 2, none⟩ = some (.slice Ap xj.f2.length cp) := (blk_cell bp 2).trans rfl
    have p3 : w_9.cell? ⟨g6, 3, none⟩ = some (.string xj.f3) := (blk_cell bp 3).trans rfl
    have Hbp := Aside0.mk bp; clear bp
    have HRp := Aside0.mk Rp; clear Rp
    have HCp := Aside0.mk Cp; clear Cp
    have Hlp := Aside0.mk lp; clear lp
    go_wp2_with fail
    refine (laws_eqMail.calls ke _ _ _ _ xj.f2 _ _ _ _ _ xj.f2 _ _ _ HCq.out Hlq.out HCp.out Hlp.out EQ.out).mono ?_
    rintro e w_10 ⟨rfl, hb_⟩
    clear q0 q1 q2 q3 Hbq HRq HCq Hlq
    clear p0 p1 p2 p3 Hbp HRp HCp Hlp
    have n_ := Aside0.mk (Nat.le_trans SZ.out (hb_).size); clear SZ; have SZ := n_; clear n_
    have n_ := Aside0.mk (below_then BL.out BL.out.size (hb_)); clear BL; have BL := n_; clear n_
    have n_ := Aside0.mk (blk_below GA.out (hb_)); clear GA; have GA := n_; clear n_
    have n_ := Aside0.mk (blk_below GB.out (hb_)); clear GB; have GB := n_; clear n_
    have n_ := Aside0.mk (VarAt.below VW.out (hb_)); clear VW; have VW := n_; clear n_
    have n_ := Aside0.mk (VarAt.below VX.out (hb_)); clear VX; have VX := n_; clear n_
    have n_ := Aside0.mk (VarAt.below VY.out (hb_)); clear VY; have VY := n_; clear n_
    have n_ := Aside0.mk (VarAt.below VG.out (hb_)); clear VG; have VG := n_; clear n_
    clear hb_
    go_upto_region 14 with (fail)
    obtain ⟨Aq, cq, bq, Rq, Cq, lq⟩ := VX.out.mail
    have q0 : w_10.cell? ⟨g7, 0, none⟩ = some (.int .i64 xa.f0) := (blk_cell bq 0).trans rfl
    have q1 : w_10.cell? ⟨g7, 1, none⟩ = some (.int .i64 xa.f1) := (blk_cell bq 1).trans rfl
    have q2 : w_10.cell? ⟨g7, 2, none⟩ = some (.slice Aq xa.f2.length cq) := (blk_cell bq 2).trans rfl
    have q3 : w_10.cell? ⟨g7, 3, none⟩ = some (.string xa.f3) := (blk_cell bq 3).trans rfl
    have Hbq := Aside0.mk bq; clear bq
    have HRq := Aside0.mk Rq; clear Rq
    have HCq := Aside0.mk Cq; clear Cq
    have Hlq := Aside0.mk lq; clear lq
    have p0 : w_10.cell? ⟨ga, 0, none⟩ = some (.int .i64 a.f0) := (blk_cell GA.out 0).trans rfl
    have p1 : w_10.cell? ⟨ga, 1, none⟩ = some (.int .i64 a.f1) := (blk_cell GA.out 1).trans rfl
    have p2 : w_10.cell? ⟨ga, 2, none⟩ = some (.slice A0 a.f2.length c0) := (blk_cell GA.out 2).trans rfl
    have p3 : w_10.cell? ⟨ga, 3, none⟩ = some (.string a.f3) := (blk_cell GA.out 3).trans rfl
    have B2 := Aside0.mk (Below.refl w_10.heap.size w_10)
    go_region_held3 (fun w' => w'.cell? ⟨g7, 0, none⟩ = some (.int .i64 xa.f0) ∧ w'.cell? ⟨g7, 1, none⟩ = some (.int .i64 xa.f1) ∧ w'.cell? ⟨g7, 2, none⟩ = some (.slice Aq xa.f2.length cq) ∧ w'.cell? ⟨g7, 3, none⟩ = some (.string xa.f3) ∧ w'.cell? ⟨ga, 0, none⟩ = some (.int .i64 a.f0) ∧ w'.cell? ⟨ga, 1, none⟩ = some (.int .i64 a.f1) ∧ w'.cell? ⟨ga, 2, none⟩ = some (.slice A0 a.f2.length c0) ∧ w'.cell? ⟨ga, 3, none⟩ = some (.string a.f3))
      (first | exact ⟨pw_cell_below (by (with_reducible repeat (first | exact B2.out | apply below_alloc | refine below_set ?_ GE.out | apply below_drew | apply pw_below_drewN))) q0, pw_cell_below (by (with_reducible repeat (first | exact B2.out | apply below_alloc | refine below_set ?_ GE.out | apply below_drew | apply pw_below_drewN))) q1, pw_cell_below (by (with_reducible repeat (first | exact B2.out | apply below_alloc | refine below_set ?_ GE.out | apply below_drew | apply pw_below_drewN))) q2, pw_cell_below (by (with_reducible repeat (first | exact B2.out | apply below_alloc | refine below_set ?_ GE.out | apply below_drew | apply pw_below_drewN))) q3, pw_cell_below (by (with_reducible repeat (first | exact B2.out | apply below_alloc | refine below_set ?_ GE.out | apply below_drew | apply pw_below_drewN))) p0, pw_cell_below (by (with_reducible repeat (first | exact B2.out | apply below_alloc | refine below_set ?_ GE.out | apply below_drew | apply pw_below_drewN))) p1, pw_cell_below (by (with_reducible repeat (first | exact B2.out | apply below_alloc | refine below_set ?_ GE.out | apply below_drew | apply pw_below_drewN))) p2, pw_cell_below (by (with_reducible repeat (first | exact B2.out | apply below_alloc | refine below_set ?_ GE.out | apply below_drew | apply pw_below_drewN))) p3⟩ | go_keep)
      (first | (go_at_call 42; refine (laws_toMail.calls ka _ _ _ _ a.f2 _ _ _ _ _ _ (Kd.C_below (Kd.C_below HA.out BL.out) (by (with_reducible repeat (first | exact B2.out | apply below_alloc | refine below_set ?_ GE.out | apply below_drew | apply pw_below_drewN)))) HCA.out TA.out).mono ?_; rintro e w_11 ⟨vz_, rfl, hR_, hb_⟩; obtain ⟨Az_, cz_, rfl, lz_, Cz_⟩ := Kd.R_reads hR_; have n0_ := Aside0.mk (below_then (by (with_reducible repeat (first | exact B2.out | apply below_alloc | refine below_set ?_ GE.out | apply below_drew | apply pw_below_drewN))) ((by (with_reducible repeat (first | exact B2.out | apply below_alloc | refine below_set ?_ GE.out | apply below_drew | apply pw_below_drewN))) : Below w_10.heap.size w_10 _).size hb_); clear B2; have B2 := n0_; clear n0_; have HZ := Aside0.mk Cz_; have LZ := Aside0.mk lz_; clear Cz_ lz_ hR_ hb_) | (go_at_call 44; refine (laws_eqMail.calls kea _ _ _ _ xa.f2 _ _ _ _ _ xa.f2 _ _ _ (Kd.C_below HCq.out (by (with_reducible repeat (first | exact B2.out | apply below_alloc | refine below_set ?_ GE.out | apply below_drew | apply pw_below_drewN)))) Hlq.out HZ.out LZ.out EQA.out).mono ?_; rintro e w_12 ⟨rfl, hb_⟩; have n0_ := Aside0.mk (below_then (by (with_reducible repeat (first | exact B2.out | apply below_alloc | refine below_set ?_ GE.out | apply below_drew | apply pw_below_drewN))) ((by (with_reducible repeat (first | exact B2.out | apply below_alloc | refine below_set ?_ GE.out | apply below_drew | apply pw_below_drewN))) : Below w_10.heap.size w_10 _).size hb_); clear B2; have B2 := n0_; clear n0_; clear hb_))
    clear q0 q1 q2 q3 Hbq HRq HCq Hlq
    clear p0 p1 p2 p3
    clear HZ LZ
    have hb_ := B2.out; clear B2
    have n_ := Aside0.mk (Nat.le_trans SZ.out (hb_).size); clear SZ; have SZ := n_; clear n_
    have n_ := Aside0.mk (below_then BL.out BL.out.size (hb_)); clear BL; have BL := n_; clear n_
    have n_ := Aside0.mk (blk_below GA.out (hb_)); clear GA; have GA := n_; clear n_
    have n_ := Aside0.mk (blk_below GB.out (hb_)); clear GB; have GB := n_; clear n_
    have n_ := Aside0.mk (VarAt.below VW.out (hb_)); clear VW; have VW := n_; clear n_
    have n_ := Aside0.mk (VarAt.below VX.out (hb_)); clear VX; have VX := n_; clear n_
    have n_ := Aside0.mk (VarAt.below VY.out (hb_)); clear VY; have VY := n_; clear n_
    have n_ := Aside0.mk (VarAt.below VG.out (hb_)); clear VG; have VG := n_; clear n_
    clear hb_
    go_upto_region 16 with (fail)
    obtain ⟨Aq, cq, bq, Rq, Cq, lq⟩ := VY.out.mail
    have q0 : w_12.cell? ⟨g8, 0, none⟩ = some (.int .i64 xb.f0) := (blk_cell bq 0).trans rfl
    have q1 : w_12.cell? ⟨g8, 1, none⟩ = some (.int .i64 xb.f1) := (blk_cell bq 1).trans rfl
    have q2 : w_12.cell? ⟨g8, 2, none⟩ = some (.slice Aq xb.f2.length cq) := (blk_cell bq 2).trans rfl
    have q3 : w_12.cell? ⟨g8, 3, none⟩ = some (.string xb.f3) := (blk_cell bq 3).trans rfl
    have Hbq := Aside0.mk bq; clear bq
    have HRq := Aside0.mk Rq; clear Rq
    have HCq := Aside0.mk Cq; clear Cq
    have Hlq := Aside0.mk lq; clear lq
    have p0 : w_12.cell? ⟨gb, 0, none⟩ = some (.int .i64 b.f0) := (blk_cell GB.out 0).trans rfl
    have p1 : w_12.cell? ⟨gb, 1, none⟩ = some (.int .i64 b.f1) := (blk_cell GB.out 1).trans rfl
    have p2 : w_12.cell? ⟨gb, 2, none⟩ = some (.slice A1 b.f2.length c1) := (blk_cell GB.out 2).trans rfl
    have p3 : w_12.cell? ⟨gb, 3, none⟩ = some (.string b.f3) := (blk_cell GB.out 3).trans rfl
    have B2 := Aside0.mk (Below.refl w_12.heap.size w_12)
    go_region_held3 (fun w' => w'.cell? ⟨g8, 0, none⟩ = some (.int .i64 xb.f0) ∧ w'.cell? ⟨g8, 1, none⟩ = some (.int .i64 xb.f1) ∧ w'.cell? ⟨g8, 2, none⟩ = some (.slice Aq xb.f2.length cq) ∧ w'.cell? ⟨g8, 3, none⟩ = some (.string xb.f3) ∧ w'.cell? ⟨gb, 0, none⟩ = some (.int .i64 b.f0) ∧ w'.cell? ⟨gb, 1, none⟩ = some (.int .i64 b.f1) ∧ w'.cell? ⟨gb, 2, none⟩ = some (.slice A1 b.f2.length c1) ∧ w'.cell? ⟨gb, 3, none⟩ = some (.string b.f3))
      (first | exact ⟨pw_cell_below (by (with_reducible repeat (first | exact B2.out | apply below_alloc | refine below_set ?_ GE.out | apply below_drew | apply pw_below_drewN))) q0, pw_cell_below (by (with_reducible repeat (first | exact B2.out | apply below_alloc | refine below_set ?_ GE.out | apply below_drew | apply pw_below_drewN))) q1, pw_cell_below (by (with_reducible repeat (first | exact B2.out | apply below_alloc | refine below_set ?_ GE.out | apply below_drew | apply pw_below_drewN))) q2, pw_cell_below (by (with_reducible repeat (first | exact B2.out | apply below_alloc | refine below_set ?_ GE.out | apply below_drew | apply pw_below_drewN))) q3, pw_cell_below (by (with_reducible repeat (first | exact B2.out | apply below_alloc | refine below_set ?_ GE.out | apply below_drew | apply pw_below_drewN))) p0, pw_cell_below (by (with_reducible repeat (first | exact B2.out | apply below_alloc | refine below_set ?_ GE.out | apply below_drew | apply pw_below_drewN))) p1, pw_cell_below (by (with_reducible repeat (first | exact B2.out | apply below_alloc | refine below_set ?_ GE.out | apply below_drew | apply pw_below_drewN))) p2, pw_cell_below (by (with_reducible repeat (first | exact B2.out | apply below_alloc | refine below_set ?_ GE.out | apply below_drew | apply pw_below_drewN))) p3⟩ | go_keep)
      (first | (go_at_call 42; refine (laws_toMail.calls kb _ _ _ _ b.f2 _ _ _ _ _ _ (Kd.C_below (Kd.C_below HB.out BL.out) (by (with_reducible repeat (first | exact B2.out | apply below_alloc | refine below_set ?_ GE.out | apply below_drew | apply pw_below_drewN)))) HCB.out TB.out).mono ?_; rintro e w_13 ⟨vz_, rfl, hR_, hb_⟩; obtain ⟨Az_, cz_, rfl, lz_, Cz_⟩ := Kd.R_reads hR_; have n0_ := Aside0.mk (below_then (by (with_reducible repeat (first | exact B2.out | apply below_alloc | refine below_set ?_ GE.out | apply below_drew | apply pw_below_drewN))) ((by (with_reducible repeat (first | exact B2.out | apply below_alloc | refine below_set ?_ GE.out | apply below_drew | apply pw_below_drewN))) : Below w_12.heap.size w_12 _).size hb_); clear B2; have B2 := n0_; clear n0_; have HZ := Aside0.mk Cz_; have LZ := Aside0.mk lz_; clear Cz_ lz_ hR_ hb_) | (go_at_call 44; refine (laws_eqMail.calls keb _ _ _ _ xb.f2 _ _ _ _ _ xb.f2 _ _ _ (Kd.C_below HCq.out (by (with_reducible repeat (first | exact B2.out | apply below_alloc | refine below_set ?_ GE.out | apply below_drew | apply pw_below_drewN)))) Hlq.out HZ.out LZ.out EQB.out).mono ?_; rintro e w_14 ⟨rfl, hb_⟩; have n0_ := Aside0.mk (below_then (by (with_reducible repeat (first | exact B2.out | apply below_alloc | refine below_set ?_ GE.out | apply below_drew | apply pw_below_drewN))) ((by (with_reducible repeat (first | exact B2.out | apply below_alloc | refine below_set ?_ GE.out | apply below_drew | apply pw_below_drewN))) : Below w_12.heap.size w_12 _).size hb_); clear B2; have B2 := n0_; clear n0_; clear hb_))
    clear q0 q1 q2 q3 Hbq HRq HCq Hlq
    clear p0 p1 p2 p3
    clear HZ LZ
    have hb_ := B2.out; clear B2
    have n_ := Aside0.mk (Nat.le_trans SZ.out (hb_).size); clear SZ; have SZ := n_; clear n_
    have n_ := Aside0.mk (below_then BL.out BL.out.size (hb_)); clear BL; have BL := n_; clear n_
    have n_ := Aside0.mk (blk_below GA.out (hb_)); clear GA; have GA := n_; clear n_
    have n_ := Aside0.mk (blk_below GB.out (hb_)); clear GB; have GB := n_; clear n_
    have n_ := Aside0.mk (VarAt.below VW.out (hb_)); clear VW; have VW := n_; clear n_
    have n_ := Aside0.mk (VarAt.below VX.out (hb_)); clear VX; have VX := n_; clear n_
    have n_ := Aside0.mk (VarAt.below VY.out (hb_)); clear VY; have VY := n_; clear n_
    have n_ := Aside0.mk (VarAt.below VG.out (hb_)); clear VG; have VG := n_; clear n_
    clear hb_
    go_upto_region 18 with (fail)
    obtain ⟨Aq, cq, bq, Rq, Cq, lq⟩ := VX.out.mail
    have q0 : w_14.cell? ⟨g7, 0, none⟩ = some (.int .i64 xa.f0) := (blk_cell bq 0).trans rfl
    have q1 : w_14.cell? ⟨g7, 1, none⟩ = some (.int .i64 xa.f1) := (blk_cell bq 1).trans rfl
    have q2 : w_14.cell? ⟨g7, 2, none⟩ = some (.slice Aq xa.f2.length cq) := (blk_cell bq 2).trans rfl
    have q3 : w_14.cell? ⟨g7, 3, none⟩ = some (.string xa.f3) := (blk_cell bq 3).trans rfl
    have Hbq := Aside0.mk bq; clear bq
    have HRq := Aside0.mk Rq; clear Rq
    have HCq := Aside0.mk Cq; clear Cq
    have Hlq := Aside0.mk lq; clear lq
    go_wp2_with fail
    refine (laws_markMail.calls _ _ _ _ _ _ xa.f2 (1) _ _ _ HRq.out (by omega) (by omega)).mono ?_
    rintro e w_15 ⟨rfl, hR_, hw_⟩
    have hin_ := mark_in HRq.out
    have n_ := Aside0.mk (Nat.le_trans SZ.out hw_.kept.1); clear SZ; have SZ := n_; clear n_
    have n_ := Aside0.mk (Wrote.below hw_ BL.out BL.out.size (fun k hk => by have := hin_ k hk; omega)); clear BL; have BL := n_; clear n_
    have n_ := Aside0.mk (blk_kept GA.out hw_.kept (fun hk => by have := hin_ _ hk; omega)); clear GA; have GA := n_; clear n_
    have n_ := Aside0.mk (blk_kept GB.out hw_.kept (fun hk => by have := hin_ _ hk; omega)); clear GB; have GB := n_; clear n_
    have n_ := Aside0.mk (VarAt.wrote VW.out hw_ (fun k h1 h2 hk => by have := hin_ k hk; omega)); clear VW; have VW := n_; clear n_
    have n_ := Aside0.mk (VarAt.wrote VY.out hw_ (fun k h1 h2 hk => by have := hin_ k hk; omega)); clear VY; have VY := n_; clear n_
    have n_ := Aside0.mk (VarAt.wrote VG.out hw_ (fun k h1 h2 hk => by have := hin_ k hk; omega)); clear VG; have VG := n_; clear n_
    clear hR_ hw_ hin_
    clear q0 q1 q2 q3 Hbq HRq HCq Hlq
    clear VX
    go_upto_region 20 with (fail)
    obtain ⟨Aq, cq, bq, Rq, Cq, lq⟩ := VY.out.mail
    have q0 : w_15.cell? ⟨g8, 0, none⟩ = some (.int .i64 xb.f0) := (blk_cell bq 0).trans rfl
    have q1 : w_15.cell? ⟨g8, 1, none⟩ = some (.int .i64 xb.f1) := (blk_cell bq 1).trans rfl
    have q2 : w_15.cell? ⟨g8, 2, none⟩ = some (.slice Aq xb.f2.length cq) := (blk_cell bq 2).trans rfl
    have q3 : w_15.cell? ⟨g8, 3, none⟩ = some (.string xb.f3) := (blk_cell bq 3).trans rfl
    have Hbq := Aside0.mk bq; clear bq
    have HRq := Aside0.mk Rq; clear Rq
    have HCq := Aside0.mk Cq; clear Cq
    have Hlq := Aside0.mk lq; clear lq
    go_wp2_with fail
    refine (laws_markMail.calls _ _ _ _ _ _ xb.f2 (1 + 3 * (xa.f2.length : Int)) _ _ _ HRq.out (by omega) (by omega)).mono ?_
    rintro e w_16 ⟨rfl, hR_, hw_⟩
    have hin_ := mark_in HRq.out
    have n_ := Aside0.mk (Nat.le_trans SZ.out hw_.kept.1); clear SZ; have SZ := n_; clear n_
    have n_ := Aside0.mk (Wrote.below hw_ BL.out BL.out.size (fun k hk => by have := hin_ k hk; omega)); clear BL; have BL := n_; clear n_
    have n_ := Aside0.mk (blk_kept GA.out hw_.kept (fun hk => by have := hin_ _ hk; omega)); clear GA; have GA := n_; clear n_
    have n_ := Aside0.mk (blk_kept GB.out hw_.kept (fun hk => by have := hin_ _ hk; omega)); clear GB; have GB := n_; clear n_
    have n_ := Aside0.mk (VarAt.wrote VW.out hw_ (fun k h1 h2 hk => by have := hin_ k hk; omega)); clear VW; have VW := n_; clear n_
    have n_ := Aside0.mk (VarAt.wrote VG.out hw_ (fun k h1 h2 hk => by have := hin_ k hk; omega)); clear VG; have VG := n_; clear n_
    clear hR_ hw_ hin_
    clear q0 q1 q2 q3 Hbq HRq HCq Hlq
    clear VY
    go_upto_region 21 with (fail)
    have dk : decide (1 + 3 * (xa.f2.length : Int) + 3 * (xb.f2.length : Int) < 0) = false := decide_eq_false (by omega)
    obtain ⟨Aq, cq, bq, Rq, Cq, lq⟩ := VG.out.mail
    have q0 : w_16.cell? ⟨g9, 0, none⟩ = some (.int .i64 xj.f0) := (blk_cell bq 0).trans rfl
    have q1 : w_16.cell? ⟨g9, 1, none⟩ = some (.int .i64 xj.f1) := (blk_cell bq 1).trans rfl
    have q2 : w_16.cell? ⟨g9, 2, none⟩ = some (.slice Aq xj.f2.length cq) := (blk_cell bq 2).trans rfl
    have q3 : w_16.cell? ⟨g9, 3, none⟩ = some (.string xj.f3) := (blk_cell bq 3).trans rfl
    have Hbq := Aside0.mk bq; clear bq
    have HRq := Aside0.mk Rq; clear Rq
    have HCq := Aside0.mk Cq; clear Cq
    have Hlq := Aside0.mk lq; clear lq
    obtain ⟨Ap, cp, bp, Rp, Cp, lp⟩ := VW.out.mail
    have p0 : w_16.cell? ⟨g6, 0, none⟩ = some (.int .i64 xj.f0) := (blk_cell bp 0).trans rfl
    have p1 : w_16.cell? ⟨g6, 1, none⟩ = some (.int .i64 xj.f1) := (blk_cell bp 1).trans rfl
    have p2 : w_16.cell? ⟨g6, 2, none⟩ = some (.slice Ap xj.f2.length cp) := (blk_cell bp 2).trans rfl
    have p3 : w_16.cell? ⟨g6, 3, none⟩ = some (.string xj.f3) := (blk_cell bp 3).trans rfl
    have Hbp := Aside0.mk bp; clear bp
    have HRp := Aside0.mk Rp; clear Rp
    have HCp := Aside0.mk Cp; clear Cp
    have Hlp := Aside0.mk lp; clear lp
    go_wp2_with fail
    refine (laws_eqMail.calls ke _ _ _ _ xj.f2 _ _ _ _ _ xj.f2 _ _ _ HCq.out Hlq.out HCp.out Hlp.out EQ.out).mono ?_
    rintro e w_17 ⟨rfl, hb_⟩
    clear q0 q1 q2 q3 Hbq HRq HCq Hlq
    clear p0 p1 p2 p3 Hbp HRp HCp Hlp
    have n_ := Aside0.mk (Nat.le_trans SZ.out (hb_).size); clear SZ; have SZ := n_; clear n_
    have n_ := Aside0.mk (below_then BL.out BL.out.size (hb_)); clear BL; have BL := n_; clear n_
    have n_ := Aside0.mk (blk_below GA.out (hb_)); clear GA; have GA := n_; clear n_
    have n_ := Aside0.mk (blk_below GB.out (hb_)); clear GB; have GB := n_; clear n_
    have n_ := Aside0.mk (VarAt.below VW.out (hb_)); clear VW; have VW := n_; clear n_
    have n_ := Aside0.mk (VarAt.below VG.out (hb_)); clear VG; have VG := n_; clear n_
    clear hb_
    go_upto_region 23 with (fail)
    clear dk
    obtain ⟨Aq, cq, bq, Rq, Cq, lq⟩ := VG.out.mail
    have q0 : w_17.cell? ⟨g9, 0, none⟩ = some (.int .i64 xj.f0) := (blk_cell bq 0).trans rfl
    have q1 : w_17.cell? ⟨g9, 1, none⟩ = some (.int .i64 xj.f1) := (blk_cell bq 1).trans rfl
    have q2 : w_17.cell? ⟨g9, 2, none⟩ = some (.slice Aq xj.f2.length cq) := (blk_cell bq 2).trans rfl
    have q3 : w_17.cell? ⟨g9, 3, none⟩ = some (.string xj.f3) := (blk_cell bq 3).trans rfl
    have Hbq := Aside0.mk bq; clear bq
    have HRq := Aside0.mk Rq; clear Rq
    have HCq := Aside0.mk Cq; clear Cq
    have Hlq := Aside0.mk lq; clear lq
    go_wp2_with fail
    refine (laws_markMail.calls _ _ _ _ _ _ xj.f2 (1) _ _ _ HRq.out (by omega) (by omega)).mono ?_
    rintro e w_18 ⟨rfl, hR_, hw_⟩
    have hin_ := mark_in HRq.out
    have n_ := Aside0.mk (Nat.le_trans SZ.out hw_.kept.1); clear SZ; have SZ := n_; clear n_
    have n_ := Aside0.mk (Wrote.below hw_ BL.out BL.out.size (fun k hk => by have := hin_ k hk; omega)); clear BL; have BL := n_; clear n_
    have n_ := Aside0.mk (blk_kept GA.out hw_.kept (fun hk => by have := hin_ _ hk; omega)); clear GA; have GA := n_; clear n_
    have n_ := Aside0.mk (blk_kept GB.out hw_.kept (fun hk => by have := hin_ _ hk; omega)); clear GB; have GB := n_; clear n_
    have n_ := Aside0.mk (VarAt.wrote VW.out hw_ (fun k h1 h2 hk => by have := hin_ k hk; omega)); clear VW; have VW := n_; clear n_
    have n_ := Aside0.mk (VarAt.markedMail VG.out Hbq.out HRq.out hR_ hw_); clear VG; have VG := n_; clear n_
    clear hR_ hw_ hin_
    clear q0 q1 q2 q3 Hbq HRq HCq Hlq
    go_upto_region 25 with (fail)
    obtain ⟨xm, e_⟩ : ∃ x_, x_ = mMail 1 xj := ⟨_, rfl⟩
    rw [← e_] at VG HD
    clear e_
    have dh : decide (1 + 3 * (xj.f2.length : Int) < 0) = false := decide_eq_false (by omega)
    obtain ⟨Aq, cq, bq, Rq, Cq, lq⟩ := VG.out.mail
    have q0 : w_18.cell? ⟨g9, 0, none⟩ = some (.int .i64 xm.f0) := (blk_cell bq 0).trans rfl
    have q1 : w_18.cell? ⟨g9, 1, none⟩ = some (.int .i64 xm.f1) := (blk_cell bq 1).trans rfl
    have q2 : w_18.cell? ⟨g9, 2, none⟩ = some (.slice Aq xm.f2.length cq) := (blk_cell bq 2).trans rfl
    have q3 : w_18.cell? ⟨g9, 3, none⟩ = some (.string xm.f3) := (blk_cell bq 3).trans rfl
    have Hbq := Aside0.mk bq; clear bq
    have HRq := Aside0.mk Rq; clear Rq
    have HCq := Aside0.mk Cq; clear Cq
    have Hlq := Aside0.mk lq; clear lq
    go_wp2_with fail
    refine (laws_heldMail.calls kh _ _ _ _ xm.f2 _ _ _ _ HCq.out Hlq.out HD.out).mono ?_
    rintro e w_19 ⟨rfl, hb_⟩
    clear q0 q1 q2 q3 Hbq HRq HCq Hlq
    have n_ := Aside0.mk (Nat.le_trans SZ.out (hb_).size); clear SZ; have SZ := n_; clear n_
    have n_ := Aside0.mk (below_then BL.out BL.out.size (hb_)); clear BL; have BL := n_; clear n_
    have n_ := Aside0.mk (blk_below GA.out (hb_)); clear GA; have GA := n_; clear n_
    have n_ := Aside0.mk (blk_below GB.out (hb_)); clear GB; have GB := n_; clear n_
    have n_ := Aside0.mk (VarAt.below VW.out (hb_)); clear VW; have VW := n_; clear n_
    have n_ := Aside0.mk (VarAt.below VG.out (hb_)); clear VG; have VG := n_; clear n_
    clear hb_
    go_upto_region 31 with (fail)
    have q0 : w_19.cell? ⟨ga, 0, none⟩ = some (.int .i64 a.f0) := (blk_cell GA.out 0).trans rfl
    have q1 : w_19.cell? ⟨ga, 1, none⟩ = some (.int .i64 a.f1) := (blk_cell GA.out 1).trans rfl
    have q2 : w_19.cell? ⟨ga, 2, none⟩ = some (.slice A0 a.f2.length c0) := (blk_cell GA.out 2).trans rfl
    have q3 : w_19.cell? ⟨ga, 3, none⟩ = some (.string a.f3) := (blk_cell GA.out 3).trans rfl
    have p0 : w_19.cell? ⟨gb, 0, none⟩ = some (.int .i64 b.f0) := (blk_cell GB.out 0).trans rfl
    have p1 : w_19.cell? ⟨gb, 1, none⟩ = some (.int .i64 b.f1) := (blk_cell GB.out 1).trans rfl
    have p2 : w_19.cell? ⟨gb, 2, none⟩ = some (.slice A1 b.f2.length c1) := (blk_cell GB.out 2).trans rfl
    have p3 : w_19.cell? ⟨gb, 3, none⟩ = some (.string b.f3) := (blk_cell GB.out 3).trans rfl
    have B2 := Aside0.mk (Below.refl w_19.heap.size w_19)
    go_cut [13] (fun s_ wx => ∃ g : Nat, s_ = .pointer (some ⟨g, 0, none⟩) ∧ Aside0 (VarAt k69 69 wx g w_19.heap.size wx.heap.size xj) ∧ Aside0 (Below w_19.heap.size w_19 wx))
    case first =>
      try clear VW
      try clear VG
      try clear VH
      try clear HD
      try clear EQ
      try clear EQA
      try clear EQB
      try clear dk
      try clear dh
      try clear S1
      try clear S2
      try clear SZ
      try clear hcut
      try clear SJ
      go_region_held3 (fun w' => w'.cell? ⟨ga, 0, none⟩ = some (.int .i64 a.f0) ∧ w'.cell? ⟨ga, 1, none⟩ = some (.int .i64 a.f1) ∧ w'.cell? ⟨ga, 2, none⟩ = some (.slice A0 a.f2.length c0) ∧ w'.cell? ⟨ga, 3, none⟩ = some (.string a.f3) ∧ w'.cell? ⟨gb, 0, none⟩ = some (.int .i64 b.f0) ∧ w'.cell? ⟨gb, 1, none⟩ = some (.int .i64 b.f1) ∧ w'.cell? ⟨gb, 2, none⟩ = some (.slice A1 b.f2.length c1) ∧ w'.cell? ⟨gb, 3, none⟩ = some (.string b.f3)) (first | exact ⟨pw_cell_below (by (with_reducible repeat (first | exact B2.out | apply below_alloc | refine below_set ?_ GE.out | apply below_drew | apply pw_below_drewN))) q0, pw_cell_below (by (with_reducible repeat (first | exact B2.out | apply below_alloc | refine below_set ?_ GE.out | apply below_drew | apply pw_below_drewN))) q1, pw_cell_below (by (with_reducible repeat (first | exact B2.out | apply below_alloc | refine below_set ?_ GE.out | apply below_drew | apply pw_below_drewN))) q2, pw_cell_below (by (with_reducible repeat (first | exact B2.out | apply below_alloc | refine below_set ?_ GE.out | apply below_drew | apply pw_below_drewN))) q3, pw_cell_below (by (with_reducible repeat (first | exact B2.out | apply below_alloc | refine below_set ?_ GE.out | apply below_drew | apply pw_below_drewN))) p0, pw_cell_below (by (with_reducible repeat (first | exact B2.out | apply below_alloc | refine below_set ?_ GE.out | apply below_drew | apply pw_below_drewN))) p1, pw_cell_below (by (with_reducible repeat (first | exact B2.out | apply below_alloc | refine below_set ?_ GE.out | apply below_drew | apply pw_below_drewN))) p2, pw_cell_below (by (with_reducible repeat (first | exact B2.out | apply below_alloc | refine below_set ?_ GE.out | apply below_drew | apply pw_below_drewN))) p3⟩ | go_keep)
        (first | (go_at_call_of 42 (Value.agg #[.int .i64 a.f0, .int .i64 a.f1, .slice A0 a.f2.length c0, .string a.f3]); refine (laws_toMail.calls ka _ _ _ _ a.f2 _ _ _ _ _ _ (Kd.C_below (Kd.C_below HA.out BL.out) (by (with_reducible repeat (first | exact B2.out | apply below_alloc | refine below_set ?_ GE.out | apply below_drew | apply pw_below_drewN)))) HCA.out TA.out).mono ?_; rintro e wa_20 ⟨va_, rfl, hR_, hb_⟩; (try (have t_ := RA.out; clear t_; have nz_ := Aside0.mk (Kd.R_below (by (with_reducible repeat (first | exact RA.out | apply Kd.R_alloc | apply Kd.R_drew | apply Kd.R_drewN))) hb_); clear RA; have RA := nz_; clear nz_)); (try (have t_ := RB.out; clear t_; have nz_ := Aside0.mk (Kd.R_below (by (with_reducible repeat (first | exact RB.out | apply Kd.R_alloc | apply Kd.R_drew | apply Kd.R_drewN))) hb_); clear RB; have RB := nz_; clear nz_)); (try (have t_ := GZ.out; clear t_; have nz_ := Aside0.mk (blk_below (by first | (with_reducible exact GZ.out) | (with_reducible exact blk_drew GZ.out) | (with_reducible exact blk_drewN GZ.out _) | (with_reducible exact blk_alloc GZ.out _) | (with_reducible exact blk_drew (blk_alloc GZ.out _)) | (with_reducible exact blk_alloc (blk_drew GZ.out) _)) hb_); clear GZ; have GZ := nz_; clear nz_)); (try ((first | (have t_ : (∃ n_ w_ o_ w1_, Below n_ (World.alloc w_ o_) w1_) := ⟨_, _, _, _, by with_reducible exact hb_⟩; clear t_; have GZ := Aside0.mk (blk_below (o := .cells #[.int .i64 0, .int .i64 0, .slice none 0 0, .string ⟨#[]⟩] 69 (0, 0)) (heap_alloc_new _ _) hb_)) | (have t_ : (∃ n_ w_ o_ w1_, Below n_ (World.drew (World.alloc w_ o_)) w1_) := ⟨_, _, _, _, by with_reducible exact hb_⟩; clear t_; have GZ := Aside0.mk (blk_below (o := .cells #[.int .i64 0, .int .i64 0, .slice none 0 0, .string ⟨#[]⟩] 69 (0, 0)) (blk_drew (heap_alloc_new _ _)) hb_)) | (have t_ : (∃ n_ w_ o_ m_ w1_, Below n_ (World.drewN (World.alloc w_ o_) m_) w1_) := ⟨_, _, _, _, _, by with_reducible exact hb_⟩; clear t_; have GZ := Aside0.mk (blk_below (o := .cells #[.int .i64 0, .int .i64 0, .slice none 0 0, .string ⟨#[]⟩] 69 (0, 0)) (blk_drewN (heap_alloc_new _ _) _) hb_))); have GE := Aside0.mk B2.out.size)); have n0_ := Aside0.mk (below_then (by (with_reducible repeat (first | exact B2.out | apply below_alloc | refine below_set ?_ GE.out | apply below_drew | apply pw_below_drewN))) ((by (with_reducible repeat (first | exact B2.out | apply below_alloc | refine below_set ?_ GE.out | apply below_drew | apply pw_below_drewN))) : Below w_19.heap.size w_19 _).size hb_); clear B2; have B2 := n0_; clear n0_; have RA := Aside0.mk hR_; clear hR_ hb_) | (go_at_call_of 42 (Value.agg #[.int .i64 b.f0, .int .i64 b.f1, .slice A1 b.f2.length c1, .string b.f3]); refine (laws_toMail.calls kb _ _ _ _ b.f2 _ _ _ _ _ _ (Kd.C_below (Kd.C_below HB.out BL.out) (by (with_reducible repeat (first | exact B2.out | apply below_alloc | refine below_set ?_ GE.out | apply below_drew | apply pw_below_drewN)))) HCB.out TB.out).mono ?_; rintro e wb_21 ⟨vb_, rfl, hR_, hb_⟩; (try (have t_ := RA.out; clear t_; have nz_ := Aside0.mk (Kd.R_below (by (with_reducible repeat (first | exact RA.out | apply Kd.R_alloc | apply Kd.R_drew | apply Kd.R_drewN))) hb_); clear RA; have RA := nz_; clear nz_)); (try (have t_ := RB.out; clear t_; have nz_ := Aside0.mk (Kd.R_below (by (with_reducible repeat (first | exact RB.out | apply Kd.R_alloc | apply Kd.R_drew | apply Kd.R_drewN))) hb_); clear RB; have RB := nz_; clear nz_)); (try (have t_ := GZ.out; clear t_; have nz_ := Aside0.mk (blk_below (by first | (with_reducible exact GZ.out) | (with_reducible exact blk_drew GZ.out) | (with_reducible exact blk_drewN GZ.out _) | (with_reducible exact blk_alloc GZ.out _) | (with_reducible exact blk_drew (blk_alloc GZ.out _)) | (with_reducible exact blk_alloc (blk_drew GZ.out) _)) hb_); clear GZ; have GZ := nz_; clear nz_)); (try ((first | (have t_ : (∃ n_ w_ o_ w1_, Below n_ (World.alloc w_ o_) w1_) := ⟨_, _, _, _, by with_reducible exact hb_⟩; clear t_; have GZ := Aside0.mk (blk_below (o := .cells #[.int .i64 0, .int .i64 0, .slice none 0 0, .string ⟨#[]⟩] 69 (0, 0)) (heap_alloc_new _ _) hb_)) | (have t_ : (∃ n_ w_ o_ w1_, Below n_ (World.drew (World.alloc w_ o_)) w1_) := ⟨_, _, _, _, by with_reducible exact hb_⟩; clear t_; have GZ := Aside0.mk (blk_below (o := .cells #[.int .i64 0, .int .i64 0, .slice none 0 0, .string ⟨#[]⟩] 69 (0, 0)) (blk_drew (heap_alloc_new _ _)) hb_)) | (have t_ : (∃ n_ w_ o_ m_ w1_, Below n_ (World.drewN (World.alloc w_ o_) m_) w1_) := ⟨_, _, _, _, _, by with_reducible exact hb_⟩; clear t_; have GZ := Aside0.mk (blk_below (o := .cells #[.int .i64 0, .int .i64 0, .slice none 0 0, .string ⟨#[]⟩] 69 (0, 0)) (blk_drewN (heap_alloc_new _ _) _) hb_))); have GE := Aside0.mk B2.out.size)); have n0_ := Aside0.mk (below_then (by (with_reducible repeat (first | exact B2.out | apply below_alloc | refine below_set ?_ GE.out | apply below_drew | apply pw_below_drewN))) ((by (with_reducible repeat (first | exact B2.out | apply below_alloc | refine below_set ?_ GE.out | apply below_drew | apply pw_below_drewN))) : Below w_19.heap.size w_19 _).size hb_); clear B2; have B2 := n0_; clear n0_; have RB := Aside0.mk hR_; clear hR_ hb_) | (go_at_call 43; obtain ⟨A2_, c2_, rfl, l2_, C2_⟩ := Kd.R_reads RA.out; obtain ⟨A3_, c3_, rfl, l3_, C3_⟩ := Kd.R_reads RB.out; refine (impl_JoinMail.calls ki _ _ _ _ xa.f2 _ _ _ _ _ xb.f2 _ _ _ _ _ _ (Kd.C_below C2_ (by (with_reducible repeat (first | exact Below.refl _ _ | apply below_alloc | apply below_drew | apply pw_below_drewN)))) l2_ (Kd.C_below C3_ (by (with_reducible repeat (first | exact Below.refl _ _ | apply below_alloc | apply below_drew | apply pw_below_drewN)))) l3_ IJ.out).mono ?_; rintro e wc_22 ⟨vc_, rfl, hR_, hb_⟩; obtain ⟨Ac_, cc_, rfl⟩ := Kd.R_slice hR_; (try (have t_ := GZ.out; clear t_; have nz_ := Aside0.mk (blk_below (by first | (with_reducible exact GZ.out) | (with_reducible exact blk_drew GZ.out) | (with_reducible exact blk_drewN GZ.out _) | (with_reducible exact blk_alloc GZ.out _) | (with_reducible exact blk_drew (blk_alloc GZ.out _)) | (with_reducible exact blk_alloc (blk_drew GZ.out) _)) hb_); clear GZ; have GZ := nz_; clear nz_)); (try ((first | (have t_ : (∃ n_ w_ o_ w1_, Below n_ (World.alloc w_ o_) w1_) := ⟨_, _, _, _, by with_reducible exact hb_⟩; clear t_; have GZ := Aside0.mk (blk_below (o := .cells #[.int .i64 0, .int .i64 0, .slice none 0 0, .string ⟨#[]⟩] 69 (0, 0)) (heap_alloc_new _ _) hb_)) | (have t_ : (∃ n_ w_ o_ w1_, Below n_ (World.drew (World.alloc w_ o_)) w1_) := ⟨_, _, _, _, by with_reducible exact hb_⟩; clear t_; have GZ := Aside0.mk (blk_below (o := .cells #[.int .i64 0, .int .i64 0, .slice none 0 0, .string ⟨#[]⟩] 69 (0, 0)) (blk_drew (heap_alloc_new _ _)) hb_)) | (have t_ : (∃ n_ w_ o_ m_ w1_, Below n_ (World.drewN (World.alloc w_ o_) m_) w1_) := ⟨_, _, _, _, _, by with_reducible exact hb_⟩; clear t_; have GZ := Aside0.mk (blk_below (o := .cells #[.int .i64 0, .int .i64 0, .slice none 0 0, .string ⟨#[]⟩] 69 (0, 0)) (blk_drewN (heap_alloc_new _ _) _) hb_))); have GE := Aside0.mk B2.out.size)); have RC := Aside0.mk (Kd.R_lower hR_ ((by (with_reducible repeat (first | exact B2.out | apply below_alloc | refine below_set ?_ GE.out | apply below_drew | apply pw_below_drewN))) : Below w_19.heap.size w_19 _).size); have n0_ := Aside0.mk (below_then (by (with_reducible repeat (first | exact B2.out | apply below_alloc | refine below_set ?_ GE.out | apply below_drew | apply pw_below_drewN))) ((by (with_reducible repeat (first | exact B2.out | apply below_alloc | refine below_set ?_ GE.out | apply below_drew | apply pw_below_drewN))) : Below w_19.heap.size w_19 _).size hb_); clear B2; have B2 := n0_; clear n0_; clear hR_ hb_ C2_ C3_; (try (have z0_ : wc_22.cell? ⟨_, 0, none⟩ = some (.int .i64 0) := (blk_cell GZ.out 0).trans rfl; have y0_ := blk_frozen GZ.out 0; have z1_ : wc_22.cell? ⟨_, 1, none⟩ = some (.int .i64 0) := (blk_cell GZ.out 1).trans rfl; have y1_ := blk_frozen GZ.out 1; have z2_ : wc_22.cell? ⟨_, 2, none⟩ = some (.slice none 0 0) := (blk_cell GZ.out 2).trans rfl; have y2_ := blk_frozen GZ.out 2; have z3_ : wc_22.cell? ⟨_, 3, none⟩ = some (.string ⟨#[]⟩) := (blk_cell GZ.out 3).trans rfl; have y3_ := blk_frozen GZ.out 3))))
      all_goals (go_wp2_with fail; go_meet; first | (have t_ := GZ.out; clear t_; exact ⟨_, rfl, ⟨VarAt.setMail GZ.out RC.out GE.out⟩, ⟨below_set (below_set (below_set (below_set B2.out GE.out) GE.out) GE.out) GE.out⟩⟩) | exact ⟨_, rfl, ⟨VarAt.newMail2 RC.out B2.out.size⟩, ⟨below_alloc B2.out _⟩⟩)
    case rest =>
      obtain ⟨g13, rfl, V_, hb_⟩ := hcut
      have hb2_ := hb_.out
      clear q0 q1 q2 q3
      clear p0 p1 p2 p3
      clear hb_ B2
      have V2_ := Aside0.mk (V_.out.lower SZ.out (Nat.le_refl _) (Nat.le_refl _)); clear V_
      have n_ := Aside0.mk (Nat.le_trans SZ.out (hb2_).size); clear SZ; have SZ := n_; clear n_
      have n_ := Aside0.mk (below_then BL.out BL.out.size (hb2_)); clear BL; have BL := n_; clear n_
      have n_ := Aside0.mk (blk_below GA.out (hb2_)); clear GA; have GA := n_; clear n_
      have n_ := Aside0.mk (blk_below GB.out (hb2_)); clear GB; have GB := n_; clear n_
      have n_ := Aside0.mk (VarAt.below VW.out (hb2_)); clear VW; have VW := n_; clear n_
      have n_ := Aside0.mk (VarAt.below VG.out (hb2_)); clear VG; have VG := n_; clear n_
      clear hb2_
      obtain ⟨n_5, e_⟩ : ∃ n_, n_ = wc.heap.size := ⟨_, rfl⟩
      rw [← e_] at V2_
      have n_ := Aside0.mk (Nat.le_of_eq e_); clear SZ; have SZ := n_; clear n_
      clear e_
      obtain ⟨o1_g13, o2_g13⟩ : n_4 ≤ g13 ∧ g13 < n_5 := ⟨V2_.out.1, V2_.out.2.1⟩
      have VH := V2_; clear V2_
      go_upto_region 32 with (fail)
      obtain ⟨Aq, cq, bq, Rq, Cq, lq⟩ := VH.out.mail
      have q0 : wc.cell? ⟨g13, 0, none⟩ = some (.int .i64 xj.f0) := (blk_cell bq 0).trans rfl
      have q1 : wc.cell? ⟨g13, 1, none⟩ = some (.int .i64 xj.f1) := (blk_cell bq 1).trans rfl
      have q2 : wc.cell? ⟨g13, 2, none⟩ = some (.slice Aq xj.f2.length cq) := (blk_cell bq 2).trans rfl
      have q3 : wc.cell? ⟨g13, 3, none⟩ = some (.string xj.f3) := (blk_cell bq 3).trans rfl
      have Hbq := Aside0.mk bq; clear bq
      have HRq := Aside0.mk Rq; clear Rq
      have HCq := Aside0.mk Cq; clear Cq
      have Hlq := Aside0.mk lq; clear lq
      obtain ⟨Ap, cp, bp, Rp, Cp, lp⟩ := VW.out.mail
      have p0 : wc.cell? ⟨g6, 0, none⟩ = some (.int .i64 xj.f0) := (blk_cell bp 0).trans rfl
      have p1 : wc.cell? ⟨g6, 1, none⟩ = some (.int .i64 xj.f1) := (blk_cell bp 1).trans rfl
      have p2 : wc.cell? ⟨g6, 2, none⟩ = some (.slice Ap xj.f2.length cp) := (blk_cell bp 2).trans rfl
      have p3 : wc.cell? ⟨g6, 3, none⟩ = some (.string xj.f3) := (blk_cell bp 3).trans rfl
      have Hbp := Aside0.mk bp; clear bp
      have HRp := Aside0.mk Rp; clear Rp
      have HCp := Aside0.mk Cp; clear Cp
      have Hlp := Aside0.mk lp; clear lp
      go_wp2_with fail
      refine (laws_eqMail.calls ke _ _ _ _ xj.f2 _ _ _ _ _ xj.f2 _ _ _ HCq.out Hlq.out HCp.out Hlp.out EQ.out).mono ?_
      rintro e w_23 ⟨rfl, hb_⟩
      clear q0 q1 q2 q3 Hbq HRq HCq Hlq
      clear p0 p1 p2 p3 Hbp HRp HCp Hlp
      have n_ := Aside0.mk (Nat.le_trans SZ.out (hb_).size); clear SZ; have SZ := n_; clear n_
      have n_ := Aside0.mk (below_then BL.out BL.out.size (hb_)); clear BL; have BL := n_; clear n_
      have n_ := Aside0.mk (blk_below GA.out (hb_)); clear GA; have GA := n_; clear n_
      have n_ := Aside0.mk (blk_below GB.out (hb_)); clear GB; have GB := n_; clear n_
      have n_ := Aside0.mk (VarAt.below VW.out (hb_)); clear VW; have VW := n_; clear n_
      have n_ := Aside0.mk (VarAt.below VG.out (hb_)); clear VG; have VG := n_; clear n_
      have n_ := Aside0.mk (VarAt.below VH.out (hb_)); clear VH; have VH := n_; clear n_
      clear hb_
      go_upto_region 34 with (fail)
      obtain ⟨Aq, cq, bq, Rq, Cq, lq⟩ := VG.out.mail
      have q0 : w_23.cell? ⟨g9, 0, none⟩ = some (.int .i64 xm.f0) := (blk_cell bq 0).trans rfl
      have q1 : w_23.cell? ⟨g9, 1, none⟩ = some (.int .i64 xm.f1) := (blk_cell bq 1).trans rfl
      have q2 : w_23.cell? ⟨g9, 2, none⟩ = some (.slice Aq xm.f2.length cq) := (blk_cell bq 2).trans rfl
      have q3 : w_23.cell? ⟨g9, 3, none⟩ = some (.string xm.f3) := (blk_cell bq 3).trans rfl
      have Hbq := Aside0.mk bq; clear bq
      have HRq := Aside0.mk Rq; clear Rq
      have HCq := Aside0.mk Cq; clear Cq
      have Hlq := Aside0.mk lq; clear lq
      go_wp2_with fail
      refine (laws_heldMail.calls kh _ _ _ _ xm.f2 _ _ _ _ HCq.out Hlq.out HD.out).mono ?_
      rintro e w_24 ⟨rfl, hb_⟩
      clear q0 q1 q2 q3 Hbq HRq HCq Hlq
      have n_ := Aside0.mk (Nat.le_trans SZ.out (hb_).size); clear SZ; have SZ := n_; clear n_
      have n_ := Aside0.mk (below_then BL.out BL.out.size (hb_)); clear BL; have BL := n_; clear n_
      have n_ := Aside0.mk (blk_below GA.out (hb_)); clear GA; have GA := n_; clear n_
      have n_ := Aside0.mk (blk_below GB.out (hb_)); clear GB; have GB := n_; clear n_
      have n_ := Aside0.mk (VarAt.below VW.out (hb_)); clear VW; have VW := n_; clear n_
      have n_ := Aside0.mk (VarAt.below VG.out (hb_)); clear VG; have VG := n_; clear n_
      have n_ := Aside0.mk (VarAt.below VH.out (hb_)); clear VH; have VH := n_; clear n_
      clear hb_
      go_wp2_with fail
      go_ret
      exact ⟨rfl, BL.out⟩
end Go.Proofs.Ytjheiahfhknakaa.G
/- An argument that can be read as data is read by a kind: whole numbers, texts, slices, structs in line. No condition. -/
namespace Go.Proofs.Ytjheiahfhknakaa.G
open Go.RowKit Go.Proofs.YtjheiahfhknakaaW.PrintWords Go.Proofs.YtjheiahfhknakaaW.PrintLast Go.Proofs.YtjheiahfhknakaaW.PrintMore
set_option linter.unusedVariables false

/-- What reads as data at type t reads by kind d, and Q holds of it. -/
def Opens (P : Program) {α : Type} (t : TypeId) (d : Kd α) (Q : α → Prop) : Prop :=
  ∀ (H : Type) (enc : TypeId × Value → H) (w : World) (base : Nat) (spare : Nat → Bool) (held : Bool) (fuel : Nat) (cs : List Value) (x : DataW H × List MemPlace), DataW.trod enc P w base spare held fuel t cs = some x → ∃ a, d.K w a cs ∧ Q a
theorem Opens.int {P : Program} {t : TypeId} {k : IntKind} (ht : P.underlying t = some (.int k)) : Opens P t (Kd.int k) (fun n => (Lit.int k n).wf = true) := by
  intro H enc w base spare held fuel cs x h
  obtain ⟨n, rfl, _, hw⟩ := DataW.trod_int ht h
  exact ⟨n, rfl, hw⟩
theorem Opens.string {P : Program} {t : TypeId} (ht : P.underlying t = some .string) : Opens P t Kd.string (fun s => s.size ≤ maxLen) := by
  intro H enc w base spare held fuel cs x h
  obtain ⟨s, rfl, _, hs⟩ := DataW.trod_string ht h
  exact ⟨s, rfl, hs⟩
theorem Opens.slice {P : Program} {t e : TypeId} {α : Type} [Inhabited α] {d : Kd α} {Q : α → Prop} (ht : P.underlying t = some (.slice e)) (hsz : P.cellsOf e = d.sz) (he : Opens P e d Q) (e' : Nat) : Opens P t (Kd.slice e' d) (fun xs => ∀ x ∈ xs, Q x) := by
  intro H enc w base spare held fuel cs x h
  rcases Deep.open_slice ht h with ⟨rfl, _⟩ | ⟨a, len, cap, m, n, D, Pl, rfl, hb, hl, hm, hmm, _, hel⟩
  · exact ⟨[], ⟨none, 0, rfl, Nat.le_refl _, rfl, by simp, fun hn => absurd hn (by simp)⟩, fun x hx => by cases hx⟩
  · have hlm : len ≤ m := by rw [hmm]; split <;> omega
    obtain ⟨f, hf⟩ := Deep.choose_lt (p := fun i (y : α) => ∃ c, w.cells? base (a.add (i * d.sz)) d.sz = some c ∧ d.K w y c ∧ Q y) (n := len) (fun i hi => by
      obtain ⟨c, h1, h2⟩ := hel i (by omega)
      obtain ⟨y, hy, hq⟩ := he H enc w base spare held n c _ h2
      rw [hsz] at h1
      exact ⟨y, c, h1, hy, hq⟩)
    have hlen : ((List.range len).map f).length = len := by simp
    refine ⟨(List.range len).map f, ⟨some a, cap, by rw [hlen], by rw [hlen]; exact hl, ?_⟩, ?_⟩
    · refine ⟨rfl, by rw [hlen]; unfold maxLen at hm; omega, fun hn => ⟨a, rfl, fun j p hj => ?_⟩⟩
      have hjl : j < len := by have := (List.getElem?_eq_some_iff.1 hj).1; omega
      have hp : p = f j := by
        rw [List.getElem?_map, List.getElem?_range hjl] at hj
        exact (Option.some.inj hj).symm
      subst hp
      obtain ⟨c, h1, h2, _⟩ := hf j hjl
      obtain ⟨_, h3, h4⟩ := World.cells?_some h1
      refine ⟨c, h3, h2, fun i u hu => ?_⟩
      have hi : i < d.sz := by have := (List.getElem?_eq_some_iff.1 hu).1; omega
      rw [← Deep.add_add, h4 i hi, hu]
    · intro x hx
      obtain ⟨i, hi, rfl⟩ := List.mem_map.1 hx
      obtain ⟨_, _, _, hq⟩ := hf i (List.mem_range.1 hi)
      exact hq
/-- Fields in line, from cell off on. -/
def OpensF (P : Program) {α : Type} (fs : List Field) (off : Nat) (d : Kd α) (Q : α → Prop) : Prop :=
  ∀ (H : Type) (enc : TypeId × Value → H) (w : World) (base : Nat) (spare : Nat → Bool) (held : Bool) (fuel : Nat) (cs : List Value),
    (∀ f ∈ fs, ∃ y, DataW.trod enc P w base spare held fuel f.type ((cs.drop f.offset).take (P.cellsOf f.type)) = some y) → cs.length = off + d.sz → ∃ a, d.K w a (cs.drop off) ∧ Q a
theorem OpensF.last {P : Program} {α : Type} {d : Kd α} {Q : α → Prop} {f : Field} (off : Nat) (ho : f.offset = off) (hs : P.cellsOf f.type = d.sz) (h : Opens P f.type d Q) : OpensF P [f] off d Q := by
  intro H enc w base spare held fuel cs hm hl
  obtain ⟨y, hy⟩ := hm f List.mem_cons_self
  obtain ⟨a, h1, h2⟩ := h H enc w base spare held fuel _ y hy
  rw [ho, hs, List.take_of_length_le (by rw [List.length_drop]; omega)] at h1
  exact ⟨a, h1, h2⟩
theorem OpensF.cons {P : Program} {α β : Type} {d : Kd α} {d' : Kd β} {Q : α → Prop} {Q' : β → Prop} {f : Field} {fs : List Field} (off : Nat) (ho : f.offset = off) (hs : P.cellsOf f.type = d.sz) (h : Opens P f.type d Q) (h' : OpensF P fs (off + d.sz) d' Q') :
    OpensF P (f :: fs) off (Kd.pair d d') (fun x => Q x.1 ∧ Q' x.2) := by
  intro H enc w base spare held fuel cs hm hl
  have hl2 : cs.length = off + d.sz + d'.sz := by rw [hl]; exact (Nat.add_assoc _ _ _).symm
  obtain ⟨y, hy⟩ := hm f List.mem_cons_self
  obtain ⟨a, h1, h2⟩ := h H enc w base spare held fuel _ y hy
  obtain ⟨b, h3, h4⟩ := h' H enc w base spare held fuel cs (fun f hf => hm f (List.mem_cons_of_mem _ hf)) hl2
  rw [ho, hs] at h1
  refine ⟨(a, b), ⟨_, _, ?_, h1, h3⟩, h2, h4⟩
  rw [← List.drop_drop, List.take_append_drop]
theorem Opens.struct {P : Program} {α β : Type} {t : TypeId} {fs : Array Field} {d : Kd α} {Q : α → Prop} (ht : P.underlying t = some (.struct fs)) (hsz : P.cellsOf t = d.sz) (h : OpensF P fs.toList 0 d Q) {f : β → α} (g : α → β) (hfg : ∀ a, f (g a) = a) :
    Opens P t (Kd.iso d f) (fun x => Q (f x)) := by
  intro H enc w base spare held fuel cs x hx
  obtain ⟨xs, n, _, _, hl, hlen, hm⟩ := DataW.trod_struct ht hx
  obtain ⟨a, h1, h2⟩ := h H enc w base spare held n cs (fun f hf => by
    obtain ⟨i, hi, rfl⟩ := List.mem_iff_getElem.1 hf
    have hi2 : i < xs.length := by rw [hlen, ← Array.length_toList]; exact hi
    have hi3 : fs[i]? = some fs.toList[i] := by rw [← Array.getElem?_toList, List.getElem?_eq_getElem hi]
    exact ⟨xs[i], by rw [hm i _ hi3]; exact List.getElem?_eq_getElem hi2⟩) (by rw [hl, hsz, Nat.zero_add])
  exact ⟨g a, by show d.K w (f (g a)) cs; rw [hfg]; exact h1, by show Q (f (g a)); rw [hfg]; exact h2⟩
/-- An argument of a row. -/
theorem Opens.arg {P : Program} {α : Type} {t : TypeId} {d : Kd α} {Q : α → Prop} (h : Opens P t d Q) {H : Type} {enc : TypeId × Value → H} {w : World} {v : Value} {x : DataW H} {ps : List MemPlace} (hT : DataW.Trod enc P w 0 (fun _ => true) true t v x ps) :
    ∃ a, d.K w a v.cells.toList ∧ Q a := by
  obtain ⟨fuel, hf⟩ := hT
  exact h H enc w 0 _ true fuel _ _ hf
end Go.Proofs.Ytjheiahfhknakaa.G
/- The statements' own types, read by their kinds: stamps, registers, mails. No condition. -/
namespace Go.Proofs.Ytjheiahfhknakaa.G
open Go.RowKit Go.Proofs.YtjheiahfhknakaaW.PrintWords Go.Proofs.YtjheiahfhknakaaW.PrintLast Go.Proofs.YtjheiahfhknakaaW.PrintMore
def WfI (n : Int) : Prop := (Lit.int .i64 n).wf = true
instance : Inhabited S179 := ⟨z179⟩
instance : Inhabited S65 := ⟨z65⟩
instance : Inhabited S42 := ⟨z42⟩
theorem cells3 : Try.prog.cellsOf 3 = 1 := by kernel_rfl
theorem cells9 : Try.prog.cellsOf 9 = 1 := by kernel_rfl
theorem cells23 : Try.prog.cellsOf 23 = 1 := by kernel_rfl
theorem cells39 : Try.prog.cellsOf 39 = 2 := by kernel_rfl
theorem cells179 : Try.prog.cellsOf 179 = 3 := by kernel_rfl
theorem cells63 : Try.prog.cellsOf 63 = 1 := by kernel_rfl
theorem cells65 : Try.prog.cellsOf 65 = 4 := by kernel_rfl
theorem o3 : Opens Try.prog 3 (Kd.int .i64) WfI := Opens.int Try.underlying3
theorem o9 : Opens Try.prog 9 Kd.string (fun s => s.size ≤ maxLen) := Opens.string Try.underlying9
theorem o23 : Opens Try.prog 23 (Kd.slice 3 (Kd.int .i64)) (fun l => ∀ x ∈ l, WfI x) := Opens.slice Try.underlying23 cells3 o3 3
theorem o39 : Opens Try.prog 39 k39 (fun x => WfI x.f0 ∧ WfI x.f1) :=
  Opens.struct Try.underlying39 cells39 (OpensF.cons 0 rfl cells3 o3 (OpensF.last _ rfl cells3 o3)) (fun a => (⟨a.1, a.2⟩ : S39)) (fun _ => rfl)
theorem o179 : Opens Try.prog 179 k179 (fun x => WfI x.f0 ∧ (WfI x.f1.f0 ∧ WfI x.f1.f1)) :=
  Opens.struct Try.underlying179 cells179 (OpensF.cons 0 rfl cells3 o3 (OpensF.last _ rfl cells39 o39)) (fun a => (⟨a.1, a.2⟩ : S179)) (fun _ => rfl)
theorem o63 : Opens Try.prog 63 (Kd.slice 179 k179) (fun l => ∀ x ∈ l, WfI x.f0 ∧ (WfI x.f1.f0 ∧ WfI x.f1.f1)) := Opens.slice Try.underlying63 cells179 o179 179
theorem o65 : Opens Try.prog 65 k65 (fun x => WfI x.f0 ∧ (WfI x.f1 ∧ ((∀ r ∈ x.f2, WfI r.f0 ∧ (WfI r.f1.f0 ∧ WfI r.f1.f1)) ∧ x.f3.size ≤ maxLen))) :=
  Opens.struct Try.underlying65 cells65 (OpensF.cons 0 rfl cells3 o3 (OpensF.cons _ rfl cells3 o3 (OpensF.cons _ rfl cells63 o63 (OpensF.last _ rfl cells9 o9)))) (fun a => (⟨a.1, a.2.1, a.2.2.1, a.2.2.2⟩ : S65)) (fun _ => rfl)
end Go.Proofs.Ytjheiahfhknakaa.G
namespace Go.Proofs.Ytjheiahfhknakaa.G
open Go.RowKit Go.Proofs.YtjheiahfhknakaaW.PrintWords Go.Proofs.YtjheiahfhknakaaW.PrintLast Go.Proofs.YtjheiahfhknakaaW.PrintMore Go.Proofs.Ytjheiahfhknakaa.Plain
set_option linter.unusedVariables false
theorem szRegS2 (l : List S179) (hl : l.length ≤ 9223372036854775807) (n : Int) (h0 : 0 ≤ n) (h1 : n ≤ 1048576) : ∃ r, laws_szRegS.f l n = some r ∧ r ≤ n ∧ (0 ≤ r → l.length ≤ n) := by
  have hw : wrap64 (n - (l.length : Int)) = n - l.length := by unfold wrap64; omega
  unfold laws_szRegS.f
  rw [hw]
  split
  · exact ⟨_, rfl, by omega, by omega⟩
  · exact ⟨_, rfl, by omega, by omega⟩
theorem szMail2 (m : S65) (hl : m.f2.length ≤ 9223372036854775807) (hs : m.f3.size ≤ 9223372036854775807) (n : Int) (h0 : 0 ≤ n) (h1 : n ≤ 1048576) :
    ∃ r, laws_szMail.f m.f0 m.f1 m.f2 m.f3 n = some r ∧ r ≤ n ∧ (0 ≤ r → (m.f2.length : Int) ≤ n ∧ (m.f3.size : Int) ≤ n) := by
  obtain ⟨r, e, h2, h3⟩ := szRegS2 m.f2 hl n h0 h1
  unfold laws_szMail.f
  rw [e]
  simp only [Option.bind_some]
  by_cases hr : r < 0
  · rw [if_pos hr]
    exact ⟨_, rfl, by omega, by omega⟩
  · rw [if_neg hr]
    have hw : wrap64 (r - (m.f3.size : Int)) = r - m.f3.size := by unfold wrap64; omega
    rw [hw]
    have := h3 (by omega)
    split
    · exact ⟨_, rfl, by omega, by omega⟩
    · exact ⟨_, rfl, by omega, by omega⟩
set_option maxRecDepth 100000 in
theorem laws_FnExactJoinMail.early1 (a b : S65) (A0 : Option Addr) (c0 : Nat) (A1 : Option Addr) (c1 : Nat) (w : World) (ha : Kd.C k179 w A0 a.f2.length a.f2) (hca : a.f2.length ≤ c0)
    (r1 : Int) (s1 : laws_szMail.f a.f0 a.f1 a.f2 a.f3 1048576 = some r1) (p1 : r1 < 0) :
    Calls Try.prog 7 #[.agg #[.int .i64 a.f0, .int .i64 a.f1, .slice A0 a.f2.length c0, .string a.f3], .agg #[.int .i64 b.f0, .int .i64 b.f1, .slice A1 b.f2.length c1, .string b.f3]] w fun e w' => e = .returned (.bool true) ∧ Below w.heap.size w w' := by
  have HA := Aside0.mk ha
  have HCA := Aside0.mk hca
  have S1 := Aside0.mk s1
  have d1 : decide (r1 < 0) = true := by simp; omega
  clear ha hca s1
  go_enter Try.func7, Try.ntmps7
  go_wp2_with fail
  refine (laws_szMail.calls _ _ _ _ a.f2 _ _ r1 _ (Kd.C_below HA.out (below_alloc (below_alloc (Below.refl _ _) _) _)) HCA.out S1.out).mono ?_
  rintro e w1 ⟨rfl, hd1⟩
  have BL := Aside0.mk (below_then (below_alloc (below_alloc (Below.refl w.heap.size w) _) _) (by simp; omega) hd1)
  clear hd1
  go_wp2_with fail
  go_ret
  exact ⟨rfl, BL.out⟩
set_option maxRecDepth 100000 in
theorem laws_FnExactJoinMail.early2 (a b : S65) (A0 : Option Addr) (c0 : Nat) (A1 : Option Addr) (c1 : Nat) (w : World) (ha : Kd.C k179 w A0 a.f2.length a.f2) (hca : a.f2.length ≤ c0) (hb : Kd.C k179 w A1 b.f2.length b.f2) (hcb : b.f2.length ≤ c1)
    (r1 r2 : Int) (s1 : laws_szMail.f a.f0 a.f1 a.f2 a.f3 1048576 = some r1) (p1 : 0 ≤ r1) (s2 : laws_szMail.f b.f0 b.f1 b.f2 b.f3 r1 = some r2) (p2 : r2 < 0) :
    Calls Try.prog 7 #[.agg #[.int .i64 a.f0, .int .i64 a.f1, .slice A0 a.f2.length c0, .string a.f3], .agg #[.int .i64 b.f0, .int .i64 b.f1, .slice A1 b.f2.length c1, .string b.f3]] w fun e w' => e = .returned (.bool true) ∧ Below w.heap.size w w' := by
  have HA := Aside0.mk ha
  have HCA := Aside0.mk hca
  have HB := Aside0.mk hb
  have HCB := Aside0.mk hcb
  have S1 := Aside0.mk s1
  have S2 := Aside0.mk s2
  have d1 : decide (r1 < 0) = false := by simp; omega
  have d2 : decide (r2 < 0) = true := by simp; omega
  clear ha hca hb hcb s1 s2
  go_enter Try.func7, Try.ntmps7
  go_wp2_with fail
  refine (laws_szMail.calls _ _ _ _ a.f2 _ _ r1 _ (Kd.C_below HA.out (below_alloc (below_alloc (Below.refl _ _) _) _)) HCA.out S1.out).mono ?_
  rintro e w1 ⟨rfl, hd1⟩
  have BL := Aside0.mk (below_then (below_alloc (below_alloc (Below.refl w.heap.size w) (.cells #[.int .i64 a.f0, .int .i64 a.f1, .slice A0 a.f2.length c0, .string a.f3] 65)) (.cells #[.int .i64 b.f0, .int .i64 b.f1, .slice A1 b.f2.length c1, .string b.f3] 65)) (by simp; omega) hd1)
  have GB := Aside0.mk (blk_below (g := w.heap.size + 1) (o := .cells #[.int .i64 b.f0, .int .i64 b.f1, .slice A1 b.f2.length c1, .string b.f3] 65 (0, 0)) (by simpa using heap_alloc_new (w.alloc _) _) hd1)
  clear hd1
  have hb0 : w1.cell? ⟨w.heap.size + 1, 0, none⟩ = some (.int .i64 b.f0) := (blk_cell GB.out 0).trans rfl
  have hb1 : w1.cell? ⟨w.heap.size + 1, 1, none⟩ = some (.int .i64 b.f1) := (blk_cell GB.out 1).trans rfl
  have hb2 : w1.cell? ⟨w.heap.size + 1, 2, none⟩ = some (.slice A1 b.f2.length c1) := (blk_cell GB.out 2).trans rfl
  have hb3 : w1.cell? ⟨w.heap.size + 1, 3, none⟩ = some (.string b.f3) := (blk_cell GB.out 3).trans rfl
  go_wp2_with fail
  refine (laws_szMail.calls _ _ _ _ b.f2 _ _ r2 _ (Kd.C_below HB.out BL.out) HCB.out S2.out).mono ?_
  rintro e w2 ⟨rfl, hd2⟩
  have BL2 := Aside0.mk (below_then BL.out BL.out.size hd2)
  clear hd2
  go_wp2_with fail
  go_ret
  exact ⟨rfl, BL2.out⟩
/-- The call returns true, whatever the two mails. -/
theorem laws_FnExactJoinMail.true_ (a b : S65) (A0 : Option Addr) (c0 : Nat) (A1 : Option Addr) (c1 : Nat) (w : World) (ha : Kd.C k179 w A0 a.f2.length a.f2) (hca : a.f2.length ≤ c0) (hb : Kd.C k179 w A1 b.f2.length b.f2) (hcb : b.f2.length ≤ c1)
    (sa : a.f3.size ≤ 9223372036854775807) (sb : b.f3.size ≤ 9223372036854775807) :
    Calls Try.prog 7 #[.agg #[.int .i64 a.f0, .int .i64 a.f1, .slice A0 a.f2.length c0, .string a.f3], .agg #[.int .i64 b.f0, .int .i64 b.f1, .slice A1 b.f2.length c1, .string b.f3]] w fun e w' => e = .returned (.bool true) ∧ Below w.heap.size w w' := by
  obtain ⟨r1, s1, q1, t1⟩ := szMail2 a ha.2.1 sa 1048576 (by omega) (by omega)
  by_cases p1 : r1 < 0
  · exact laws_FnExactJoinMail.early1 a b A0 c0 A1 c1 w ha hca r1 s1 p1
  · obtain ⟨r2, s2, q2, t2⟩ := szMail2 b hb.2.1 sb r1 (by omega) q1
    have u1 := t1 (by omega)
    by_cases p2 : r2 < 0
    · exact laws_FnExactJoinMail.early2 a b A0 c0 A1 c1 w ha hca hb hcb r1 r2 s1 (by omega) s2 p2
    · have u2 := t2 (by omega)
      exact laws_FnExactJoinMail.walk a b A0 c0 A1 c1 w ha hca hb hcb (by omega) (by omega) r1 r2 s1 (by omega) s2 (by omega)
end Go.Proofs.Ytjheiahfhknakaa.G
namespace Go.Proofs.Ytjheiahfhknakaa.fnExactJoinMail
open Go.ChangeShapes Go.WideShapes Go.ChangeAt Go.RowKit Go.Proofs.Ytjheiahfhknakaa.G
set_option linter.unusedVariables false
theorem own : ownKnob Try.prog.godebug = none := by kernel_rfl
theorem laidOut : laidOutB Try.prog = true := by kernel_rfl
set_option maxRecDepth 100000 in
theorem lifted (os : Os) (started : os.Started) (H : Type) (enc : TypeId × Value → H) :
    ReturnsInHanded {} Try.checked os 7 .any (Rows.fnExactJoinMailSpec.pre6 enc Try.prog Try.f7 Rows.fnExactJoinMailRow.domain false) (Rows.fnExactJoinMailSpec.post enc Try.prog Try.f7 false true false false) := by
  refine returnsInHanded_of_change_sized (C := Try.checked) own started (by kernel_rfl) Try.func7
    (ChangeSpec.witness6 (enc := enc) (C := Try.checked) false ⟨#[], #[.agg #[.int .i64 0, .int .i64 0, .slice none 0 0, .string ByteArray.empty], .agg #[.int .i64 0, .int .i64 0, .slice none 0 0, .string ByteArray.empty]], []⟩ 8 (by kernel_rfl) (by kernel_rfl) (by kernel_rfl) (by kernel_rfl)) ?_
  intro W base args ds gs before hval0 hW hcnd hsz0 _
  have hval : ∀ (j : Nat) t v, Try.f7.params[j]? = some t → args[j]? = some v → Value.okWide Try.prog W .any base t v := hval0
  have hW' := hW
  obtain ⟨p, q, hA0, hV, rfl, hfz, hnd⟩ := hW
  have hA : DataW.TrodAll enc Try.prog W 0 (fun _ => true) true Try.f7.params.toList args.toList ds p := hA0
  rw [Try.params7] at hA hval
  obtain ⟨v0, vs0, d0, ds0, p0, q0, hargs, rfl, rfl, h0, r0⟩ := trodAll_cons hA
  obtain ⟨v1, vs1, d1, ds1, p1, q1, rfl, rfl, rfl, h1, r1⟩ := trodAll_cons r0
  obtain ⟨rfl, rfl, rfl⟩ := trodAll_nil r1
  obtain rfl : args = #[v0, v1] := by cases args; simp_all
  obtain ⟨rfl, rfl⟩ := trodVars_none hV
  obtain ⟨cs0, rfl, _⟩ := okWide_struct Try.underlying65 (hval 0 65 v0 rfl rfl)
  obtain ⟨cs1, rfl, _⟩ := okWide_struct Try.underlying65 (hval 1 65 v1 rfl rfl)
  have lt0 : ∀ x ∈ p0, x.block < W.heap.size := by obtain ⟨m, hm⟩ := h0; exact DataW.trod_lt m _ _ _ hm
  have lt1 : ∀ x ∈ p1, x.block < W.heap.size := by obtain ⟨m, hm⟩ := h1; exact DataW.trod_lt m _ _ _ hm
  obtain ⟨a, ka, _, _, _, sa⟩ := o65.arg h0
  obtain ⟨b, kb, _, _, _, sb⟩ := o65.arg h1
  obtain ⟨A0, c0, e0, l0, C0⟩ := k65_open ka
  obtain ⟨A1, c1, e1, l1, C1⟩ := k65_open kb
  obtain rfl : cs0 = #[.int .i64 a.f0, .int .i64 a.f1, .slice A0 a.f2.length c0, .string a.f3] := Array.ext' e0
  obtain rfl : cs1 = #[.int .i64 b.f0, .int .i64 b.f1, .slice A1 b.f2.length c1, .string b.f3] := Array.ext' e1
  clear hA0 hval0 hsz0
  refine (laws_FnExactJoinMail.true_ a b A0 c0 A1 c1 W C0 l0 C1 l1 (by unfold maxLen at sa; omega) (by unfold maxLen at sb; omega)).mono fun e W' ⟨he, bel⟩ => ?_
  subst he
  exact ⟨_, rfl, _, _, _, [], _, [], hW', trodAll_mk1 (shut_bool Try.underlying4 _), (trodAll_cons_mk (Below.trod laidOut (by kernel_rfl) (of_decide_eq_true (by kernel_rfl)) h0 bel lt0) (trodAll_cons_mk (Below.trod laidOut (by kernel_rfl) (of_decide_eq_true (by kernel_rfl)) h1 bel lt1) trodAll_mk0)), rfl, bel.frame _, fun h => by cases h⟩
theorem named : Try.pinned.checked.prog.funcNamed Rows.fnExactJoinMailRow.func = some 7 := by kernel_rfl
theorem closed : joinedFacts Try.pinned.checked.prog 7 Try.f7 Rows.fnExactJoinMailSpec Rows.fnExactJoinMailRow = true := by kernel_rfl
theorem inst : Try.f7.isInstance Try.pinned.checked.prog Rows.fnExactJoinMailRow.origin Rows.fnExactJoinMailRow.targs := of_decide_eq_true (by kernel_rfl)
theorem wrap : Try.f7.isWrapper Try.pinned.checked.prog Rows.fnExactJoinMailRow.wrapper Rows.fnExactJoinMailRow.mainSum := by
  unfold Func.isWrapper
  rw [if_neg (of_decide_eq_false (by kernel_rfl))]
  exact ⟨rfl, rfl⟩
theorem over : Rows.fnExactJoinMailRow.holds Try.pinned (OpenSpec.ofChange Rows.fnExactJoinMailSpec) :=
  OpenClaim.holds_of_wide 7 Try.f7 rfl rfl rfl rfl rfl rfl rfl ⟨rfl, rfl, rfl, rfl, rfl⟩ rfl rfl rfl rfl rfl named Try.func7 closed inst wrap
    (fun os started H enc _ => lifted os started H enc)
theorem proved : Rows.FnExactJoinMailSaid := over
#print axioms proved
end Go.Proofs.Ytjheiahfhknakaa.fnExactJoinMail
namespace Go.Proofs.Ytjheiahfhknakaa
/-- The row, under a short name, for the claim. -/
theorem fnExactJoinMail_holds : Rows.FnExactJoinMailSaid := fnExactJoinMail.proved
end Go.Proofs.Ytjheiahfhknakaa
