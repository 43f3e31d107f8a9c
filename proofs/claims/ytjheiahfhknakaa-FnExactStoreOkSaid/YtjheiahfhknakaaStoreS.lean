/- spec.StoreOk tells whether a store is right (storeI). Condition: the store can be read, its names are no longer than a slice may be. -/
import Derived.Test.YtjheiahfhknakaaStoreI
import Derived.Lib.QuietBelow
import Derived.BigQuiet
import Derived.Outline
namespace Go.Proofs.Ytjheiahfhknakaa.G
open Go.Sort Go.RowKit Go.Proofs.YtjheiahfhknakaaW.PrintWords Go.Proofs.YtjheiahfhknakaaW.PrintLast Go.Proofs.YtjheiahfhknakaaW.PrintMore
set_option linter.unusedVariables false
set_option linter.unusedSimpArgs false
set_option maxRecDepth 100000 in
set_option maxHeartbeats 4000000 in
theorem spec_StoreOk.nice (s : S29) (cs : Array Value) (r : Bool) (hr : storeI s = r) (w : World) (hb : k29.K w s cs.toList) (hs : ∀ b ∈ s.f2, b.f1.size ≤ 9223372036854775807) :
    Calls Try.prog 61 #[.agg cs] w fun e w' => e = .returned (.bool r) ∧ Below w.heap.size w w' := by
  have HM := Aside0.mk hr.symm
  have HS := Aside0.mk hs
  obtain ⟨A2, c2, A3, c3, e, l2, g2, l3, g3⟩ := k29_open hb
  obtain rfl : cs = _ := Array.ext' e
  have G2 := Aside0.mk g2
  have G3 := Aside0.mk g3
  have hmx : s.f2.length ≤ 9223372036854775807 := Kd.C_max g2
  clear hr hb e g2 g3 hs
  obtain ⟨w1, hw1⟩ : ∃ w1, w.alloc (.cells #[.int .i64 s.f0, .int .i64 s.f1, .slice A2 s.f2.length c2, .slice A3 s.f3.length c3] 29) = w1 := ⟨_, rfl⟩
  have BK := Aside0.mk (show w1.heap[w.heap.size]? = some (.cells #[.int .i64 s.f0, .int .i64 s.f1, .slice A2 s.f2.length c2, .slice A3 s.f3.length c3] 29 (0, 0)) by rw [← hw1]; exact heap_alloc_new w _)
  have HB := Aside0.mk (show Below w.heap.size w w1 by rw [← hw1]; exact below_alloc (Below.refl _ _) _)
  have HW := Aside0.mk hw1
  clear hw1
  go_enter Try.func61, Try.ntmps61
  go_wp2_with fail
  rw [HW.out]
  clear HW
  cases h1 : inI s.f0 1 2 with
  | false =>
    have H1 := Aside0.mk h1
    clear h1
    refine (spec_l01In.nice s.f0 1 2 false H1.out _).mono ?_
    rintro e wx ⟨rfl, rfl⟩
    go_wp2
    go_ret
    exact ⟨by rw [show r = false from by rw [HM.out]; exact store_head (by rw [shead_of H1.out rfl rfl rfl]; rfl)]; rfl, HB.out⟩
  | true =>
    have H1 := Aside0.mk h1
    clear h1
    refine (spec_l01In.nice s.f0 1 2 true H1.out _).mono ?_
    rintro e wx ⟨rfl, rfl⟩
    cases h2 : inI s.f1 0 100000 with
    | false =>
      have H2 := Aside0.mk h2
      clear h2
      have q1 : w1.cell? ⟨w.heap.size, 1, none⟩ = some (.int .i64 s.f1) := (blk_cell BK.out 1).trans rfl
      go_wp2_with fail
      refine (spec_l01In.nice s.f1 0 100000 false H2.out _).mono ?_
      rintro e wx ⟨rfl, rfl⟩
      go_wp2
      go_ret
      exact ⟨by rw [show r = false from by rw [HM.out]; exact store_head (by rw [shead_of H1.out H2.out rfl rfl]; rfl)]; rfl, HB.out⟩
    | true =>
      have H2 := Aside0.mk h2
      clear h2
      have q1 : w1.cell? ⟨w.heap.size, 1, none⟩ = some (.int .i64 s.f1) := (blk_cell BK.out 1).trans rfl
      go_wp2_with fail
      refine (spec_l01In.nice s.f1 0 100000 true H2.out _).mono ?_
      rintro e wx ⟨rfl, rfl⟩
      clear q1
      by_cases h3 : s.f2.length ≤ 5
      rotate_left
      · have H3 := Aside0.mk (decide_eq_false h3)
        have h3' : 5 < s.f2.length := by omega
        clear h3
        have q2 : w1.cell? ⟨w.heap.size, 2, none⟩ = some (.slice A2 s.f2.length c2) := (blk_cell BK.out 2).trans rfl
        go_wp2
        go_ret
        exact ⟨by rw [show r = false from by rw [HM.out]; exact store_head (by rw [shead_of H1.out H2.out H3.out rfl]; rfl)]; rfl, HB.out⟩
      have H3 := Aside0.mk (decide_eq_true h3)
      have q2 : w1.cell? ⟨w.heap.size, 2, none⟩ = some (.slice A2 s.f2.length c2) := (blk_cell BK.out 2).trans rfl
      cases h4 : sortI s.f3 20 with
      | false =>
        have H4 := Aside0.mk h4
        clear h4
        have q3 : w1.cell? ⟨w.heap.size, 3, none⟩ = some (.slice A3 s.f3.length c3) := (blk_cell BK.out 3).trans rfl
        go_wp2_with fail
        refine (spec_l06Sorted.nice s.f3 A3 c3 20 false H4.out _ (Kd.C_below G3.out HB.out) l3).mono ?_
        rintro e w5 ⟨rfl, hb⟩
        have n0_ := Aside0.mk (below_then HB.out HB.out.size hb)
        have n1_ := Aside0.mk (blk_below BK.out hb)
        clear q2 q3
        clear HB BK hb
        have HB := n0_
        have BK := n1_
        clear n0_ n1_
        go_wp2
        go_ret
        exact ⟨by rw [show r = false from by rw [HM.out]; exact store_head (by rw [shead_of H1.out H2.out H3.out H4.out]; rfl)]; rfl, HB.out⟩
      | true =>
        have H4 := Aside0.mk h4
        clear h4
        have q3 : w1.cell? ⟨w.heap.size, 3, none⟩ = some (.slice A3 s.f3.length c3) := (blk_cell BK.out 3).trans rfl
        go_wp2_with fail
        refine (spec_l06Sorted.nice s.f3 A3 c3 20 true H4.out _ (Kd.C_below G3.out HB.out) l3).mono ?_
        rintro e w5 ⟨rfl, hb⟩
        have n0_ := Aside0.mk (below_then HB.out HB.out.size hb)
        have n1_ := Aside0.mk (blk_below BK.out hb)
        clear q2 q3
        clear HB BK hb
        have HB := n0_
        have BK := n1_
        clear n0_ n1_
        have HH := Aside0.mk (show storeHead s = true by rw [shead_of H1.out H2.out H3.out H4.out]; rfl)
        clear H1 H2 H3 H4
        have HG0 : w.heap.size < w5.heap.size := blk_lt BK.out
        obtain ⟨w6, hw6⟩ : ∃ w6, w5.alloc (.cells #[] 3) = w6 := ⟨_, rfl⟩
        have HO := Aside0.mk (show Kd.R (Kd.int .i64) 3 w6 w.heap.size (fun _ => True) (.slice (some ⟨w5.heap.size, 0, none⟩) 0 0) (seenAt s 0 0) by rw [seen_zero, ← hw6]; exact Kd.R_of_own (own_lit w5 w.heap.size 3 .i64 [] HB.out.size (by simp)) (fun _ _ => trivial))
        have HB1 := Aside0.mk (show Below w5.heap.size w5 w6 by rw [← hw6]; exact below_alloc (Below.refl _ _) _)
        have n0_ := Aside0.mk (below_then HB.out HB.out.size HB1.out)
        have n1_ := Aside0.mk (blk_below BK.out HB1.out)
        have HW := Aside0.mk hw6
        clear hw6
        go_wp2
        rw [HW.out]
        clear HW HB BK HB1
        have HB := n0_
        have BK := n1_
        clear n0_ n1_
        go_loopw [3, 4] (fun v3 v wr => ∃ i : Nat, i ≤ s.f2.length ∧ v = .int .i64 i ∧ Aside0 (∀ j, j < i → stAt s j = true) ∧ Aside0 (Kd.R (Kd.int .i64) 3 wr w.heap.size (fun _ => True) v3 (seenAt s i 0)) ∧ Aside0 (Below w.heap.size w wr) ∧ Aside0 (wr.heap[w.heap.size]? = some (.cells #[.int .i64 s.f0, .int .i64 s.f1, .slice A2 s.f2.length c2, .slice A3 s.f3.length c3] 29 (0, 0)))) (fun _ v _ => s.f2.length - (intOf v).toNat)
        case atStart => exact ⟨0, Nat.zero_le _, rfl, ⟨fun j h => absurd h (Nat.not_lt_zero _)⟩, HO, HB, BK⟩
        case round =>
          clear HB BK HO
          obtain ⟨i, hi, rfl, HI, HO, HB, BK⟩ := hrel
          have q2 : wr.cell? ⟨w.heap.size, 2, none⟩ = some (.slice A2 s.f2.length c2) := (blk_cell BK.out 2).trans rfl
          by_cases hlt : i < s.f2.length
          rotate_left
          · obtain rfl : i = s.f2.length := by omega
            have HN := Aside0.mk (store_all HH.out HI.out)
            clear HI hlt
            go_wp2
            go_ret
            exact ⟨by rw [HM.out, HN.out]; rfl, HB.out⟩
          have HG : w.heap.size < wr.heap.size := blk_lt BK.out
          obtain ⟨ad, A5, c5, A6, c6, eA, e0, e1, e2, e3, e4, e5, e6, hK⟩ := box_at G2.out i hlt
          have HF := Aside0.mk (box_mails hK)
          have HK := Aside0.mk (k47.K_below HB.out hK)
          clear hK
          replace e0 := pw_cell_below HB.out e0
          replace e1 := pw_cell_below HB.out e1
          replace e2 := pw_cell_below HB.out e2
          replace e3 := pw_cell_below HB.out e3
          replace e4 := pw_cell_below HB.out e4
          replace e5 := pw_cell_below HB.out e5
          replace e6 := pw_cell_below HB.out e6
          obtain ⟨w5, hw5⟩ : ∃ w5, wr.alloc (.cells #[.int .i64 s.f2[i].f0, .string s.f2[i].f1, .int .i64 s.f2[i].f2.f0, .int .i64 s.f2[i].f2.f1, .int .i64 s.f2[i].f3, .slice A5 s.f2[i].f4.length c5, .slice A6 s.f2[i].f5.length c6] 47) = w5 := ⟨_, rfl⟩
          have BM := Aside0.mk (show w5.heap[wr.heap.size]? = some (.cells #[.int .i64 s.f2[i].f0, .string s.f2[i].f1, .int .i64 s.f2[i].f2.f0, .int .i64 s.f2[i].f2.f1, .int .i64 s.f2[i].f3, .slice A5 s.f2[i].f4.length c5, .slice A6 s.f2[i].f5.length c6] 47 (0, 0)) by rw [← hw5]; exact heap_alloc_new wr _)
          have HB5 := Aside0.mk (show Below wr.heap.size wr w5 by rw [← hw5]; exact below_alloc (Below.refl _ _) _)
          have HW5 := Aside0.mk hw5
          clear hw5
          have hsb := HS.out s.f2[i] (List.getElem_mem hlt)
          subst eA
          go_wp2
          rw [HW5.out]
          have HB6 := Aside0.mk (below_then HB.out HB.out.size HB5.out)
          have BK6 := Aside0.mk (blk_below BK.out HB5.out)
          have HK6 := Aside0.mk (k47.K_below HB5.out HK.out)
          have HO6 := Aside0.mk (Kd.R_below HO.out HB5.out)
          have HKS := Aside0.mk (k29_mk w5 s l2 (Kd.C_below G2.out HB6.out) l3 (Kd.C_below G3.out HB6.out))
          clear e0 e1 e2 e3 e4 e5 e6 q2
          have b0 : ∀ d os, (grow (redrawn w5 d) os).cell? ⟨w.heap.size, 0, none⟩ = some (.int .i64 s.f0) := fun d os => cell_regrown ((blk_cell BK6.out 0).trans rfl) d os
          have b1 : ∀ d os, (grow (redrawn w5 d) os).cell? ⟨w.heap.size, 1, none⟩ = some (.int .i64 s.f1) := fun d os => cell_regrown ((blk_cell BK6.out 1).trans rfl) d os
          have b2 : ∀ d os, (grow (redrawn w5 d) os).cell? ⟨w.heap.size, 2, none⟩ = some (.slice (some ad) s.f2.length c2) := fun d os => cell_regrown ((blk_cell BK6.out 2).trans rfl) d os
          have b3 : ∀ d os, (grow (redrawn w5 d) os).cell? ⟨w.heap.size, 3, none⟩ = some (.slice A3 s.f3.length c3) := fun d os => cell_regrown ((blk_cell BK6.out 3).trans rfl) d os
          have m0 : ∀ d os, (grow (redrawn w5 d) os).cell? ⟨wr.heap.size, 0, none⟩ = some (.int .i64 s.f2[i].f0) := fun d os => cell_regrown ((blk_cell BM.out 0).trans rfl) d os
          have m1 : ∀ d os, (grow (redrawn w5 d) os).cell? ⟨wr.heap.size, 1, none⟩ = some (.string s.f2[i].f1) := fun d os => cell_regrown ((blk_cell BM.out 1).trans rfl) d os
          have m2 : ∀ d os, (grow (redrawn w5 d) os).cell? ⟨wr.heap.size, 2, none⟩ = some (.int .i64 s.f2[i].f2.f0) := fun d os => cell_regrown ((blk_cell BM.out 2).trans rfl) d os
          have m3 : ∀ d os, (grow (redrawn w5 d) os).cell? ⟨wr.heap.size, 3, none⟩ = some (.int .i64 s.f2[i].f2.f1) := fun d os => cell_regrown ((blk_cell BM.out 3).trans rfl) d os
          have m4 : ∀ d os, (grow (redrawn w5 d) os).cell? ⟨wr.heap.size, 4, none⟩ = some (.int .i64 s.f2[i].f3) := fun d os => cell_regrown ((blk_cell BM.out 4).trans rfl) d os
          have m5 : ∀ d os, (grow (redrawn w5 d) os).cell? ⟨wr.heap.size, 5, none⟩ = some (.slice A5 s.f2[i].f4.length c5) := fun d os => cell_regrown ((blk_cell BM.out 5).trans rfl) d os
          have m6 : ∀ d os, (grow (redrawn w5 d) os).cell? ⟨wr.heap.size, 6, none⟩ = some (.slice A6 s.f2[i].f5.length c6) := fun d os => cell_regrown ((blk_cell BM.out 6).trans rfl) d os
          cases h1 : boxI s.f2[i] with
          | false =>
            have H1 := Aside0.mk h1
            clear h1
            refine wp_region_quiet_below (by kernel_rfl) (by kernel_rfl) ?_
            repeat (go_big_quiet_step ((first | (go_at_call 111; exact Calls.regrown_of (spec_BoxOk.nice s.f2[i] _ false H1.out _ (k47.K_below (below_regrown w5 _ _) HK6.out) hsb)))))
            refine wpQuiet_nil ?_
            intro w7 hw7
            obtain ⟨p7, hw7⟩ := hw7
            have HB7 := Aside0.mk (show Below w5.heap.size w5 w7 by rw [hw7]; exact below_regrown w5 _ _)
            clear hw7 b0 b1 b2 b3 m0 m1 m2 m3 m4 m5 m6
            have HB8 := Aside0.mk (below_then HB6.out HB6.out.size HB7.out)
            have HN := Aside0.mk (store_not hlt (st_no1 (by rw [boxOkAt_of hlt H1.out rfl rfl rfl rfl]; first | rfl | simp)))
            go_wp2
            go_ret
            exact ⟨by rw [HM.out, HN.out]; rfl, HB8.out⟩
          | true =>
            have H1 := Aside0.mk h1
            clear h1
            have hx : (¬ 0 < i ∧ (decide (i = 0) || decide ((s.f2.getD (i - 1) z47).f0 < s.f2[i].f0)) = true ∧ True) ∨ (0 < i ∧ ∃ q : Bool, decide (s.f2[i].f0 ≤ s.f2[i - 1].f0) = q ∧ (decide (i = 0) || decide ((s.f2.getD (i - 1) z47).f0 < s.f2[i].f0)) = !q) := by
              by_cases h0 : 0 < i
              · refine .inr ⟨h0, _, rfl, ?_⟩
                rw [sprev_of h0 (by omega)]
                by_cases hq : s.f2[i].f0 ≤ s.f2[i - 1].f0
                · rw [decide_eq_true hq, decide_eq_false (by omega)]; rfl
                · rw [decide_eq_false hq, decide_eq_true (by omega)]; rfl
              · exact .inl ⟨h0, sprev_no h0 _, trivial⟩
            rcases hx with ⟨h0, h2, _⟩ | ⟨h0, q, hq, h2⟩
            · have H2 := Aside0.mk h2
              have d0 : decide (0 < i) = false := decide_eq_false h0
              clear h2
              by_cases h3 : boxNamed s.f2 s.f2[i].f1 = i
              rotate_left
              · have H3 := Aside0.mk (decide_eq_false h3)
                have d3 : (boxNamed s.f2 s.f2[i].f1 != (i : Int)) = true := by rw [bne_iff_ne]; exact h3
                clear h3
                refine wp_region_quiet_below (by kernel_rfl) (by kernel_rfl) ?_
                repeat (go_big_quiet_step ((first | (go_at_call 111; exact Calls.regrown_of (spec_BoxOk.nice s.f2[i] _ true H1.out _ (k47.K_below (below_regrown w5 _ _) HK6.out) hsb)) | (go_at_call 104; exact Calls.regrown_of (spec_BoxNamed.nice s _ s.f2[i].f1 _ (k29.K_below (below_regrown w5 _ _) HKS.out))))))
                refine wpQuiet_nil ?_
                intro w7 hw7
                obtain ⟨p7, hw7⟩ := hw7
                have HB7 := Aside0.mk (show Below w5.heap.size w5 w7 by rw [hw7]; exact below_regrown w5 _ _)
                clear hw7 b0 b1 b2 b3 m0 m1 m2 m3 m4 m5 m6
                have HB8 := Aside0.mk (below_then HB6.out HB6.out.size HB7.out)
                have HN := Aside0.mk (store_not hlt (st_no1 (by rw [boxOkAt_of hlt H1.out H2.out H3.out rfl rfl]; first | rfl | simp)))
                go_wp2
                go_ret
                exact ⟨by rw [HM.out, HN.out]; rfl, HB8.out⟩
              have H3 := Aside0.mk (decide_eq_true h3)
              have d3 : (boxNamed s.f2 s.f2[i].f1 != (i : Int)) = false := by rw [bne_eq_false_iff_eq]; exact h3
              clear h3
              cases h4 : hasI s.f3 s.f2[i].f0 with
              | true =>
                have H4 := Aside0.mk h4
                clear h4
                refine wp_region_quiet_below (by kernel_rfl) (by kernel_rfl) ?_
                repeat (go_big_quiet_step ((first | (go_at_call 111; exact Calls.regrown_of (spec_BoxOk.nice s.f2[i] _ true H1.out _ (k47.K_below (below_regrown w5 _ _) HK6.out) hsb)) | (go_at_call 104; exact Calls.regrown_of (spec_BoxNamed.nice s _ s.f2[i].f1 _ (k29.K_below (below_regrown w5 _ _) HKS.out))) | (go_at_call 152; exact Calls.regrown_of (spec_l06In.nice s.f3 A3 c3 s.f2[i].f0 true H4.out _ (Kd.C_below (Kd.C_below G3.out HB6.out) (below_regrown w5 _ _)) l3)))))
                refine wpQuiet_nil ?_
                intro w7 hw7
                obtain ⟨p7, hw7⟩ := hw7
                have HB7 := Aside0.mk (show Below w5.heap.size w5 w7 by rw [hw7]; exact below_regrown w5 _ _)
                clear hw7 b0 b1 b2 b3 m0 m1 m2 m3 m4 m5 m6
                have HB8 := Aside0.mk (below_then HB6.out HB6.out.size HB7.out)
                have HN := Aside0.mk (store_not hlt (st_no1 (by rw [boxOkAt_of hlt H1.out H2.out H3.out H4.out rfl]; first | rfl | simp)))
                go_wp2
                go_ret
                exact ⟨by rw [HM.out, HN.out]; rfl, HB8.out⟩
              | false =>
                have H4 := Aside0.mk h4
                clear h4
                cases h5 : lateI s.f2[i] s.f1 with
                | true =>
                  have H5 := Aside0.mk h5
                  clear h5
                  refine wp_region_quiet_below (by kernel_rfl) (by kernel_rfl) ?_
                  repeat (go_big_quiet_step ((first | (go_at_call 111; exact Calls.regrown_of (spec_BoxOk.nice s.f2[i] _ true H1.out _ (k47.K_below (below_regrown w5 _ _) HK6.out) hsb)) | (go_at_call 104; exact Calls.regrown_of (spec_BoxNamed.nice s _ s.f2[i].f1 _ (k29.K_below (below_regrown w5 _ _) HKS.out))) | (go_at_call 152; exact Calls.regrown_of (spec_l06In.nice s.f3 A3 c3 s.f2[i].f0 false H4.out _ (Kd.C_below (Kd.C_below G3.out HB6.out) (below_regrown w5 _ _)) l3)) | (go_at_call 153; exact Calls.regrown_of (spec_l07Times.nice2 s.f2[i] _ s.f1 false H5.out _ (k47.K_below (below_regrown w5 _ _) HK6.out))))))
                  refine wpQuiet_nil ?_
                  intro w7 hw7
                  obtain ⟨p7, hw7⟩ := hw7
                  have HB7 := Aside0.mk (show Below w5.heap.size w5 w7 by rw [hw7]; exact below_regrown w5 _ _)
                  clear hw7 b0 b1 b2 b3 m0 m1 m2 m3 m4 m5 m6
                  have HB8 := Aside0.mk (below_then HB6.out HB6.out.size HB7.out)
                  have HN := Aside0.mk (store_not hlt (st_no1 (by rw [boxOkAt_of hlt H1.out H2.out H3.out H4.out H5.out]; first | rfl | simp)))
                  go_wp2
                  go_ret
                  exact ⟨by rw [HM.out, HN.out]; rfl, HB8.out⟩
                | false =>
                  have H5 := Aside0.mk h5
                  clear h5
                  refine wp_region_quiet_below (by kernel_rfl) (by kernel_rfl) ?_
                  repeat (go_big_quiet_step ((first | (go_at_call 111; exact Calls.regrown_of (spec_BoxOk.nice s.f2[i] _ true H1.out _ (k47.K_below (below_regrown w5 _ _) HK6.out) hsb)) | (go_at_call 104; exact Calls.regrown_of (spec_BoxNamed.nice s _ s.f2[i].f1 _ (k29.K_below (below_regrown w5 _ _) HKS.out))) | (go_at_call 152; exact Calls.regrown_of (spec_l06In.nice s.f3 A3 c3 s.f2[i].f0 false H4.out _ (Kd.C_below (Kd.C_below G3.out HB6.out) (below_regrown w5 _ _)) l3)) | (go_at_call 153; exact Calls.regrown_of (spec_l07Times.nice2 s.f2[i] _ s.f1 true H5.out _ (k47.K_below (below_regrown w5 _ _) HK6.out))))))
                  refine wpQuiet_nil ?_
                  intro w7 hw7
                  obtain ⟨p7, hw7⟩ := hw7
                  have HB7 := Aside0.mk (show Below w5.heap.size w5 w7 by rw [hw7]; exact below_regrown w5 _ _)
                  clear hw7 b0 b1 b2 b3 m0 m1 m2 m3 m4 m5 m6
                  have HB8 := Aside0.mk (below_then HB6.out HB6.out.size HB7.out)
                  have HOK := Aside0.mk (show boxOkAt s i = true by rw [boxOkAt_of hlt H1.out H2.out H3.out H4.out H5.out]; rfl)
                  have BK7 := Aside0.mk (blk_below BK6.out HB7.out)
                  have BM7 := Aside0.mk (blk_below BM.out HB7.out)
                  have HO7 := Aside0.mk (Kd.R_below HO6.out HB7.out)
                  have h10 := box_small H1.out
                  have h5b : i ≤ 5 := by have := HH.out; unfold storeHead at this; simp only [Bool.and_eq_true, decide_eq_true_eq] at this; omega
                  clear H1 H2 H3 H4 H5
                  generalize wr.heap.size = gb at BM7 ⊢
                  go_wp2
                  go_loopw [3, 6] (fun v3 v wi => ∃ k : Nat, k ≤ s.f2[i].f4.length ∧ v = .int .i64 k ∧ Aside0 (∀ j, j < k → newAt s i j = true) ∧ Aside0 (Kd.R (Kd.int .i64) 3 wi w.heap.size (fun _ => True) v3 (seenAt s i k)) ∧ Aside0 (Below w.heap.size w wi) ∧ Aside0 (wi.heap[w.heap.size]? = some (.cells #[.int .i64 s.f0, .int .i64 s.f1, .slice (some ad) s.f2.length c2, .slice A3 s.f3.length c3] 29 (0, 0))) ∧ Aside0 (wi.heap[gb]? = some (.cells #[.int .i64 s.f2[i].f0, .string s.f2[i].f1, .int .i64 s.f2[i].f2.f0, .int .i64 s.f2[i].f2.f1, .int .i64 s.f2[i].f3, .slice A5 s.f2[i].f4.length c5, .slice A6 s.f2[i].f5.length c6] 47 (0, 0)))) (fun _ v _ => s.f2[i].f4.length - (intOf v).toNat)
                  case atStart => exact ⟨0, Nat.zero_le _, rfl, ⟨fun j h => absurd h (Nat.not_lt_zero _)⟩, HO7, HB8, BK7, BM7⟩
                  case round =>
                    obtain ⟨k, hk, rfl, HJ, HR, HC, BK9, BM9⟩ := hrel
                    have q5 : wr.cell? ⟨gb, 5, none⟩ = some (.slice A5 s.f2[i].f4.length c5) := (blk_cell BM9.out 5).trans rfl
                    by_cases hlk : k < s.f2[i].f4.length
                    rotate_left
                    · obtain rfl : k = s.f2[i].f4.length := by omega
                      have HN := Aside0.mk (upTo_succ HI.out (st_yes hlt HOK.out HJ.out))
                      have n0_ := HR
                      rw [seen_next hlt] at n0_
                      clear HJ HR
                      go_wp2
                      go_roundw
                      case rel => exact ⟨i + 1, by omega, by go_num, HN, n0_, HC, BK9⟩
                      case measure => simp [intOf]; omega
                    obtain ⟨Av, cv, rfl⟩ := Kd.R_slice HR.out
                    have hlen : (seenAt s i k).length ≤ 60 := by have := seen_len2 (k := k) hi HI.out; omega
                    obtain ⟨ad3, A7, c7, eA3, g0, g1, g2, g3, _⟩ := mail_at (Kd.C_below HF.out HC.out) k hlk
                    subst eA3
                    cases h6 : hasI (seenAt s i k) s.f2[i].f4[k].f0 with
                    | true =>
                      have H6 := Aside0.mk h6
                      clear h6
                      go_wp2_with fail
                      refine (spec_l06In.nice (seenAt s i k) Av cv s.f2[i].f4[k].f0 true H6.out _ (Kd.R_reads' HR.out).2.2 (Kd.R_reads' HR.out).2.1).mono ?_
                      rintro e wc ⟨rfl, hb⟩
                      have HBc := Aside0.mk hb
                      have HCc := Aside0.mk (below_then HC.out HC.out.size HBc.out)
                      clear hb
                      have HN := Aside0.mk (store_not hlt (st_no2 hlt hlk (by rw [new_of hlt hlk H6.out]; rfl)))
                      clear q5
                      go_wp2
                      go_ret
                      exact ⟨by rw [HM.out, HN.out]; rfl, HCc.out⟩
                    | false =>
                      have H6 := Aside0.mk h6
                      clear h6
                      go_wp2_with fail
                      refine (spec_l06In.nice (seenAt s i k) Av cv s.f2[i].f4[k].f0 false H6.out _ (Kd.R_reads' HR.out).2.2 (Kd.R_reads' HR.out).2.1).mono ?_
                      rintro e wc ⟨rfl, hb⟩
                      have HBc := Aside0.mk hb
                      have HCc := Aside0.mk (below_then HC.out HC.out.size HBc.out)
                      clear hb
                      have HRc := Aside0.mk (Kd.R_below HR.out HBc.out)
                      have BKc := Aside0.mk (blk_below BK9.out HBc.out)
                      have BMc := Aside0.mk (blk_below BM9.out HBc.out)
                      have HN := Aside0.mk (upTo_succ HJ.out (show newAt s i k = true by rw [new_of hlt hlk H6.out]; rfl))
                      have q5' : wc.cell? ⟨gb, 5, none⟩ = some (.slice (some ad3) s.f2[i].f4.length c5) := (blk_cell BMc.out 5).trans rfl
                      have g0' := pw_cell_below HBc.out g0
                      clear q5 g0
                      clear g1 g2 g3
                      go_wp2_with ((with_reducible refine gate_builtin (b := .append) (xs := #[.tmp 98, .tmp 105]) rfl ?_); at_builtin; refine Kd.R_append (Kd.int .i64) (w0 := w) w.heap.size rfl (.tmp 98) (.tmp 105) 23 3 (.int .i64 0) 8 rfl Try.underlying23 info3 rfl (by decide) (by omega) (.slice Av (seenAt s i k).length cv) (seenAt s i k) s.f2[i].f4[k].f0 [.int .i64 s.f2[i].f4[k].f0] (fun _ => True) (fun _ => False) rfl rfl rfl (fun _ hk => hk.elim) (fun _ _ => trivial) HRc.out HCc.out HCc.out.size (by omega) ?_; intro v1 wd hr1 hb1 hg1 hat1; have HRd := Aside0.mk hr1; have HCd := Aside0.mk hb1; have BKd := Aside0.mk (blk_grown BKc.out hg1 (Kd.R_ne HRc.out BKc.out (by decide))); have BMd := Aside0.mk (blk_grown BMc.out hg1 (Kd.R_ne HRc.out BMc.out (by decide))); clear hr1 hb1 hg1 hat1)
                      rw [seen_succ hlt hlk] at HRd
                      go_roundw
                      case rel => exact ⟨k + 1, by omega, by go_num, HN, HRd, HCd, BKd, BMd⟩
                      case measure => simp [intOf]; omega
            · have H2 := Aside0.mk h2
              have d0 : decide (0 < i) = true := decide_eq_true h0
              clear h2
              obtain ⟨ad2, _, _, _, _, eA2, f0, _⟩ := box_at (Kd.C_below G2.out HB6.out) (i - 1) (by omega)
              obtain rfl : ad = ad2 := Option.some.inj eA2
              have p1 : ∀ d os, (grow (redrawn w5 d) os).cell? (ad.add ((i - 1) * 7)) = some (.int .i64 s.f2[i - 1].f0) := fun d os => cell_regrown f0 d os
              clear f0 eA2
              cases q with
              | true =>
                refine wp_region_quiet_below (by kernel_rfl) (by kernel_rfl) ?_
                repeat (go_big_quiet_step ((first | (go_at_call 111; exact Calls.regrown_of (spec_BoxOk.nice s.f2[i] _ true H1.out _ (k47.K_below (below_regrown w5 _ _) HK6.out) hsb)))))
                refine wpQuiet_nil ?_
                intro w7 hw7
                obtain ⟨p7, hw7⟩ := hw7
                have HB7 := Aside0.mk (show Below w5.heap.size w5 w7 by rw [hw7]; exact below_regrown w5 _ _)
                clear hw7 b0 b1 b2 b3 m0 m1 m2 m3 m4 m5 m6
                have HB8 := Aside0.mk (below_then HB6.out HB6.out.size HB7.out)
                clear p1
                have HN := Aside0.mk (store_not hlt (st_no1 (by rw [boxOkAt_of hlt H1.out H2.out rfl rfl rfl]; first | rfl | simp)))
                go_wp2
                go_ret
                exact ⟨by rw [HM.out, HN.out]; rfl, HB8.out⟩
              | false =>
                by_cases h3 : boxNamed s.f2 s.f2[i].f1 = i
                rotate_left
                · have H3 := Aside0.mk (decide_eq_false h3)
                  have d3 : (boxNamed s.f2 s.f2[i].f1 != (i : Int)) = true := by rw [bne_iff_ne]; exact h3
                  clear h3
                  refine wp_region_quiet_below (by kernel_rfl) (by kernel_rfl) ?_
                  repeat (go_big_quiet_step ((first | (go_at_call 111; exact Calls.regrown_of (spec_BoxOk.nice s.f2[i] _ true H1.out _ (k47.K_below (below_regrown w5 _ _) HK6.out) hsb)) | (go_at_call 104; exact Calls.regrown_of (spec_BoxNamed.nice s _ s.f2[i].f1 _ (k29.K_below (below_regrown w5 _ _) HKS.out))))))
                  refine wpQuiet_nil ?_
                  intro w7 hw7
                  obtain ⟨p7, hw7⟩ := hw7
                  have HB7 := Aside0.mk (show Below w5.heap.size w5 w7 by rw [hw7]; exact below_regrown w5 _ _)
                  clear hw7 b0 b1 b2 b3 m0 m1 m2 m3 m4 m5 m6
                  have HB8 := Aside0.mk (below_then HB6.out HB6.out.size HB7.out)
                  have HN := Aside0.mk (store_not hlt (st_no1 (by rw [boxOkAt_of hlt H1.out H2.out H3.out rfl rfl]; first | rfl | simp)))
                  go_wp2
                  go_ret
                  exact ⟨by rw [HM.out, HN.out]; rfl, HB8.out⟩
                have H3 := Aside0.mk (decide_eq_true h3)
                have d3 : (boxNamed s.f2 s.f2[i].f1 != (i : Int)) = false := by rw [bne_eq_false_iff_eq]; exact h3
                clear h3
                cases h4 : hasI s.f3 s.f2[i].f0 with
                | true =>
                  have H4 := Aside0.mk h4
                  clear h4
                  refine wp_region_quiet_below (by kernel_rfl) (by kernel_rfl) ?_
                  repeat (go_big_quiet_step ((first | (go_at_call 111; exact Calls.regrown_of (spec_BoxOk.nice s.f2[i] _ true H1.out _ (k47.K_below (below_regrown w5 _ _) HK6.out) hsb)) | (go_at_call 104; exact Calls.regrown_of (spec_BoxNamed.nice s _ s.f2[i].f1 _ (k29.K_below (below_regrown w5 _ _) HKS.out))) | (go_at_call 152; exact Calls.regrown_of (spec_l06In.nice s.f3 A3 c3 s.f2[i].f0 true H4.out _ (Kd.C_below (Kd.C_below G3.out HB6.out) (below_regrown w5 _ _)) l3)))))
                  refine wpQuiet_nil ?_
                  intro w7 hw7
                  obtain ⟨p7, hw7⟩ := hw7
                  have HB7 := Aside0.mk (show Below w5.heap.size w5 w7 by rw [hw7]; exact below_regrown w5 _ _)
                  clear hw7 b0 b1 b2 b3 m0 m1 m2 m3 m4 m5 m6
                  have HB8 := Aside0.mk (below_then HB6.out HB6.out.size HB7.out)
                  have HN := Aside0.mk (store_not hlt (st_no1 (by rw [boxOkAt_of hlt H1.out H2.out H3.out H4.out rfl]; first | rfl | simp)))
                  go_wp2
                  go_ret
                  exact ⟨by rw [HM.out, HN.out]; rfl, HB8.out⟩
                | false =>
                  have H4 := Aside0.mk h4
                  clear h4
                  cases h5 : lateI s.f2[i] s.f1 with
                  | true =>
                    have H5 := Aside0.mk h5
                    clear h5
                    refine wp_region_quiet_below (by kernel_rfl) (by kernel_rfl) ?_
                    repeat (go_big_quiet_step ((first | (go_at_call 111; exact Calls.regrown_of (spec_BoxOk.nice s.f2[i] _ true H1.out _ (k47.K_below (below_regrown w5 _ _) HK6.out) hsb)) | (go_at_call 104; exact Calls.regrown_of (spec_BoxNamed.nice s _ s.f2[i].f1 _ (k29.K_below (below_regrown w5 _ _) HKS.out))) | (go_at_call 152; exact Calls.regrown_of (spec_l06In.nice s.f3 A3 c3 s.f2[i].f0 false H4.out _ (Kd.C_below (Kd.C_below G3.out HB6.out) (below_regrown w5 _ _)) l3)) | (go_at_call 153; exact Calls.regrown_of (spec_l07Times.nice2 s.f2[i] _ s.f1 false H5.out _ (k47.K_below (below_regrown w5 _ _) HK6.out))))))
                    refine wpQuiet_nil ?_
                    intro w7 hw7
                    obtain ⟨p7, hw7⟩ := hw7
                    have HB7 := Aside0.mk (show Below w5.heap.size w5 w7 by rw [hw7]; exact below_regrown w5 _ _)
                    clear hw7 b0 b1 b2 b3 m0 m1 m2 m3 m4 m5 m6
                    have HB8 := Aside0.mk (below_then HB6.out HB6.out.size HB7.out)
                    have HN := Aside0.mk (store_not hlt (st_no1 (by rw [boxOkAt_of hlt H1.out H2.out H3.out H4.out H5.out]; first | rfl | simp)))
                    go_wp2
                    go_ret
                    exact ⟨by rw [HM.out, HN.out]; rfl, HB8.out⟩
                  | false =>
                    have H5 := Aside0.mk h5
                    clear h5
                    refine wp_region_quiet_below (by kernel_rfl) (by kernel_rfl) ?_
                    repeat (go_big_quiet_step ((first | (go_at_call 111; exact Calls.regrown_of (spec_BoxOk.nice s.f2[i] _ true H1.out _ (k47.K_below (below_regrown w5 _ _) HK6.out) hsb)) | (go_at_call 104; exact Calls.regrown_of (spec_BoxNamed.nice s _ s.f2[i].f1 _ (k29.K_below (below_regrown w5 _ _) HKS.out))) | (go_at_call 152; exact Calls.regrown_of (spec_l06In.nice s.f3 A3 c3 s.f2[i].f0 false H4.out _ (Kd.C_below (Kd.C_below G3.out HB6.out) (below_regrown w5 _ _)) l3)) | (go_at_call 153; exact Calls.regrown_of (spec_l07Times.nice2 s.f2[i] _ s.f1 true H5.out _ (k47.K_below (below_regrown w5 _ _) HK6.out))))))
                    refine wpQuiet_nil ?_
                    intro w7 hw7
                    obtain ⟨p7, hw7⟩ := hw7
                    have HB7 := Aside0.mk (show Below w5.heap.size w5 w7 by rw [hw7]; exact below_regrown w5 _ _)
                    clear hw7 b0 b1 b2 b3 m0 m1 m2 m3 m4 m5 m6
                    have HB8 := Aside0.mk (below_then HB6.out HB6.out.size HB7.out)
                    have HOK := Aside0.mk (show boxOkAt s i = true by rw [boxOkAt_of hlt H1.out H2.out H3.out H4.out H5.out]; rfl)
                    have BK7 := Aside0.mk (blk_below BK6.out HB7.out)
                    have BM7 := Aside0.mk (blk_below BM.out HB7.out)
                    have HO7 := Aside0.mk (Kd.R_below HO6.out HB7.out)
                    have h10 := box_small H1.out
                    have h5b : i ≤ 5 := by have := HH.out; unfold storeHead at this; simp only [Bool.and_eq_true, decide_eq_true_eq] at this; omega
                    clear H1 H2 H3 H4 H5
                    generalize wr.heap.size = gb at BM7 ⊢
                    go_wp2
                    go_loopw [3, 6] (fun v3 v wi => ∃ k : Nat, k ≤ s.f2[i].f4.length ∧ v = .int .i64 k ∧ Aside0 (∀ j, j < k → newAt s i j = true) ∧ Aside0 (Kd.R (Kd.int .i64) 3 wi w.heap.size (fun _ => True) v3 (seenAt s i k)) ∧ Aside0 (Below w.heap.size w wi) ∧ Aside0 (wi.heap[w.heap.size]? = some (.cells #[.int .i64 s.f0, .int .i64 s.f1, .slice (some ad) s.f2.length c2, .slice A3 s.f3.length c3] 29 (0, 0))) ∧ Aside0 (wi.heap[gb]? = some (.cells #[.int .i64 s.f2[i].f0, .string s.f2[i].f1, .int .i64 s.f2[i].f2.f0, .int .i64 s.f2[i].f2.f1, .int .i64 s.f2[i].f3, .slice A5 s.f2[i].f4.length c5, .slice A6 s.f2[i].f5.length c6] 47 (0, 0)))) (fun _ v _ => s.f2[i].f4.length - (intOf v).toNat)
                    case atStart => exact ⟨0, Nat.zero_le _, rfl, ⟨fun j h => absurd h (Nat.not_lt_zero _)⟩, HO7, HB8, BK7, BM7⟩
                    case round =>
                      obtain ⟨k, hk, rfl, HJ, HR, HC, BK9, BM9⟩ := hrel
                      have q5 : wr.cell? ⟨gb, 5, none⟩ = some (.slice A5 s.f2[i].f4.length c5) := (blk_cell BM9.out 5).trans rfl
                      by_cases hlk : k < s.f2[i].f4.length
                      rotate_left
                      · obtain rfl : k = s.f2[i].f4.length := by omega
                        have HN := Aside0.mk (upTo_succ HI.out (st_yes hlt HOK.out HJ.out))
                        have n0_ := HR
                        rw [seen_next hlt] at n0_
                        clear HJ HR
                        go_wp2
                        go_roundw
                        case rel => exact ⟨i + 1, by omega, by go_num, HN, n0_, HC, BK9⟩
                        case measure => simp [intOf]; omega
                      obtain ⟨Av, cv, rfl⟩ := Kd.R_slice HR.out
                      have hlen : (seenAt s i k).length ≤ 60 := by have := seen_len2 (k := k) hi HI.out; omega
                      obtain ⟨ad3, A7, c7, eA3, g0, g1, g2, g3, _⟩ := mail_at (Kd.C_below HF.out HC.out) k hlk
                      subst eA3
                      cases h6 : hasI (seenAt s i k) s.f2[i].f4[k].f0 with
                      | true =>
                        have H6 := Aside0.mk h6
                        clear h6
                        go_wp2_with fail
                        refine (spec_l06In.nice (seenAt s i k) Av cv s.f2[i].f4[k].f0 true H6.out _ (Kd.R_reads' HR.out).2.2 (Kd.R_reads' HR.out).2.1).mono ?_
                        rintro e wc ⟨rfl, hb⟩
                        have HBc := Aside0.mk hb
                        have HCc := Aside0.mk (below_then HC.out HC.out.size HBc.out)
                        clear hb
                        have HN := Aside0.mk (store_not hlt (st_no2 hlt hlk (by rw [new_of hlt hlk H6.out]; rfl)))
                        clear q5
                        go_wp2
                        go_ret
                        exact ⟨by rw [HM.out, HN.out]; rfl, HCc.out⟩
                      | false =>
                        have H6 := Aside0.mk h6
                        clear h6
                        go_wp2_with fail
                        refine (spec_l06In.nice (seenAt s i k) Av cv s.f2[i].f4[k].f0 false H6.out _ (Kd.R_reads' HR.out).2.2 (Kd.R_reads' HR.out).2.1).mono ?_
                        rintro e wc ⟨rfl, hb⟩
                        have HBc := Aside0.mk hb
                        have HCc := Aside0.mk (below_then HC.out HC.out.size HBc.out)
                        clear hb
                        have HRc := Aside0.mk (Kd.R_below HR.out HBc.out)
                        have BKc := Aside0.mk (blk_below BK9.out HBc.out)
                        have BMc := Aside0.mk (blk_below BM9.out HBc.out)
                        have HN := Aside0.mk (upTo_succ HJ.out (show newAt s i k = true by rw [new_of hlt hlk H6.out]; rfl))
                        have q5' : wc.cell? ⟨gb, 5, none⟩ = some (.slice (some ad3) s.f2[i].f4.length c5) := (blk_cell BMc.out 5).trans rfl
                        have g0' := pw_cell_below HBc.out g0
                        clear q5 g0
                        clear g1 g2 g3
                        go_wp2_with ((with_reducible refine gate_builtin (b := .append) (xs := #[.tmp 98, .tmp 105]) rfl ?_); at_builtin; refine Kd.R_append (Kd.int .i64) (w0 := w) w.heap.size rfl (.tmp 98) (.tmp 105) 23 3 (.int .i64 0) 8 rfl Try.underlying23 info3 rfl (by decide) (by omega) (.slice Av (seenAt s i k).length cv) (seenAt s i k) s.f2[i].f4[k].f0 [.int .i64 s.f2[i].f4[k].f0] (fun _ => True) (fun _ => False) rfl rfl rfl (fun _ hk => hk.elim) (fun _ _ => trivial) HRc.out HCc.out HCc.out.size (by omega) ?_; intro v1 wd hr1 hb1 hg1 hat1; have HRd := Aside0.mk hr1; have HCd := Aside0.mk hb1; have BKd := Aside0.mk (blk_grown BKc.out hg1 (Kd.R_ne HRc.out BKc.out (by decide))); have BMd := Aside0.mk (blk_grown BMc.out hg1 (Kd.R_ne HRc.out BMc.out (by decide))); clear hr1 hb1 hg1 hat1)
                        rw [seen_succ hlt hlk] at HRd
                        go_roundw
                        case rel => exact ⟨k + 1, by omega, by go_num, HN, HRd, HCd, BKd, BMd⟩
                        case measure => simp [intOf]; omega
end Go.Proofs.Ytjheiahfhknakaa.G
