/- impl.BoxOk tells whether a box is right (boxI). Condition: the box can be read, its name is no longer than a slice may be. -/
import Derived.Test.YtjheiahfhknakaaRead4
import Derived.Lib.QuietBelow
import Derived.BigQuiet
import Derived.Outline
namespace Go.Proofs.Ytjheiahfhknakaa.G
open Go.Sort Go.RowKit Go.Proofs.YtjheiahfhknakaaW.PrintWords Go.Proofs.YtjheiahfhknakaaW.PrintLast Go.Proofs.YtjheiahfhknakaaW.PrintMore
set_option linter.unusedVariables false
set_option linter.unusedSimpArgs false
theorem box_head {b : S47} (h : boxHead b = false) : boxI b = false := by unfold boxI; rw [h, Bool.false_and]
theorem box_not {b : S47} {i : Nat} (hi : i < b.f4.length) (h : mailOkAt b i = false) : boxI b = false := by unfold boxI; rw [allR_false hi h, Bool.and_false]
theorem box_all {b : S47} (h0 : boxHead b = true) (h : ∀ j, j < b.f4.length → mailOkAt b j = true) : boxI b = true := by unfold boxI; rw [h0, allR_true h]; rfl
theorem head_of {b : S47} {h1 h2 h3 h4 h5 h6 : Bool} (e1 : gidB b.f0 = h1) (e2 : nameI b.f1 = h2) (e3 : stampI b.f2 = h3) (e4 : inI b.f3 1 10000 = h4) (e5 : decide (b.f4.length ≤ 10) = h5) (e6 : sortI b.f5 40 = h6) : boxHead b = (h1 && (h2 && (h3 && (h4 && (h5 && h6))))) := by
  unfold boxHead
  rw [e1, e2, e3, e4, e5, e6]
theorem okAt_of {b : S47} {i : Nat} (hi : i < b.f4.length) {h1 h2 h3 h4 h5 : Bool} (e1 : mailI b.f4[i] = h1) (e2 : decide (b.f4[i].f1 < b.f3) = h2) (e3 : (decide (i = 0) || decide ((b.f4.getD (i - 1) z69).f1 < b.f4[i].f1)) = h3) (e4 : decide (mailAt b.f4 b.f4[i].f0 = i) = h4) (e5 : hasI b.f5 b.f4[i].f0 = h5) :
    mailOkAt b i = (h1 && (h2 && (h3 && (h4 && !h5)))) := by
  unfold mailOkAt
  rw [getD_at hi, e1, e2, e3, e4, e5]
theorem prev_of {b : S47} {i : Nat} (h0 : 0 < i) (hi : i - 1 < b.f4.length) (x : Int) : (decide (i = 0) || decide ((b.f4.getD (i - 1) z69).f1 < x)) = decide (b.f4[i - 1].f1 < x) := by
  rw [getD_at hi, decide_eq_false (show ¬ i = 0 by omega), Bool.false_or]
theorem prev_no {b : S47} {i : Nat} (h0 : ¬ 0 < i) (x : Int) : (decide (i = 0) || decide ((b.f4.getD (i - 1) z69).f1 < x)) = true := by
  rw [decide_eq_true (show i = 0 by omega), Bool.true_or]
set_option maxRecDepth 100000 in
set_option maxHeartbeats 4000000 in
theorem impl_BoxOk.nice (b : S47) (cs : Array Value) (r : Bool) (hr : boxI b = r) (w : World) (hb : k47.K w b cs.toList) (hs : b.f1.size ≤ 9223372036854775807) :
    Calls Try.prog 80 #[.agg cs] w fun e w' => e = .returned (.bool r) ∧ Below w.heap.size w w' := by
  have HM := Aside0.mk hr.symm
  obtain ⟨A5, c5, A6, c6, e, l5, g5, l6, g6⟩ := k47_open hb
  obtain rfl : cs = _ := Array.ext' e
  have G5 := Aside0.mk g5
  have G6 := Aside0.mk g6
  have hmx : b.f4.length ≤ 9223372036854775807 := Kd.C_max g5
  clear hr hb e g5 g6
  obtain ⟨w1, hw1⟩ : ∃ w1, w.alloc (.cells #[.int .i64 b.f0, .string b.f1, .int .i64 b.f2.f0, .int .i64 b.f2.f1, .int .i64 b.f3, .slice A5 b.f4.length c5, .slice A6 b.f5.length c6] 47) = w1 := ⟨_, rfl⟩
  have BK := Aside0.mk (show w1.heap[w.heap.size]? = some (.cells #[.int .i64 b.f0, .string b.f1, .int .i64 b.f2.f0, .int .i64 b.f2.f1, .int .i64 b.f3, .slice A5 b.f4.length c5, .slice A6 b.f5.length c6] 47 (0, 0)) by rw [← hw1]; exact heap_alloc_new w _)
  have HB := Aside0.mk (show Below w.heap.size w w1 by rw [← hw1]; exact below_alloc (Below.refl _ _) _)
  have HW := Aside0.mk hw1
  clear hw1
  go_enter Try.func80, Try.ntmps80
  go_wp2_with fail
  rw [HW.out]
  clear HW
  cases h1 : gidB b.f0 with
  | false =>
    have H1 := Aside0.mk h1
    clear h1
    refine (impl_isGid.nice b.f0 false H1.out _).mono ?_
    rintro e wx ⟨rfl, rfl⟩
    go_wp2
    go_ret
    exact ⟨by rw [show r = false from by rw [HM.out]; exact box_head (by rw [head_of H1.out rfl rfl rfl rfl rfl]; rfl)]; rfl, HB.out⟩
  | true =>
    have H1 := Aside0.mk h1
    clear h1
    refine (impl_isGid.nice b.f0 true H1.out _).mono ?_
    rintro e wx ⟨rfl, rfl⟩
    cases h2 : nameI b.f1 with
    | false =>
      have H2 := Aside0.mk h2
      clear h2
      have q1 : w1.cell? ⟨w.heap.size, 1, none⟩ = some (.string b.f1) := (blk_cell BK.out 1).trans rfl
      go_wp2_with fail
      refine (impl_NameOk.nice b.f1 false H2.out _ hs).mono ?_
      rintro e w3 ⟨rfl, hb⟩
      have n0_ := Aside0.mk (below_then HB.out HB.out.size hb)
      have n1_ := Aside0.mk (blk_below BK.out hb)
      clear q1
      clear HB BK hb
      have HB := n0_
      have BK := n1_
      clear n0_ n1_
      go_wp2
      go_ret
      exact ⟨by rw [show r = false from by rw [HM.out]; exact box_head (by rw [head_of H1.out H2.out rfl rfl rfl rfl]; rfl)]; rfl, HB.out⟩
    | true =>
      have H2 := Aside0.mk h2
      clear h2
      have q1 : w1.cell? ⟨w.heap.size, 1, none⟩ = some (.string b.f1) := (blk_cell BK.out 1).trans rfl
      go_wp2_with fail
      refine (impl_NameOk.nice b.f1 true H2.out _ hs).mono ?_
      rintro e w3 ⟨rfl, hb⟩
      have n0_ := Aside0.mk (below_then HB.out HB.out.size hb)
      have n1_ := Aside0.mk (blk_below BK.out hb)
      clear q1
      clear HB BK hb
      have HB := n0_
      have BK := n1_
      clear n0_ n1_
      cases h3 : stampI b.f2 with
      | false =>
        have H3 := Aside0.mk h3
        clear h3
        have q2 : w3.cell? ⟨w.heap.size, 2, none⟩ = some (.int .i64 b.f2.f0) := (blk_cell BK.out 2).trans rfl
        have q3 : w3.cell? ⟨w.heap.size, 3, none⟩ = some (.int .i64 b.f2.f1) := (blk_cell BK.out 3).trans rfl
        go_wp2_with fail
        refine (impl_StampOk.nice b.f2 false H3.out _).mono ?_
        rintro e w4 ⟨rfl, hb⟩
        have n0_ := Aside0.mk (below_then HB.out HB.out.size hb)
        have n1_ := Aside0.mk (blk_below BK.out hb)
        clear q2
        clear q3
        clear HB BK hb
        have HB := n0_
        have BK := n1_
        clear n0_ n1_
        go_wp2
        go_ret
        exact ⟨by rw [show r = false from by rw [HM.out]; exact box_head (by rw [head_of H1.out H2.out H3.out rfl rfl rfl]; rfl)]; rfl, HB.out⟩
      | true =>
        have H3 := Aside0.mk h3
        clear h3
        have q2 : w3.cell? ⟨w.heap.size, 2, none⟩ = some (.int .i64 b.f2.f0) := (blk_cell BK.out 2).trans rfl
        have q3 : w3.cell? ⟨w.heap.size, 3, none⟩ = some (.int .i64 b.f2.f1) := (blk_cell BK.out 3).trans rfl
        go_wp2_with fail
        refine (impl_StampOk.nice b.f2 true H3.out _).mono ?_
        rintro e w4 ⟨rfl, hb⟩
        have n0_ := Aside0.mk (below_then HB.out HB.out.size hb)
        have n1_ := Aside0.mk (blk_below BK.out hb)
        clear q2
        clear q3
        clear HB BK hb
        have HB := n0_
        have BK := n1_
        clear n0_ n1_
        cases h4 : inI b.f3 1 10000 with
        | false =>
          have H4 := Aside0.mk h4
          clear h4
          have q4 : w4.cell? ⟨w.heap.size, 4, none⟩ = some (.int .i64 b.f3) := (blk_cell BK.out 4).trans rfl
          go_wp2_with fail
          refine (impl_within.nice b.f3 1 10000 false H4.out _).mono ?_
          rintro e wx ⟨rfl, rfl⟩
          go_wp2
          go_ret
          exact ⟨by rw [show r = false from by rw [HM.out]; exact box_head (by rw [head_of H1.out H2.out H3.out H4.out rfl rfl]; rfl)]; rfl, HB.out⟩
        | true =>
          have H4 := Aside0.mk h4
          clear h4
          have q4 : w4.cell? ⟨w.heap.size, 4, none⟩ = some (.int .i64 b.f3) := (blk_cell BK.out 4).trans rfl
          go_wp2_with fail
          refine (impl_within.nice b.f3 1 10000 true H4.out _).mono ?_
          rintro e wx ⟨rfl, rfl⟩
          clear q4
          by_cases h5 : b.f4.length ≤ 10
          rotate_left
          · have H5 := Aside0.mk (decide_eq_false h5)
            have h5' : 10 < b.f4.length := by omega
            clear h5
            have q5 : w4.cell? ⟨w.heap.size, 5, none⟩ = some (.slice A5 b.f4.length c5) := (blk_cell BK.out 5).trans rfl
            go_wp2
            go_ret
            exact ⟨by rw [show r = false from by rw [HM.out]; exact box_head (by rw [head_of H1.out H2.out H3.out H4.out H5.out rfl]; rfl)]; rfl, HB.out⟩
          have H5 := Aside0.mk (decide_eq_true h5)
          have q5 : w4.cell? ⟨w.heap.size, 5, none⟩ = some (.slice A5 b.f4.length c5) := (blk_cell BK.out 5).trans rfl
          cases h6 : sortI b.f5 40 with
          | false =>
            have H6 := Aside0.mk h6
            clear h6
            have q6 : w4.cell? ⟨w.heap.size, 6, none⟩ = some (.slice A6 b.f5.length c6) := (blk_cell BK.out 6).trans rfl
            go_wp2_with fail
            refine (impl_areGids.nice b.f5 A6 c6 40 false H6.out _ (Kd.C_below G6.out HB.out) l6).mono ?_
            rintro e w7 ⟨rfl, hb⟩
            have n0_ := Aside0.mk (below_then HB.out HB.out.size hb)
            have n1_ := Aside0.mk (blk_below BK.out hb)
            clear q6
            clear q5
            clear HB BK hb
            have HB := n0_
            have BK := n1_
            clear n0_ n1_
            go_wp2
            go_ret
            exact ⟨by rw [show r = false from by rw [HM.out]; exact box_head (by rw [head_of H1.out H2.out H3.out H4.out H5.out H6.out]; rfl)]; rfl, HB.out⟩
          | true =>
            have H6 := Aside0.mk h6
            clear h6
            have q6 : w4.cell? ⟨w.heap.size, 6, none⟩ = some (.slice A6 b.f5.length c6) := (blk_cell BK.out 6).trans rfl
            go_wp2_with fail
            refine (impl_areGids.nice b.f5 A6 c6 40 true H6.out _ (Kd.C_below G6.out HB.out) l6).mono ?_
            rintro e w7 ⟨rfl, hb⟩
            have n0_ := Aside0.mk (below_then HB.out HB.out.size hb)
            have n1_ := Aside0.mk (blk_below BK.out hb)
            clear q6
            clear q5
            clear HB BK hb
            have HB := n0_
            have BK := n1_
            clear n0_ n1_
            have HH := Aside0.mk (show boxHead b = true by rw [head_of H1.out H2.out H3.out H4.out H5.out H6.out]; rfl)
            clear H1 H2 H3 H4 H5 H6
            have q5 : w7.cell? ⟨w.heap.size, 5, none⟩ = some (.slice A5 b.f4.length c5) := (blk_cell BK.out 5).trans rfl
            go_wp2
            clear q5
            go_loopw [42] (fun v wr => ∃ i : Nat, i ≤ b.f4.length ∧ v = .int .i64 i ∧ Aside0 (∀ j, j < i → mailOkAt b j = true) ∧ Aside0 (Below w.heap.size w wr) ∧ Aside0 (wr.heap[w.heap.size]? = some (.cells #[.int .i64 b.f0, .string b.f1, .int .i64 b.f2.f0, .int .i64 b.f2.f1, .int .i64 b.f3, .slice A5 b.f4.length c5, .slice A6 b.f5.length c6] 47 (0, 0)))) (fun v _ => b.f4.length - (intOf v).toNat)
            case atStart => exact ⟨0, Nat.zero_le _, rfl, ⟨fun j h => absurd h (Nat.not_lt_zero _)⟩, HB, BK⟩
            case round =>
              clear HB BK
              obtain ⟨i, hi, rfl, HI, HB, BK⟩ := hrel
              by_cases hlt : i < b.f4.length
              rotate_left
              · obtain rfl : i = b.f4.length := by omega
                have HN := Aside0.mk (box_all HH.out HI.out)
                clear HI hlt
                go_wp2
                go_ret
                exact ⟨by rw [HM.out, HN.out]; rfl, HB.out⟩
              have HG : w.heap.size < wr.heap.size := blk_lt BK.out
              obtain ⟨ad, A2, c2, eA, e0, e1, e2, e3, hK⟩ := mail_at (Kd.C_below G5.out HB.out) i hlt
              have HK := Aside0.mk hK
              clear hK
              obtain ⟨w5, hw5⟩ : ∃ w5, wr.alloc (.cells #[.int .i64 b.f4[i].f0, .int .i64 b.f4[i].f1, .slice A2 b.f4[i].f2.length c2, .string b.f4[i].f3] 69) = w5 := ⟨_, rfl⟩
              have BM := Aside0.mk (show w5.heap[wr.heap.size]? = some (.cells #[.int .i64 b.f4[i].f0, .int .i64 b.f4[i].f1, .slice A2 b.f4[i].f2.length c2, .string b.f4[i].f3] 69 (0, 0)) by rw [← hw5]; exact heap_alloc_new wr _)
              have HB5 := Aside0.mk (show Below wr.heap.size wr w5 by rw [← hw5]; exact below_alloc (Below.refl _ _) _)
              have HW5 := Aside0.mk hw5
              clear hw5
              subst eA
              go_wp2
              rw [HW5.out]
              have HB6 := Aside0.mk (below_then HB.out HB.out.size HB5.out)
              have BK6 := Aside0.mk (blk_below BK.out HB5.out)
              have HK6 := Aside0.mk (k69.K_below HB5.out HK.out)
              have HKB := Aside0.mk (k47_mk w5 b l5 (Kd.C_below G5.out HB6.out) l6 (Kd.C_below G6.out HB6.out))
              clear e0 e1 e2 e3
              have b0 : ∀ d os, (grow (redrawn w5 d) os).cell? ⟨w.heap.size, 0, none⟩ = some (.int .i64 b.f0) := fun d os => cell_regrown ((blk_cell BK6.out 0).trans rfl) d os
              have b1 : ∀ d os, (grow (redrawn w5 d) os).cell? ⟨w.heap.size, 1, none⟩ = some (.string b.f1) := fun d os => cell_regrown ((blk_cell BK6.out 1).trans rfl) d os
              have b2 : ∀ d os, (grow (redrawn w5 d) os).cell? ⟨w.heap.size, 2, none⟩ = some (.int .i64 b.f2.f0) := fun d os => cell_regrown ((blk_cell BK6.out 2).trans rfl) d os
              have b3 : ∀ d os, (grow (redrawn w5 d) os).cell? ⟨w.heap.size, 3, none⟩ = some (.int .i64 b.f2.f1) := fun d os => cell_regrown ((blk_cell BK6.out 3).trans rfl) d os
              have b4 : ∀ d os, (grow (redrawn w5 d) os).cell? ⟨w.heap.size, 4, none⟩ = some (.int .i64 b.f3) := fun d os => cell_regrown ((blk_cell BK6.out 4).trans rfl) d os
              have b5 : ∀ d os, (grow (redrawn w5 d) os).cell? ⟨w.heap.size, 5, none⟩ = some (.slice (some ad) b.f4.length c5) := fun d os => cell_regrown ((blk_cell BK6.out 5).trans rfl) d os
              have b6 : ∀ d os, (grow (redrawn w5 d) os).cell? ⟨w.heap.size, 6, none⟩ = some (.slice A6 b.f5.length c6) := fun d os => cell_regrown ((blk_cell BK6.out 6).trans rfl) d os
              have m0 : ∀ d os, (grow (redrawn w5 d) os).cell? ⟨wr.heap.size, 0, none⟩ = some (.int .i64 b.f4[i].f0) := fun d os => cell_regrown ((blk_cell BM.out 0).trans rfl) d os
              have m1 : ∀ d os, (grow (redrawn w5 d) os).cell? ⟨wr.heap.size, 1, none⟩ = some (.int .i64 b.f4[i].f1) := fun d os => cell_regrown ((blk_cell BM.out 1).trans rfl) d os
              have m2 : ∀ d os, (grow (redrawn w5 d) os).cell? ⟨wr.heap.size, 2, none⟩ = some (.slice A2 b.f4[i].f2.length c2) := fun d os => cell_regrown ((blk_cell BM.out 2).trans rfl) d os
              have m3 : ∀ d os, (grow (redrawn w5 d) os).cell? ⟨wr.heap.size, 3, none⟩ = some (.string b.f4[i].f3) := fun d os => cell_regrown ((blk_cell BM.out 3).trans rfl) d os
              cases h1 : mailI b.f4[i] with
              | false =>
                have H1 := Aside0.mk h1
                clear h1
                refine wp_region_quiet_below (by kernel_rfl) (by kernel_rfl) ?_
                repeat (go_big_quiet_step ((first | (go_at_call 68; exact Calls.regrown_of (impl_MailOk.nice b.f4[i] _ false H1.out _ (k69.K_below (below_regrown w5 _ _) HK6.out))))))
                refine wpQuiet_nil ?_
                intro w7 hw7
                obtain ⟨p7, hw7⟩ := hw7
                have HB7 := Aside0.mk (show Below w5.heap.size w5 w7 by rw [hw7]; exact below_regrown w5 _ _)
                clear hw7 b0 b1 b2 b3 b4 b5 b6 m0 m1 m2 m3
                have HB8 := Aside0.mk (below_then HB6.out HB6.out.size HB7.out)
                have HN := Aside0.mk (box_not hlt (by rw [okAt_of hlt H1.out rfl rfl rfl rfl]; rfl))
                go_wp2
                go_ret
                exact ⟨by rw [HM.out, HN.out]; rfl, HB8.out⟩
              | true =>
                have H1 := Aside0.mk h1
                clear h1
                by_cases h2 : b.f4[i].f1 < b.f3
                rotate_left
                · have H2 := Aside0.mk (decide_eq_false h2)
                  have d2 : decide (b.f3 ≤ b.f4[i].f1) = true := decide_eq_true (by omega)
                  clear h2
                  refine wp_region_quiet_below (by kernel_rfl) (by kernel_rfl) ?_
                  repeat (go_big_quiet_step ((first | (go_at_call 68; exact Calls.regrown_of (impl_MailOk.nice b.f4[i] _ true H1.out _ (k69.K_below (below_regrown w5 _ _) HK6.out))))))
                  refine wpQuiet_nil ?_
                  intro w7 hw7
                  obtain ⟨p7, hw7⟩ := hw7
                  have HB7 := Aside0.mk (show Below w5.heap.size w5 w7 by rw [hw7]; exact below_regrown w5 _ _)
                  clear hw7 b0 b1 b2 b3 b4 b5 b6 m0 m1 m2 m3
                  have HB8 := Aside0.mk (below_then HB6.out HB6.out.size HB7.out)
                  have HN := Aside0.mk (box_not hlt (by rw [okAt_of hlt H1.out H2.out rfl rfl rfl]; rfl))
                  go_wp2
                  go_ret
                  exact ⟨by rw [HM.out, HN.out]; rfl, HB8.out⟩
                have H2 := Aside0.mk (decide_eq_true h2)
                have d2 : decide (b.f3 ≤ b.f4[i].f1) = false := decide_eq_false (by omega)
                clear h2
                have hx : (¬ 0 < i ∧ (decide (i = 0) || decide ((b.f4.getD (i - 1) z69).f1 < b.f4[i].f1)) = true ∧ True) ∨ (0 < i ∧ ∃ q : Bool, decide (b.f4[i].f1 ≤ b.f4[i - 1].f1) = q ∧ (decide (i = 0) || decide ((b.f4.getD (i - 1) z69).f1 < b.f4[i].f1)) = !q) := by
                  by_cases h0 : 0 < i
                  · refine .inr ⟨h0, _, rfl, ?_⟩
                    rw [prev_of h0 (by omega)]
                    by_cases hq : b.f4[i].f1 ≤ b.f4[i - 1].f1
                    · rw [decide_eq_true hq, decide_eq_false (by omega)]; rfl
                    · rw [decide_eq_false hq, decide_eq_true (by omega)]; rfl
                  · exact .inl ⟨h0, prev_no h0 _, trivial⟩
                rcases hx with ⟨h0, h3, _⟩ | ⟨h0, q, hq, h3⟩
                · have H3 := Aside0.mk h3
                  have d0 : decide (0 < i) = false := decide_eq_false h0
                  clear h3
                  by_cases h4 : mailAt b.f4 b.f4[i].f0 = i
                  rotate_left
                  · have H4 := Aside0.mk (decide_eq_false h4)
                    have d4 : (mailAt b.f4 b.f4[i].f0 != (i : Int)) = true := by rw [bne_iff_ne]; exact h4
                    clear h4
                    refine wp_region_quiet_below (by kernel_rfl) (by kernel_rfl) ?_
                    repeat (go_big_quiet_step ((first | (go_at_call 68; exact Calls.regrown_of (impl_MailOk.nice b.f4[i] _ true H1.out _ (k69.K_below (below_regrown w5 _ _) HK6.out))) | (go_at_call 81; exact Calls.regrown_of (impl_MailAt.calls b _ b.f4[i].f0 _ (k47.K_below (below_regrown w5 _ _) HKB.out))))))
                    refine wpQuiet_nil ?_
                    intro w7 hw7
                    obtain ⟨p7, hw7⟩ := hw7
                    have HB7 := Aside0.mk (show Below w5.heap.size w5 w7 by rw [hw7]; exact below_regrown w5 _ _)
                    clear hw7 b0 b1 b2 b3 b4 b5 b6 m0 m1 m2 m3
                    have HB8 := Aside0.mk (below_then HB6.out HB6.out.size HB7.out)
                    have HN := Aside0.mk (box_not hlt (by rw [okAt_of hlt H1.out H2.out H3.out H4.out rfl]; rfl))
                    go_wp2
                    go_ret
                    exact ⟨by rw [HM.out, HN.out]; rfl, HB8.out⟩
                  have H4 := Aside0.mk (decide_eq_true h4)
                  have d4 : (mailAt b.f4 b.f4[i].f0 != (i : Int)) = false := by rw [bne_eq_false_iff_eq]; exact h4
                  clear h4
                  cases h5 : hasI b.f5 b.f4[i].f0 with
                  | true =>
                    have H5 := Aside0.mk h5
                    clear h5
                    refine wp_region_quiet_below (by kernel_rfl) (by kernel_rfl) ?_
                    repeat (go_big_quiet_step ((first | (go_at_call 68; exact Calls.regrown_of (impl_MailOk.nice b.f4[i] _ true H1.out _ (k69.K_below (below_regrown w5 _ _) HK6.out))) | (go_at_call 81; exact Calls.regrown_of (impl_MailAt.calls b _ b.f4[i].f0 _ (k47.K_below (below_regrown w5 _ _) HKB.out))) | (go_at_call 155; exact Calls.regrown_of (slices_ContainsInt.nice b.f5 A6 c6 b.f4[i].f0 true H5.out _ (Kd.C_below (Kd.C_below G6.out HB6.out) (below_regrown w5 _ _)) l6)))))
                    refine wpQuiet_nil ?_
                    intro w7 hw7
                    obtain ⟨p7, hw7⟩ := hw7
                    have HB7 := Aside0.mk (show Below w5.heap.size w5 w7 by rw [hw7]; exact below_regrown w5 _ _)
                    clear hw7 b0 b1 b2 b3 b4 b5 b6 m0 m1 m2 m3
                    have HB8 := Aside0.mk (below_then HB6.out HB6.out.size HB7.out)
                    have HN := Aside0.mk (box_not hlt (by rw [okAt_of hlt H1.out H2.out H3.out H4.out H5.out]; rfl))
                    go_wp2
                    go_ret
                    exact ⟨by rw [HM.out, HN.out]; rfl, HB8.out⟩
                  | false =>
                    have H5 := Aside0.mk h5
                    clear h5
                    refine wp_region_quiet_below (by kernel_rfl) (by kernel_rfl) ?_
                    repeat (go_big_quiet_step ((first | (go_at_call 68; exact Calls.regrown_of (impl_MailOk.nice b.f4[i] _ true H1.out _ (k69.K_below (below_regrown w5 _ _) HK6.out))) | (go_at_call 81; exact Calls.regrown_of (impl_MailAt.calls b _ b.f4[i].f0 _ (k47.K_below (below_regrown w5 _ _) HKB.out))) | (go_at_call 155; exact Calls.regrown_of (slices_ContainsInt.nice b.f5 A6 c6 b.f4[i].f0 false H5.out _ (Kd.C_below (Kd.C_below G6.out HB6.out) (below_regrown w5 _ _)) l6)))))
                    refine wpQuiet_nil ?_
                    intro w7 hw7
                    obtain ⟨p7, hw7⟩ := hw7
                    have HB7 := Aside0.mk (show Below w5.heap.size w5 w7 by rw [hw7]; exact below_regrown w5 _ _)
                    clear hw7 b0 b1 b2 b3 b4 b5 b6 m0 m1 m2 m3
                    have HB8 := Aside0.mk (below_then HB6.out HB6.out.size HB7.out)
                    have HN := Aside0.mk (upTo_succ HI.out (show mailOkAt b i = true by rw [okAt_of hlt H1.out H2.out H3.out H4.out H5.out]; rfl))
                    have HBK := Aside0.mk (blk_below BK6.out HB7.out)
                    go_wp2
                    go_roundw
                    case rel => exact ⟨i + 1, by omega, by go_num, HN, HB8, HBK⟩
                    case measure => simp [intOf]; omega
                · have H3 := Aside0.mk h3
                  have d0 : decide (0 < i) = true := decide_eq_true h0
                  clear h3
                  obtain ⟨ad2, A3, c3, eA2, _, f1, _⟩ := mail_at (Kd.C_below G5.out HB6.out) (i - 1) (by omega)
                  obtain rfl : ad = ad2 := Option.some.inj eA2
                  have p1 : ∀ d os, (grow (redrawn w5 d) os).cell? ⟨(ad.add ((i - 1) * 4)).block, (ad.add ((i - 1) * 4)).off + 1, none⟩ = some (.int .i64 b.f4[i - 1].f1) := fun d os => cell_regrown f1 d os
                  clear f1 eA2
                  cases q with
                  | true =>
                    refine wp_region_quiet_below (by kernel_rfl) (by kernel_rfl) ?_
                    repeat (go_big_quiet_step ((first | (go_at_call 68; exact Calls.regrown_of (impl_MailOk.nice b.f4[i] _ true H1.out _ (k69.K_below (below_regrown w5 _ _) HK6.out))))))
                    refine wpQuiet_nil ?_
                    intro w7 hw7
                    obtain ⟨p7, hw7⟩ := hw7
                    have HB7 := Aside0.mk (show Below w5.heap.size w5 w7 by rw [hw7]; exact below_regrown w5 _ _)
                    clear hw7 b0 b1 b2 b3 b4 b5 b6 m0 m1 m2 m3
                    have HB8 := Aside0.mk (below_then HB6.out HB6.out.size HB7.out)
                    clear p1
                    have HN := Aside0.mk (box_not hlt (by rw [okAt_of hlt H1.out H2.out H3.out rfl rfl]; rfl))
                    go_wp2
                    go_ret
                    exact ⟨by rw [HM.out, HN.out]; rfl, HB8.out⟩
                  | false =>
                    by_cases h4 : mailAt b.f4 b.f4[i].f0 = i
                    rotate_left
                    · have H4 := Aside0.mk (decide_eq_false h4)
                      have d4 : (mailAt b.f4 b.f4[i].f0 != (i : Int)) = true := by rw [bne_iff_ne]; exact h4
                      clear h4
                      refine wp_region_quiet_below (by kernel_rfl) (by kernel_rfl) ?_
                      repeat (go_big_quiet_step ((first | (go_at_call 68; exact Calls.regrown_of (impl_MailOk.nice b.f4[i] _ true H1.out _ (k69.K_below (below_regrown w5 _ _) HK6.out))) | (go_at_call 81; exact Calls.regrown_of (impl_MailAt.calls b _ b.f4[i].f0 _ (k47.K_below (below_regrown w5 _ _) HKB.out))))))
                      refine wpQuiet_nil ?_
                      intro w7 hw7
                      obtain ⟨p7, hw7⟩ := hw7
                      have HB7 := Aside0.mk (show Below w5.heap.size w5 w7 by rw [hw7]; exact below_regrown w5 _ _)
                      clear hw7 b0 b1 b2 b3 b4 b5 b6 m0 m1 m2 m3
                      have HB8 := Aside0.mk (below_then HB6.out HB6.out.size HB7.out)
                      have HN := Aside0.mk (box_not hlt (by rw [okAt_of hlt H1.out H2.out H3.out H4.out rfl]; rfl))
                      go_wp2
                      go_ret
                      exact ⟨by rw [HM.out, HN.out]; rfl, HB8.out⟩
                    have H4 := Aside0.mk (decide_eq_true h4)
                    have d4 : (mailAt b.f4 b.f4[i].f0 != (i : Int)) = false := by rw [bne_eq_false_iff_eq]; exact h4
                    clear h4
                    cases h5 : hasI b.f5 b.f4[i].f0 with
                    | true =>
                      have H5 := Aside0.mk h5
                      clear h5
                      refine wp_region_quiet_below (by kernel_rfl) (by kernel_rfl) ?_
                      repeat (go_big_quiet_step ((first | (go_at_call 68; exact Calls.regrown_of (impl_MailOk.nice b.f4[i] _ true H1.out _ (k69.K_below (below_regrown w5 _ _) HK6.out))) | (go_at_call 81; exact Calls.regrown_of (impl_MailAt.calls b _ b.f4[i].f0 _ (k47.K_below (below_regrown w5 _ _) HKB.out))) | (go_at_call 155; exact Calls.regrown_of (slices_ContainsInt.nice b.f5 A6 c6 b.f4[i].f0 true H5.out _ (Kd.C_below (Kd.C_below G6.out HB6.out) (below_regrown w5 _ _)) l6)))))
                      refine wpQuiet_nil ?_
                      intro w7 hw7
                      obtain ⟨p7, hw7⟩ := hw7
                      have HB7 := Aside0.mk (show Below w5.heap.size w5 w7 by rw [hw7]; exact below_regrown w5 _ _)
                      clear hw7 b0 b1 b2 b3 b4 b5 b6 m0 m1 m2 m3
                      have HB8 := Aside0.mk (below_then HB6.out HB6.out.size HB7.out)
                      have HN := Aside0.mk (box_not hlt (by rw [okAt_of hlt H1.out H2.out H3.out H4.out H5.out]; rfl))
                      go_wp2
                      go_ret
                      exact ⟨by rw [HM.out, HN.out]; rfl, HB8.out⟩
                    | false =>
                      have H5 := Aside0.mk h5
                      clear h5
                      refine wp_region_quiet_below (by kernel_rfl) (by kernel_rfl) ?_
                      repeat (go_big_quiet_step ((first | (go_at_call 68; exact Calls.regrown_of (impl_MailOk.nice b.f4[i] _ true H1.out _ (k69.K_below (below_regrown w5 _ _) HK6.out))) | (go_at_call 81; exact Calls.regrown_of (impl_MailAt.calls b _ b.f4[i].f0 _ (k47.K_below (below_regrown w5 _ _) HKB.out))) | (go_at_call 155; exact Calls.regrown_of (slices_ContainsInt.nice b.f5 A6 c6 b.f4[i].f0 false H5.out _ (Kd.C_below (Kd.C_below G6.out HB6.out) (below_regrown w5 _ _)) l6)))))
                      refine wpQuiet_nil ?_
                      intro w7 hw7
                      obtain ⟨p7, hw7⟩ := hw7
                      have HB7 := Aside0.mk (show Below w5.heap.size w5 w7 by rw [hw7]; exact below_regrown w5 _ _)
                      clear hw7 b0 b1 b2 b3 b4 b5 b6 m0 m1 m2 m3
                      have HB8 := Aside0.mk (below_then HB6.out HB6.out.size HB7.out)
                      have HN := Aside0.mk (upTo_succ HI.out (show mailOkAt b i = true by rw [okAt_of hlt H1.out H2.out H3.out H4.out H5.out]; rfl))
                      have HBK := Aside0.mk (blk_below BK6.out HB7.out)
                      go_wp2
                      go_roundw
                      case rel => exact ⟨i + 1, by omega, by go_num, HN, HB8, HBK⟩
                      case measure => simp [intOf]; omega
end Go.Proofs.Ytjheiahfhknakaa.G
