/- Rows of Gids that ascend: the functions of the program and of the reference tell the same. Condition: the row can be read. -/
import Derived.Test.YtjheiahfhknakaaRead3
import Derived.Deep.QuietTactic
import Derived.BigQuiet
import Derived.Outline
namespace Go.Proofs.Ytjheiahfhknakaa.G
open Go.RowKit Go.Proofs.YtjheiahfhknakaaW.PrintWords Go.Proofs.YtjheiahfhknakaaW.PrintLast Go.Proofs.YtjheiahfhknakaaW.PrintMore
set_option linter.unusedVariables false
set_option linter.unusedSimpArgs false
theorem quiet_same {P : Program} {f : FuncId} {args : Array Value} {w : World} {n : Nat} {v : Value} (h : Calls P f args (w.drewN n) fun e w' => e = .returned v ∧ w.drewN n = w') : Calls P f args (w.drewN n) fun e w'' => e = .returned v ∧ ∃ m, w'' = w.drewN m :=
  h.mono fun _ _ h2 => ⟨h2.1, n, h2.2.symm⟩
theorem sort_not {l : List Int} {i : Nat} {most : Int} (hi : i < l.length) (h : sortAt l i = false) : sortI l most = false := by
  unfold sortI
  rw [allR_false hi h, Bool.false_and]
theorem sort_all {l : List Int} {most : Int} (h : ∀ j, j < l.length → sortAt l j = true) : sortI l most = decide ((l.length : Int) ≤ most) := by
  unfold sortI
  rw [allR_true h, Bool.true_and]
theorem sortAt_gid {l : List Int} {i : Nat} (hi : i < l.length) (h : gidB l[i] = false) : sortAt l i = false := by
  unfold sortAt
  rw [getD_at hi, h, Bool.false_and]
theorem sortAt_first {l : List Int} {i : Nat} (hi : i < l.length) (h0 : ¬ 0 < i) (h : gidB l[i] = true) : sortAt l i = true := by
  unfold sortAt
  rw [getD_at hi, h, decide_eq_true (show i = 0 by omega)]
  rfl
theorem sortAt_next {l : List Int} {i : Nat} (hi : i < l.length) (h0 : 0 < i) (h : gidB l[i] = true) : sortAt l i = decide (l[i - 1] < l[i]) := by
  unfold sortAt
  rw [getD_at hi, h, getD_at (by omega), decide_eq_false (by omega), Bool.true_and, Bool.false_or]
set_option maxRecDepth 100000 in
theorem impl_areGids.nice (l : List Int) (A : Option Addr) (c : Nat) (most : Int) (b : Bool) (hb : sortI l most = b) (w : World) (hl : Kd.C (Kd.int .i64) w A l.length l) (hc : l.length ≤ c) :
    Calls Try.prog 154 #[.slice A l.length c, .int .i64 most] w fun e w' => e = .returned (.bool b) ∧ Below w.heap.size w w' := by
  have HM := Aside0.mk hb.symm
  have HL := Aside0.mk hl
  have hmx : l.length ≤ 9223372036854775807 := Kd.C_max hl
  clear hb hl
  go_enter Try.func154, Try.ntmps154
  go_wp2
  go_loopw [9] (fun v wr => ∃ i : Nat, i ≤ l.length ∧ v = .int .i64 i ∧ Aside0 (∀ j, j < i → sortAt l j = true) ∧ Aside0 (Below w.heap.size w wr)) (fun v _ => l.length - (intOf v).toNat)
  case atStart => exact ⟨0, Nat.zero_le _, rfl, ⟨fun j h => absurd h (Nat.not_lt_zero _)⟩, ⟨Below.refl _ _⟩⟩
  case round =>
    obtain ⟨i, hi, rfl, HI, HB⟩ := hrel
    by_cases hlt : i < l.length
    · obtain ⟨ad, eA, e0⟩ := int_at (Kd.C_below HL.out HB.out) i hlt
      cases h1 : gidB l[i] with
      | false =>
        have HN := Aside0.mk (sort_not (most := most) hlt (sortAt_gid hlt h1))
        have H1 := Aside0.mk h1
        clear h1
        subst eA
        go_wp2_with fail
        refine (impl_isGid.nice l[i] false H1.out _).mono ?_
        rintro e w1 ⟨rfl, rfl⟩
        go_wp2
        go_ret
        exact ⟨by rw [HM.out, HN.out]; rfl, HB.out⟩
      | true =>
        have H1 := Aside0.mk h1
        clear h1
        by_cases h0 : 0 < i
        · obtain ⟨ad2, eA2, e1⟩ := int_at (Kd.C_below HL.out HB.out) (i - 1) (by omega)
          have e2 : ad2 = ad := by rw [eA] at eA2; exact (Option.some.inj eA2).symm
          subst e2
          clear eA2
          subst eA
          by_cases h2 : l[i - 1] < l[i]
          · have HN := Aside0.mk (upTo_succ HI.out (by rw [sortAt_next hlt h0 H1.out]; exact decide_eq_true h2))
            go_wp2_with fail
            refine (impl_isGid.nice l[i] true H1.out _).mono ?_
            rintro e w1 ⟨rfl, rfl⟩
            go_wp2
            go_roundw
            case rel => exact ⟨i + 1, by omega, by go_num, HN, HB⟩
            case measure => simp [intOf]; omega
          · have HN := Aside0.mk (sort_not (most := most) hlt (by rw [sortAt_next hlt h0 H1.out]; exact decide_eq_false h2))
            have h3 : l[i] ≤ l[i - 1] := by omega
            clear h2
            go_wp2_with fail
            refine (impl_isGid.nice l[i] true H1.out _).mono ?_
            rintro e w1 ⟨rfl, rfl⟩
            go_wp2
            go_ret
            exact ⟨by rw [HM.out, HN.out]; rfl, HB.out⟩
        · have HN := Aside0.mk (upTo_succ HI.out (sortAt_first hlt h0 H1.out))
          subst eA
          go_wp2_with fail
          refine (impl_isGid.nice l[i] true H1.out _).mono ?_
          rintro e w1 ⟨rfl, rfl⟩
          go_wp2
          go_roundw
          case rel => exact ⟨i + 1, by omega, by go_num, HN, HB⟩
          case measure => simp [intOf]; omega
    · obtain rfl : i = l.length := by omega
      have HN := Aside0.mk (sort_all (most := most) HI.out)
      clear HI hlt
      go_wp2
      go_ret
      exact ⟨by rw [HM.out, HN.out]; rfl, HB.out⟩
set_option maxRecDepth 100000 in
theorem spec_l06Sorted.nice (l : List Int) (A : Option Addr) (c : Nat) (most : Int) (b : Bool) (hb : sortI l most = b) (w : World) (hl : Kd.C (Kd.int .i64) w A l.length l) (hc : l.length ≤ c) :
    Calls Try.prog 151 #[.slice A l.length c, .int .i64 most] w fun e w' => e = .returned (.bool b) ∧ Below w.heap.size w w' := by
  have HM := Aside0.mk hb.symm
  have HL := Aside0.mk hl
  have hmx : l.length ≤ 9223372036854775807 := Kd.C_max hl
  clear hb hl
  go_enter Try.func151, Try.ntmps151
  go_wp2
  go_loopw [5] (fun v wr => ∃ i : Nat, i ≤ l.length ∧ v = .int .i64 i ∧ Aside0 (∀ j, j < i → sortAt l j = true) ∧ Aside0 (Below w.heap.size w wr)) (fun v _ => l.length - (intOf v).toNat)
  case atStart => exact ⟨0, Nat.zero_le _, rfl, ⟨fun j h => absurd h (Nat.not_lt_zero _)⟩, ⟨Below.refl _ _⟩⟩
  case round =>
    obtain ⟨i, hi, rfl, HI, HB⟩ := hrel
    by_cases hlt : i < l.length
    · obtain ⟨ad, eA, e0⟩ := int_at (Kd.C_below HL.out HB.out) i hlt
      have HBN : ∀ n, Aside0 (Below w.heap.size w (wr.drewN n)) := fun n => ⟨pw_below_drewN HB.out n⟩
      cases h1 : gidB l[i] with
      | false =>
        have HN := Aside0.mk (sort_not (most := most) hlt (sortAt_gid hlt h1))
        have H1 := Aside0.mk h1
        clear h1
        subst eA
        go_wp2
        go_quiet ((go_at_call 145; exact quiet_same (spec_l01In.nice l[i] 1 9999 false H1.out _)))
        have HB3 := HBN nq
        go_wp2
        go_ret
        exact ⟨by rw [HM.out, HN.out]; rfl, HB3.out⟩
      | true =>
        have H1 := Aside0.mk h1
        clear h1
        by_cases h0 : 0 < i
        · obtain ⟨ad2, eA2, e1⟩ := int_at (Kd.C_below HL.out HB.out) (i - 1) (by omega)
          have e2 : ad2 = ad := by rw [eA] at eA2; exact (Option.some.inj eA2).symm
          subst e2
          clear eA2
          subst eA
          have d0 : decide (0 < i) = true := decide_eq_true h0
          by_cases h2 : l[i - 1] < l[i]
          · have HN := Aside0.mk (upTo_succ HI.out (by rw [sortAt_next hlt h0 H1.out]; exact decide_eq_true h2))
            have d2 : decide (l[i] ≤ l[i - 1]) = false := decide_eq_false (by omega)
            go_wp2
            go_quiet ((go_at_call 145; exact quiet_same (spec_l01In.nice l[i] 1 9999 true H1.out _)))
            have HB3 := HBN nq
            go_wp2
            go_roundw
            case rel => exact ⟨i + 1, by omega, by go_num, HN, HB3⟩
            case measure => simp [intOf]; omega
          · have HN := Aside0.mk (sort_not (most := most) hlt (by rw [sortAt_next hlt h0 H1.out]; exact decide_eq_false h2))
            have d2 : decide (l[i] ≤ l[i - 1]) = true := decide_eq_true (by omega)
            clear h2
            go_wp2
            go_quiet ((go_at_call 145; exact quiet_same (spec_l01In.nice l[i] 1 9999 true H1.out _)))
            have HB3 := HBN nq
            go_wp2
            go_ret
            exact ⟨by rw [HM.out, HN.out]; rfl, HB3.out⟩
        · have HN := Aside0.mk (upTo_succ HI.out (sortAt_first hlt h0 H1.out))
          have d0 : decide (0 < i) = false := decide_eq_false h0
          subst eA
          go_wp2
          go_quiet ((go_at_call 145; exact quiet_same (spec_l01In.nice l[i] 1 9999 true H1.out _)))
          have HB3 := HBN nq
          go_wp2
          go_roundw
          case rel => exact ⟨i + 1, by omega, by go_num, HN, HB3⟩
          case measure => simp [intOf]; omega
    · obtain rfl : i = l.length := by omega
      have HN := Aside0.mk (sort_all (most := most) HI.out)
      clear HI hlt
      go_wp2
      go_ret
      exact ⟨by rw [HM.out, HN.out]; rfl, HB.out⟩
end Go.Proofs.Ytjheiahfhknakaa.G
