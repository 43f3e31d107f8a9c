/- Right flags and mails, names, rows of Gids, what a row holds; where a mail, a box stands by the reference: the functions of the program and of the reference tell the same. Condition: what is handed over can be read. -/
import Derived.Test.YtjheiahfhknakaaRead1
import Derived.Outline
namespace Go.Proofs.Ytjheiahfhknakaa.G
open Go.RowKit Go.Proofs.YtjheiahfhknakaaW.PrintWords Go.Proofs.YtjheiahfhknakaaW.PrintLast Go.Proofs.YtjheiahfhknakaaW.PrintMore
set_option linter.unusedVariables false
set_option linter.unusedSimpArgs false
/-- A register of a row that is read: its cells. -/
theorem reg_at {w : World} {A : Option Addr} {n : Nat} {xs : List S146} (h : Kd.C k146 w A n xs) (i : Nat) (hi : i < xs.length) : ∃ ad, A = some ad ∧
    w.cell? (ad.add (i * 3)) = some (.int .i64 xs[i].f0) ∧ w.cell? ⟨(ad.add (i * 3)).block, (ad.add (i * 3)).off + 1, none⟩ = some (.int .i64 xs[i].f1.f0) ∧
    w.cell? ⟨(ad.add (i * 3)).block, (ad.add (i * 3)).off + 2, none⟩ = some (.int .i64 xs[i].f1.f1) := by
  have hn := Kd.C_len h
  obtain ⟨ad, c, e, _, hK, hc0⟩ := Kd.C_get h z146 (i : Int) (by omega) (by omega)
  rw [Int.toNat_natCast] at hK hc0
  rw [List.getD_eq_getElem?_getD, List.getElem?_eq_getElem hi] at hK
  have hK' : k146.K w xs[i] c := hK
  have hc : ∀ j u, c[j]? = some u → w.cell? (ad.add (i * 3 + j)) = some u := hc0
  obtain rfl := k146_open hK'
  exact ⟨ad, e, hc 0 _ rfl, by rw [← add_field _ _ 1 (by omega)]; exact hc 1 _ rfl, by rw [← add_field _ _ 2 (by omega)]; exact hc 2 _ rfl⟩
theorem flags_all {l : List S146} (h : ∀ j (hj : j < l.length), j < l.length → flagI l[j] = true) : flagsI l = ((l.length : Int) == 3) := by
  unfold flagsI
  rw [all_upTo (fun j hj => h j hj hj), Bool.true_and]
theorem flags_not {l : List S146} {i : Nat} (hi : i < l.length) (h : flagI l[i] = false) : flagsI l = false := by
  unfold flagsI
  rw [all_not hi h, Bool.false_and]
theorem flag_no1 {r : S146} (h : regI r = false) : flagI r = false := by unfold flagI; rw [h, Bool.false_and]
theorem flag_no2 {r : S146} (h : ¬ r.f0 ≤ 1) : flagI r = false := by unfold flagI; rw [decide_eq_false h, Bool.and_false]
theorem flag_yes {r : S146} (h : regI r = true) (h2 : r.f0 ≤ 1) : flagI r = true := by unfold flagI; rw [h, decide_eq_true h2]; rfl
set_option maxRecDepth 100000 in
theorem impl_FlagsOk.nice (l : List S146) (A : Option Addr) (c : Nat) (b : Bool) (hb : flagsI l = b) (w : World) (hl : Kd.C k146 w A l.length l) (hc : l.length ≤ c) :
    Calls Try.prog 54 #[.slice A l.length c] w fun e w' => e = .returned (.bool b) ∧ Below w.heap.size w w' := by
  subst hb
  have HL := Aside0.mk hl
  have hmx : l.length ≤ 9223372036854775807 := Kd.C_max hl
  clear hl
  go_enter Try.func54, Try.ntmps54
  go_wp2
  go_loopw [7] (fun v wr => ∃ i : Nat, i ≤ l.length ∧ v = .int .i64 i ∧ Aside0 (∀ j (hj : j < l.length), j < i → flagI l[j] = true) ∧ Aside0 (Below w.heap.size w wr)) (fun v _ => l.length - (intOf v).toNat)
  case atStart => exact ⟨0, Nat.zero_le _, rfl, ⟨fun j hj h => absurd h (Nat.not_lt_zero _)⟩, ⟨Below.refl _ _⟩⟩
  case round =>
    obtain ⟨i, hi, rfl, HI, HB⟩ := hrel
    by_cases hlt : i < l.length
    · obtain ⟨ad, rfl, e0, e1, e2⟩ := reg_at (Kd.C_below HL.out HB.out) i hlt
      cases h1 : regI l[i] with
      | false =>
        have H1 := Aside0.mk h1
        have HN := Aside0.mk (flags_not hlt (flag_no1 h1))
        clear h1
        go_wp2_with fail
        refine (impl_RegOk.nice l[i] false H1.out _).mono ?_
        rintro e w1 ⟨rfl, hb⟩
        have HB2 := Aside0.mk (below_then (below_alloc HB.out (.cells #[.int .i64 l[i].f0, .int .i64 l[i].f1.f0, .int .i64 l[i].f1.f1] 146)) (by have := HB.out.size; simp; omega) hb)
        clear hb
        go_wp2
        go_ret
        exact ⟨by rw [HN.out]; rfl, HB2.out⟩
      | true =>
        have H1 := Aside0.mk h1
        clear h1
        go_wp2_with fail
        refine (impl_RegOk.nice l[i] true H1.out _).mono ?_
        rintro e w1 ⟨rfl, hb⟩
        have HB2 := Aside0.mk (below_then (below_alloc HB.out (.cells #[.int .i64 l[i].f0, .int .i64 l[i].f1.f0, .int .i64 l[i].f1.f1] 146)) (by have := HB.out.size; simp; omega) hb)
        have c0 : w1.cell? ⟨wr.heap.size, 0, none⟩ = some (.int .i64 l[i].f0) := (blk_cell (blk_below (heap_alloc_new wr _) hb) 0).trans rfl
        clear hb
        by_cases h2 : l[i].f0 ≤ 1
        · have HN := Aside0.mk (pre_succ (q := fun r => flagI r = true) hlt HI.out (flag_yes H1.out h2))
          go_wp2
          go_roundw
          case rel => exact ⟨i + 1, by omega, by go_num, HN, HB2⟩
          case measure => simp [intOf]; omega
        · have HN := Aside0.mk (flags_not hlt (flag_no2 h2))
          have h3 : 1 < l[i].f0 := by omega
          clear h2
          go_wp2
          go_ret
          exact ⟨by rw [HN.out]; rfl, HB2.out⟩
    · obtain rfl : i = l.length := by omega
      have HN := Aside0.mk (flags_all HI.out)
      clear HI hlt
      go_wp2
      go_ret
      exact ⟨by rw [HN.out]; rfl, HB.out⟩
set_option maxRecDepth 100000 in
theorem spec_FlagsOk.nice (l : List S146) (A : Option Addr) (c : Nat) (b : Bool) (hb : flagsI l = b) (w : World) (hl : Kd.C k146 w A l.length l) (hc : l.length ≤ c) :
    Calls Try.prog 57 #[.slice A l.length c] w fun e w' => e = .returned (.bool b) ∧ Below w.heap.size w w' := by
  subst hb
  have HL := Aside0.mk hl
  have hmx : l.length ≤ 9223372036854775807 := Kd.C_max hl
  clear hl
  go_enter Try.func57, Try.ntmps57
  go_wp2
  go_loopw [3] (fun v wr => ∃ i : Nat, i ≤ l.length ∧ v = .int .i64 i ∧ Aside0 (∀ j (hj : j < l.length), j < i → flagI l[j] = true) ∧ Aside0 (Below w.heap.size w wr)) (fun v _ => l.length - (intOf v).toNat)
  case atStart => exact ⟨0, Nat.zero_le _, rfl, ⟨fun j hj h => absurd h (Nat.not_lt_zero _)⟩, ⟨Below.refl _ _⟩⟩
  case round =>
    obtain ⟨i, hi, rfl, HI, HB⟩ := hrel
    by_cases hlt : i < l.length
    · obtain ⟨ad, rfl, e0, e1, e2⟩ := reg_at (Kd.C_below HL.out HB.out) i hlt
      cases h1 : regI l[i] with
      | false =>
        have H1 := Aside0.mk h1
        have HN := Aside0.mk (flags_not hlt (flag_no1 h1))
        clear h1
        go_wp2_with fail
        refine (spec_RegOk.nice l[i] false H1.out _).mono ?_
        rintro e w1 ⟨rfl, hb⟩
        have HB2 := Aside0.mk (below_then HB.out HB.out.size hb)
        clear hb
        go_wp2
        go_ret
        exact ⟨by rw [HN.out]; rfl, HB2.out⟩
      | true =>
        have H1 := Aside0.mk h1
        clear h1
        go_wp2_with fail
        refine (spec_RegOk.nice l[i] true H1.out _).mono ?_
        rintro e w1 ⟨rfl, hb⟩
        have HB2 := Aside0.mk (below_then HB.out HB.out.size hb)
        have f0 := pw_cell_below hb e0
        clear hb
        by_cases h2 : l[i].f0 ≤ 1
        · have HN := Aside0.mk (pre_succ (q := fun r => flagI r = true) hlt HI.out (flag_yes H1.out h2))
          go_wp2
          go_roundw
          case rel => exact ⟨i + 1, by omega, by go_num, HN, HB2⟩
          case measure => simp [intOf]; omega
        · have HN := Aside0.mk (flags_not hlt (flag_no2 h2))
          have h3 : 1 < l[i].f0 := by omega
          clear h2
          go_wp2
          go_ret
          exact ⟨by rw [HN.out]; rfl, HB2.out⟩
    · obtain rfl : i = l.length := by omega
      have HN := Aside0.mk (flags_all HI.out)
      clear HI hlt
      go_wp2
      go_ret
      exact ⟨by rw [HN.out]; rfl, HB.out⟩
set_option maxRecDepth 100000 in
theorem impl_MailOk.nice (m : S69) (cs : Array Value) (b : Bool) (hb : mailI m = b) (w : World) (hm : k69.K w m cs.toList) :
    Calls Try.prog 68 #[.agg cs] w fun e w' => e = .returned (.bool b) ∧ Below w.heap.size w w' := by
  have HM := Aside0.mk hb.symm
  obtain ⟨A2, c2, e, l2, g2⟩ := k69_open hm
  obtain rfl : cs = _ := Array.ext' e
  have G2 := Aside0.mk g2
  clear hm e g2 hb
  go_enter Try.func68, Try.ntmps68
  cases h1 : gidB m.f0 with
  | false =>
    have H1 := Aside0.mk h1
    clear h1
    go_wp2_with fail
    refine (impl_isGid.nice m.f0 false H1.out _).mono ?_
    rintro e w1 ⟨rfl, rfl⟩
    go_wp2
    go_ret
    exact ⟨by rw [show b = false from by rw [HM.out]; unfold mailI; rw [H1.out]; rfl]; rfl, below_alloc (Below.refl _ _) _⟩
  | true =>
    have H1 := Aside0.mk h1
    clear h1
    go_wp2_with fail
    refine (impl_isGid.nice m.f0 true H1.out _).mono ?_
    rintro e w1 ⟨rfl, rfl⟩
    cases h2 : gidB m.f1 with
    | false =>
      have H2 := Aside0.mk h2
      clear h2
      go_wp2_with fail
      refine (impl_isGid.nice m.f1 false H2.out _).mono ?_
      rintro e w1 ⟨rfl, rfl⟩
      go_wp2
      go_ret
      exact ⟨by rw [show b = false from by rw [HM.out]; unfold mailI; rw [H1.out, H2.out]; rfl]; rfl, below_alloc (Below.refl _ _) _⟩
    | true =>
      have H2 := Aside0.mk h2
      clear h2
      go_wp2_with fail
      refine (impl_isGid.nice m.f1 true H2.out _).mono ?_
      rintro e w1 ⟨rfl, rfl⟩
      cases h3 : flagsI m.f2 with
      | false =>
        have H3 := Aside0.mk h3
        clear h3
        go_wp2_with fail
        refine (impl_FlagsOk.nice m.f2 A2 c2 false H3.out _ (Kd.C_alloc G2.out _) l2).mono ?_
        rintro e w1 ⟨rfl, hb⟩
        have HB := Aside0.mk (below_then (below_alloc (Below.refl w.heap.size w) (.cells #[.int .i64 m.f0, .int .i64 m.f1, .slice A2 m.f2.length c2, .string m.f3] 69)) (by simp) hb)
        clear hb
        go_wp2
        go_ret
        exact ⟨by rw [show b = false from by rw [HM.out]; unfold mailI; rw [H1.out, H2.out, H3.out]; rfl]; rfl, HB.out⟩
      | true =>
        have H3 := Aside0.mk h3
        clear h3
        go_wp2_with fail
        refine (impl_FlagsOk.nice m.f2 A2 c2 true H3.out _ (Kd.C_alloc G2.out _) l2).mono ?_
        rintro e w1 ⟨rfl, hb⟩
        have HB := Aside0.mk (below_then (below_alloc (Below.refl w.heap.size w) (.cells #[.int .i64 m.f0, .int .i64 m.f1, .slice A2 m.f2.length c2, .string m.f3] 69)) (by simp) hb)
        have c3 : w1.cell? ⟨w.heap.size, 3, none⟩ = some (.string m.f3) := (blk_cell (blk_below (heap_alloc_new w _) hb) 3).trans rfl
        clear hb
        go_wp2
        go_ret
        exact ⟨by rw [show b = decide ((m.f3.size : Int) ≤ 60) from by rw [HM.out]; unfold mailI; rw [H1.out, H2.out, H3.out]; rfl]; rfl, HB.out⟩
set_option maxRecDepth 100000 in
theorem spec_MailOk.nice (m : S69) (cs : Array Value) (b : Bool) (hb : mailI m = b) (w : World) (hm : k69.K w m cs.toList) :
    Calls Try.prog 67 #[.agg cs] w fun e w' => e = .returned (.bool b) ∧ Below w.heap.size w w' := by
  have HM := Aside0.mk hb.symm
  obtain ⟨A2, c2, e, l2, g2⟩ := k69_open hm
  obtain rfl : cs = _ := Array.ext' e
  have G2 := Aside0.mk g2
  clear hm e g2 hb
  go_enter Try.func67, Try.ntmps67
  cases h1 : gidB m.f0 with
  | false =>
    have H1 := Aside0.mk h1
    clear h1
    go_wp2_with fail
    refine (spec_l01In.nice m.f0 1 9999 false H1.out _).mono ?_
    rintro e w1 ⟨rfl, rfl⟩
    go_wp2
    go_ret
    exact ⟨by rw [show b = false from by rw [HM.out]; unfold mailI; rw [H1.out]; rfl]; rfl, below_alloc (Below.refl _ _) _⟩
  | true =>
    have H1 := Aside0.mk h1
    clear h1
    go_wp2_with fail
    refine (spec_l01In.nice m.f0 1 9999 true H1.out _).mono ?_
    rintro e w1 ⟨rfl, rfl⟩
    cases h2 : gidB m.f1 with
    | false =>
      have H2 := Aside0.mk h2
      clear h2
      go_wp2_with fail
      refine (spec_l01In.nice m.f1 1 9999 false H2.out _).mono ?_
      rintro e w1 ⟨rfl, rfl⟩
      go_wp2
      go_ret
      exact ⟨by rw [show b = false from by rw [HM.out]; unfold mailI; rw [H1.out, H2.out]; rfl]; rfl, below_alloc (Below.refl _ _) _⟩
    | true =>
      have H2 := Aside0.mk h2
      clear h2
      go_wp2_with fail
      refine (spec_l01In.nice m.f1 1 9999 true H2.out _).mono ?_
      rintro e w1 ⟨rfl, rfl⟩
      cases h3 : flagsI m.f2 with
      | false =>
        have H3 := Aside0.mk h3
        clear h3
        go_wp2_with fail
        refine (spec_FlagsOk.nice m.f2 A2 c2 false H3.out _ (Kd.C_alloc G2.out _) l2).mono ?_
        rintro e w1 ⟨rfl, hb⟩
        have HB := Aside0.mk (below_then (below_alloc (Below.refl w.heap.size w) (.cells #[.int .i64 m.f0, .int .i64 m.f1, .slice A2 m.f2.length c2, .string m.f3] 69)) (by simp) hb)
        clear hb
        go_wp2
        go_ret
        exact ⟨by rw [show b = false from by rw [HM.out]; unfold mailI; rw [H1.out, H2.out, H3.out]; rfl]; rfl, HB.out⟩
      | true =>
        have H3 := Aside0.mk h3
        clear h3
        go_wp2_with fail
        refine (spec_FlagsOk.nice m.f2 A2 c2 true H3.out _ (Kd.C_alloc G2.out _) l2).mono ?_
        rintro e w1 ⟨rfl, hb⟩
        have HB := Aside0.mk (below_then (below_alloc (Below.refl w.heap.size w) (.cells #[.int .i64 m.f0, .int .i64 m.f1, .slice A2 m.f2.length c2, .string m.f3] 69)) (by simp) hb)
        have c3 : w1.cell? ⟨w.heap.size, 3, none⟩ = some (.string m.f3) := (blk_cell (blk_below (heap_alloc_new w _) hb) 3).trans rfl
        clear hb
        go_wp2
        go_ret
        exact ⟨by rw [show b = decide ((m.f3.size : Int) ≤ 60) from by rw [HM.out]; unfold mailI; rw [H1.out, H2.out, H3.out]; rfl]; rfl, HB.out⟩
end Go.Proofs.Ytjheiahfhknakaa.G
