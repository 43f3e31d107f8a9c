/- Names, what a row of numbers holds, where a mail and a box stand by the reference. Condition: what is handed over can be read. -/
import Derived.Test.YtjheiahfhknakaaRead2
import Derived.Outline
namespace Go.Proofs.Ytjheiahfhknakaa.G
open Go.RowKit Go.Proofs.YtjheiahfhknakaaW.PrintWords Go.Proofs.YtjheiahfhknakaaW.PrintLast Go.Proofs.YtjheiahfhknakaaW.PrintMore
set_option linter.unusedVariables false
set_option linter.unusedSimpArgs false
theorem nameAt_of {s : ByteArray} {i : Nat} (h : i < s.size) : nameAt s i = byteI s[i] := by unfold nameAt; rw [dif_pos h]
theorem name_not {s : ByteArray} {i : Nat} (h : i < s.size) (hb : ¬ (97 ≤ s[i].toNat ∧ s[i].toNat ≤ 122 ∨ 48 ≤ s[i].toNat ∧ s[i].toNat ≤ 57)) : nameI s = false := by
  unfold nameI
  rw [allR_false h (by rw [nameAt_of h]; exact decide_eq_false hb), Bool.false_and]
theorem name_yes {s : ByteArray} {i : Nat} (h : i < s.size) (hb : 97 ≤ s[i].toNat ∧ s[i].toNat ≤ 122 ∨ 48 ≤ s[i].toNat ∧ s[i].toNat ≤ 57) : nameAt s i = true := by
  rw [nameAt_of h]
  exact decide_eq_true hb
theorem name_all {s : ByteArray} (h : ∀ j, j < s.size → nameAt s j = true) : nameI s = inI (s.size : Int) 1 12 := by
  unfold nameI
  rw [allR_true h, Bool.true_and]
set_option maxRecDepth 100000 in
theorem impl_NameOk.nice (s : ByteArray) (b : Bool) (hb : nameI s = b) (w : World) (hs : s.size ≤ 9223372036854775807) :
    Calls Try.prog 169 #[.string s] w fun e w' => e = .returned (.bool b) ∧ Below w.heap.size w w' := by
  have HM := Aside0.mk hb.symm
  clear hb
  go_enter Try.func169, Try.ntmps169
  go_wp2
  go_loopw [3] (fun v wr => ∃ i : Nat, i ≤ s.size ∧ v = .int .i64 i ∧ Aside0 (∀ j, j < i → nameAt s j = true) ∧ Aside0 (Below w.heap.size w wr)) (fun v _ => s.size - (intOf v).toNat)
  case atStart => exact ⟨0, Nat.zero_le _, rfl, ⟨fun j h => absurd h (Nat.not_lt_zero _)⟩, ⟨Below.refl _ _⟩⟩
  case round =>
    obtain ⟨i, hi, rfl, HI, HB⟩ := hrel
    by_cases hlt : i < s.size
    · by_cases h1 : 97 ≤ s[i].toNat
      · by_cases h2 : s[i].toNat ≤ 122
        · skip
          have HN := Aside0.mk (upTo_succ HI.out (name_yes hlt (by omega)))
          go_wp2
          go_roundw
          case rel => exact ⟨i + 1, by omega, by go_num, HN, HB⟩
          case measure => simp [intOf]; omega
        · have h3 : ¬ s[i].toNat < 48 := by omega
          have h4 : 57 < s[i].toNat := by omega
          have h5 : 122 < s[i].toNat := by omega
          have HN := Aside0.mk (name_not hlt (by omega))
          go_wp2
          go_ret
          exact ⟨by rw [HM.out, HN.out]; rfl, HB.out⟩
      · have h0 : s[i].toNat < 97 := by omega
        by_cases h3 : 48 ≤ s[i].toNat
        · by_cases h4 : s[i].toNat ≤ 57
          · skip
            have HN := Aside0.mk (upTo_succ HI.out (name_yes hlt (by omega)))
            go_wp2
            go_roundw
            case rel => exact ⟨i + 1, by omega, by go_num, HN, HB⟩
            case measure => simp [intOf]; omega
          · have h5 : 57 < s[i].toNat := by omega
            have HN := Aside0.mk (name_not hlt (by omega))
            go_wp2
            go_ret
            exact ⟨by rw [HM.out, HN.out]; rfl, HB.out⟩
        · have h5 : s[i].toNat < 48 := by omega
          have HN := Aside0.mk (name_not hlt (by omega))
          go_wp2
          go_ret
          exact ⟨by rw [HM.out, HN.out]; rfl, HB.out⟩
    · obtain rfl : i = s.size := by omega
      have HN := Aside0.mk (name_all HI.out)
      clear HI hlt
      go_wp2_with fail
      refine (impl_within.nice s.size 1 12 _ rfl _).mono ?_
      rintro e w1 ⟨rfl, rfl⟩
      go_wp2
      go_ret
      exact ⟨by rw [HM.out, HN.out]; rfl, HB.out⟩
set_option maxRecDepth 100000 in
theorem spec_NameOk.nice (s : ByteArray) (b : Bool) (hb : nameI s = b) (w : World) (hs : s.size ≤ 9223372036854775807) :
    Calls Try.prog 180 #[.string s] w fun e w' => e = .returned (.bool b) ∧ Below w.heap.size w w' := by
  have HM := Aside0.mk hb.symm
  clear hb
  go_enter Try.func180, Try.ntmps180
  go_wp2
  go_loopw [3] (fun v wr => ∃ i : Nat, i ≤ s.size ∧ v = .int .i64 i ∧ Aside0 (∀ j, j < i → nameAt s j = true) ∧ Aside0 (Below w.heap.size w wr)) (fun v _ => s.size - (intOf v).toNat)
  case atStart => exact ⟨0, Nat.zero_le _, rfl, ⟨fun j h => absurd h (Nat.not_lt_zero _)⟩, ⟨Below.refl _ _⟩⟩
  case round =>
    obtain ⟨i, hi, rfl, HI, HB⟩ := hrel
    by_cases hlt : i < s.size
    · by_cases h1 : 97 ≤ s[i].toNat
      · by_cases h2 : s[i].toNat ≤ 122
        · skip
          have HN := Aside0.mk (upTo_succ HI.out (name_yes hlt (by omega)))
          go_wp2
          go_roundw
          case rel => exact ⟨i + 1, by omega, by go_num, HN, HB⟩
          case measure => simp [intOf]; omega
        · have h3 : ¬ s[i].toNat < 48 := by omega
          have h4 : 57 < s[i].toNat := by omega
          have h5 : 122 < s[i].toNat := by omega
          have HN := Aside0.mk (name_not hlt (by omega))
          go_wp2
          go_ret
          exact ⟨by rw [HM.out, HN.out]; rfl, HB.out⟩
      · have h0 : s[i].toNat < 97 := by omega
        by_cases h3 : 48 ≤ s[i].toNat
        · by_cases h4 : s[i].toNat ≤ 57
          · skip
            have HN := Aside0.mk (upTo_succ HI.out (name_yes hlt (by omega)))
            go_wp2
            go_roundw
            case rel => exact ⟨i + 1, by omega, by go_num, HN, HB⟩
            case measure => simp [intOf]; omega
          · have h5 : 57 < s[i].toNat := by omega
            have HN := Aside0.mk (name_not hlt (by omega))
            go_wp2
            go_ret
            exact ⟨by rw [HM.out, HN.out]; rfl, HB.out⟩
        · have h5 : s[i].toNat < 48 := by omega
          have HN := Aside0.mk (name_not hlt (by omega))
          go_wp2
          go_ret
          exact ⟨by rw [HM.out, HN.out]; rfl, HB.out⟩
    · obtain rfl : i = s.size := by omega
      have HN := Aside0.mk (name_all HI.out)
      clear HI hlt
      go_wp2_with fail
      refine (spec_l01In.nice s.size 1 12 _ rfl _).mono ?_
      rintro e w1 ⟨rfl, rfl⟩
      go_wp2
      go_ret
      exact ⟨by rw [HM.out, HN.out]; rfl, HB.out⟩
theorem has_eq {l : List Int} {x : Int} : hasI l x = decide (0 ≤ ixOf (fun y => y == x) l) := by
  unfold hasI ixOf
  have h : ∀ (l : List Int) (i : Int), 0 ≤ i → l.any (· == x) = decide (0 ≤ ixFrom (fun y => y == x) i l) := by
    intro l
    induction l with
    | nil => intro i hi; simp [ixFrom]
    | cons y t ih =>
      intro i hi
      unfold ixFrom
      by_cases hy : (y == x) = true
      · rw [if_pos hy, List.any_cons, hy, Bool.true_or, decide_eq_true hi]
      · rw [if_neg hy, List.any_cons, Bool.eq_false_iff.2 hy, Bool.false_or]
        exact ih (i + 1) (by omega)
  exact h l 0 (Int.le_refl _)
set_option maxRecDepth 100000 in
theorem slices_IndexInt.nice (l : List Int) (A : Option Addr) (c : Nat) (x : Int) (w : World) (hl : Kd.C (Kd.int .i64) w A l.length l) (hc : l.length ≤ c) :
    Calls Try.prog 196 #[.slice A l.length c, .int .i64 x] w fun e w' => e = .returned (.int .i64 (ixOf (fun y => y == x) l)) ∧ Below w.heap.size w w' := by
  have HL := Aside0.mk hl
  have hmx : l.length ≤ 9223372036854775807 := Kd.C_max hl
  clear hl
  go_enter Try.func196, Try.ntmps196
  go_wp2
  go_loopw [8] (fun v8 wr => ∃ i : Nat, i ≤ l.length ∧ v8 = .int .i64 i ∧ Aside0 (ixFrom (fun y : Int => y == x) (i : Int) (l.drop i) = ixOf (fun y => y == x) l) ∧ Aside0 (Below w.heap.size w wr)) (fun v8 _ => l.length - (intOf v8).toNat)
  case atStart => exact ⟨0, Nat.zero_le _, rfl, ⟨rfl⟩, ⟨Below.refl _ _⟩⟩
  case round =>
    obtain ⟨i, hi, rfl, HI, HB⟩ := hrel
    by_cases hlt : i < l.length
    · have hs := Aside0.mk (ix_step HI.out hlt)
      obtain ⟨ad, rfl, e0⟩ := int_at (Kd.C_below HL.out HB.out) i hlt
      by_cases hp : (l[i] == x) = true
      · have hi2 := hs.out
        rw [if_pos hp] at hi2
        have HE := Aside0.mk hi2
        have hq : (x == l[i]) = true := by rw [beq_iff_eq] at hp ⊢; exact hp.symm
        clear hi2 hp
        go_wp2
        go_ret
        exact ⟨by rw [HE.out]; rfl, HB.out⟩
      · have hi2 := hs.out
        rw [if_neg hp] at hi2
        have HE := Aside0.mk hi2
        have hq : (x == l[i]) = false := by rw [beq_eq_false_iff_ne]; intro h; exact hp (by rw [beq_iff_eq]; exact h.symm)
        clear hi2 hp
        go_wp2
        go_roundw
        case rel => exact ⟨i + 1, by omega, by go_num, HE, HB⟩
        case measure => simp [intOf]; omega
    · have HE := Aside0.mk (ix_end HI.out (by omega))
      go_wp2
      go_ret
      exact ⟨by rw [HE.out]; rfl, HB.out⟩
theorem slices_ContainsInt.nice (l : List Int) (A : Option Addr) (c : Nat) (x : Int) (b : Bool) (hb : hasI l x = b) (w : World) (hl : Kd.C (Kd.int .i64) w A l.length l) (hc : l.length ≤ c) :
    Calls Try.prog 155 #[.slice A l.length c, .int .i64 x] w fun e w' => e = .returned (.bool b) ∧ Below w.heap.size w w' := by
  have HM := Aside0.mk hb.symm
  have HL := Aside0.mk hl
  clear hb hl
  go_enter Try.func155, Try.ntmps155
  go_wp2_with fail
  refine (slices_IndexInt.nice l A c x _ HL.out hc).mono ?_
  rintro e w1 ⟨rfl, hb⟩
  have HB := Aside0.mk hb
  clear hb
  go_wp2
  go_ret
  exact ⟨by rw [HM.out, has_eq]; rfl, HB.out⟩
set_option maxRecDepth 100000 in
theorem spec_l06In.nice (l : List Int) (A : Option Addr) (c : Nat) (x : Int) (b : Bool) (hb : hasI l x = b) (w : World) (hl : Kd.C (Kd.int .i64) w A l.length l) (hc : l.length ≤ c) :
    Calls Try.prog 152 #[.slice A l.length c, .int .i64 x] w fun e w' => e = .returned (.bool b) ∧ Below w.heap.size w w' := by
  have HM := Aside0.mk hb.symm
  have HL := Aside0.mk hl
  have hmx : l.length ≤ 9223372036854775807 := Kd.C_max hl
  clear hb hl
  go_enter Try.func152, Try.ntmps152
  go_wp2
  go_loopw [5] (fun v8 wr => ∃ i : Nat, i ≤ l.length ∧ v8 = .int .i64 i ∧ Aside0 (∀ j (hj : j < l.length), j < i → (l[j] == x) = false) ∧ Aside0 (Below w.heap.size w wr)) (fun v8 _ => l.length - (intOf v8).toNat)
  case atStart => exact ⟨0, Nat.zero_le _, rfl, ⟨fun j hj h => absurd h (Nat.not_lt_zero _)⟩, ⟨Below.refl _ _⟩⟩
  case round =>
    obtain ⟨i, hi, rfl, HI, HB⟩ := hrel
    by_cases hlt : i < l.length
    · obtain ⟨ad, rfl, e0⟩ := int_at (Kd.C_below HL.out HB.out) i hlt
      by_cases hp : (l[i] == x) = true
      · have HN := Aside0.mk (any_at (p := (· == x)) hlt hp)
        go_wp2
        go_ret
        exact ⟨by rw [HM.out]; unfold hasI; rw [HN.out]; rfl, HB.out⟩
      · have hp2 := Bool.eq_false_iff.2 hp
        have HN := Aside0.mk (pre_succ (q := fun y : Int => (y == x) = false) hlt HI.out hp2)
        clear hp
        go_wp2
        go_roundw
        case rel => exact ⟨i + 1, by omega, by go_num, HN, HB⟩
        case measure => simp [intOf]; omega
    · obtain rfl : i = l.length := by omega
      have HN := Aside0.mk (any_upTo (p := (· == x)) (fun j hj => HI.out j hj hj))
      clear HI
      go_wp2
      go_ret
      exact ⟨by rw [HM.out]; unfold hasI; rw [HN.out]; rfl, HB.out⟩
set_option maxRecDepth 100000 in
theorem spec_MailAt.nice (s : S47) (cs : Array Value) (x : Int) (w : World) (hb : k47.K w s cs.toList) :
    Calls Try.prog 110 #[.agg cs, .int .i64 x] w fun e w' => e = .returned (.int .i64 (mailAt s.f4 x)) ∧ Below w.heap.size w w' := by
  obtain ⟨A, c, A6, c6, e, lL, gL, l2, g2⟩ := k47_open hb
  obtain rfl : cs = _ := Array.ext' e
  have GL := Aside0.mk gL
  have hmx : s.f4.length ≤ 9223372036854775807 := Kd.C_max gL
  clear hb e gL g2
  go_enter Try.func110, Try.ntmps110
  go_wp2
  generalize hw1 : w.alloc _ = w1
  have BK := Aside0.mk (show w1.heap[w.heap.size]? = some (.cells #[.int .i64 s.f0, .string s.f1, .int .i64 s.f2.f0, .int .i64 s.f2.f1, .int .i64 s.f3, .slice A s.f4.length c, .slice A6 s.f5.length c6] 47 (0, 0)) by rw [← hw1]; exact heap_alloc_new w _)
  have HB0 := Aside0.mk (show Below w.heap.size w w1 by rw [← hw1]; exact below_alloc (Below.refl _ _) _)
  clear hw1
  go_loopw [5] (fun v8 wr => ∃ i : Nat, i ≤ s.f4.length ∧ v8 = .int .i64 i ∧ wr = w1 ∧ Aside0 (ixFrom (fun y => y.f0 == x) (i : Int) (s.f4.drop i) = mailAt s.f4 x)) (fun v8 _ => s.f4.length - (intOf v8).toNat)
  case atStart => exact ⟨0, Nat.zero_le _, rfl, rfl, ⟨rfl⟩⟩
  case round =>
    obtain ⟨i, hi, rfl, rfl, HI⟩ := hrel
    have c0 : wr.cell? ⟨w.heap.size, 5, none⟩ = some (.slice A s.f4.length c) := (blk_cell BK.out 5).trans rfl
    by_cases hlt : i < s.f4.length
    · have hs := Aside0.mk (ix_step HI.out hlt)
      obtain ⟨ad, A2, c2, rfl, e0, e1, e2, e3, _⟩ := mail_at (Kd.C_below GL.out HB0.out) i hlt
      by_cases hp : (s.f4[i].f0 == x) = true
      · have hi2 := hs.out
        rw [if_pos hp] at hi2
        have HE := Aside0.mk hi2
        clear hi2
        go_wp2
        go_ret
        exact ⟨by rw [HE.out]; rfl, HB0.out⟩
      · have hi2 := hs.out
        rw [if_neg hp] at hi2
        have HE := Aside0.mk hi2
        have hq := Bool.eq_false_iff.2 hp
        clear hi2 hp
        go_wp2
        go_roundw
        case rel => exact ⟨i + 1, by omega, by go_num, trivial, HE⟩
        case measure => simp [intOf]; omega
    · have HE := Aside0.mk (ix_end HI.out (by omega))
      go_wp2
      go_ret
      exact ⟨by rw [HE.out]; rfl, HB0.out⟩
set_option maxRecDepth 100000 in
theorem spec_BoxAt.nice (s : S29) (cs : Array Value) (x : Int) (w : World) (hb : k29.K w s cs.toList) :
    Calls Try.prog 87 #[.agg cs, .int .i64 x] w fun e w' => e = .returned (.int .i64 (boxAt s.f2 x)) ∧ Below w.heap.size w w' := by
  obtain ⟨A, c, A3, c3, e, lL, gL, l2, g2⟩ := k29_open hb
  obtain rfl : cs = _ := Array.ext' e
  have GL := Aside0.mk gL
  have hmx : s.f2.length ≤ 9223372036854775807 := Kd.C_max gL
  clear hb e gL g2
  go_enter Try.func87, Try.ntmps87
  go_wp2
  generalize hw1 : w.alloc _ = w1
  have BK := Aside0.mk (show w1.heap[w.heap.size]? = some (.cells #[.int .i64 s.f0, .int .i64 s.f1, .slice A s.f2.length c, .slice A3 s.f3.length c3] 29 (0, 0)) by rw [← hw1]; exact heap_alloc_new w _)
  have HB0 := Aside0.mk (show Below w.heap.size w w1 by rw [← hw1]; exact below_alloc (Below.refl _ _) _)
  clear hw1
  go_loopw [5] (fun v8 wr => ∃ i : Nat, i ≤ s.f2.length ∧ v8 = .int .i64 i ∧ wr = w1 ∧ Aside0 (ixFrom (fun y => y.f0 == x) (i : Int) (s.f2.drop i) = boxAt s.f2 x)) (fun v8 _ => s.f2.length - (intOf v8).toNat)
  case atStart => exact ⟨0, Nat.zero_le _, rfl, rfl, ⟨rfl⟩⟩
  case round =>
    obtain ⟨i, hi, rfl, rfl, HI⟩ := hrel
    have c0 : wr.cell? ⟨w.heap.size, 2, none⟩ = some (.slice A s.f2.length c) := (blk_cell BK.out 2).trans rfl
    by_cases hlt : i < s.f2.length
    · have hs := Aside0.mk (ix_step HI.out hlt)
      obtain ⟨ad, A5, c5, A6, c6, rfl, e0, e1, e2, e3, e4, e5, e6, _⟩ := box_at (Kd.C_below GL.out HB0.out) i hlt
      by_cases hp : (s.f2[i].f0 == x) = true
      · have hi2 := hs.out
        rw [if_pos hp] at hi2
        have HE := Aside0.mk hi2
        clear hi2
        go_wp2
        go_ret
        exact ⟨by rw [HE.out]; rfl, HB0.out⟩
      · have hi2 := hs.out
        rw [if_neg hp] at hi2
        have HE := Aside0.mk hi2
        have hq := Bool.eq_false_iff.2 hp
        clear hi2 hp
        go_wp2
        go_roundw
        case rel => exact ⟨i + 1, by omega, by go_num, trivial, HE⟩
        case measure => simp [intOf]; omega
    · have HE := Aside0.mk (ix_end HI.out (by omega))
      go_wp2
      go_ret
      exact ⟨by rw [HE.out]; rfl, HB0.out⟩
set_option maxRecDepth 100000 in
theorem spec_BoxNamed.nice (s : S29) (cs : Array Value) (x : ByteArray) (w : World) (hb : k29.K w s cs.toList) :
    Calls Try.prog 104 #[.agg cs, .string x] w fun e w' => e = .returned (.int .i64 (boxNamed s.f2 x)) ∧ Below w.heap.size w w' := by
  obtain ⟨A, c, A3, c3, e, lL, gL, l2, g2⟩ := k29_open hb
  obtain rfl : cs = _ := Array.ext' e
  have GL := Aside0.mk gL
  have hmx : s.f2.length ≤ 9223372036854775807 := Kd.C_max gL
  clear hb e gL g2
  go_enter Try.func104, Try.ntmps104
  go_wp2
  generalize hw1 : w.alloc _ = w1
  have BK := Aside0.mk (show w1.heap[w.heap.size]? = some (.cells #[.int .i64 s.f0, .int .i64 s.f1, .slice A s.f2.length c, .slice A3 s.f3.length c3] 29 (0, 0)) by rw [← hw1]; exact heap_alloc_new w _)
  have HB0 := Aside0.mk (show Below w.heap.size w w1 by rw [← hw1]; exact below_alloc (Below.refl _ _) _)
  clear hw1
  go_loopw [5] (fun v8 wr => ∃ i : Nat, i ≤ s.f2.length ∧ v8 = .int .i64 i ∧ wr = w1 ∧ Aside0 (ixFrom (fun y => y.f1.toList == x.toList) (i : Int) (s.f2.drop i) = boxNamed s.f2 x)) (fun v8 _ => s.f2.length - (intOf v8).toNat)
  case atStart => exact ⟨0, Nat.zero_le _, rfl, rfl, ⟨rfl⟩⟩
  case round =>
    obtain ⟨i, hi, rfl, rfl, HI⟩ := hrel
    have c0 : wr.cell? ⟨w.heap.size, 2, none⟩ = some (.slice A s.f2.length c) := (blk_cell BK.out 2).trans rfl
    by_cases hlt : i < s.f2.length
    · have hs := Aside0.mk (ix_step HI.out hlt)
      obtain ⟨ad, A5, c5, A6, c6, rfl, e0, e1, e2, e3, e4, e5, e6, _⟩ := box_at (Kd.C_below GL.out HB0.out) i hlt
      by_cases hp : (s.f2[i].f1.toList == x.toList) = true
      · have hi2 := hs.out
        rw [if_pos hp] at hi2
        have HE := Aside0.mk hi2
        clear hi2
        go_wp2
        go_ret
        exact ⟨by rw [HE.out]; rfl, HB0.out⟩
      · have hi2 := hs.out
        rw [if_neg hp] at hi2
        have HE := Aside0.mk hi2
        have hq := Bool.eq_false_iff.2 hp
        clear hi2 hp
        go_wp2
        go_roundw
        case rel => exact ⟨i + 1, by omega, by go_num, trivial, HE⟩
        case measure => simp [intOf]; omega
    · have HE := Aside0.mk (ix_end HI.out (by omega))
      go_wp2
      go_ret
      exact ⟨by rw [HE.out]; rfl, HB0.out⟩
end Go.Proofs.Ytjheiahfhknakaa.G
