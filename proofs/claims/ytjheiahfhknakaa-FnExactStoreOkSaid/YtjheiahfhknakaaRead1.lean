/- Right numbers, Gids, stamps, registers, flags, mails, names, rows of Gids, what a row holds: the functions of the program and of the reference tell the same (NiceB). Condition: what is handed over can be read. -/
import Derived.Test.YtjheiahfhknakaaNice
namespace Go.Proofs.Ytjheiahfhknakaa.G
open Go.RowKit Go.Proofs.YtjheiahfhknakaaW.PrintWords Go.Proofs.YtjheiahfhknakaaW.PrintLast Go.Proofs.YtjheiahfhknakaaW.PrintMore
set_option linter.unusedVariables false
set_option linter.unusedSimpArgs false
theorem calls_below {P : Program} {f : FuncId} {args : Array Value} {w : World} {v : Value} (h : Calls P f args w fun e w' => e = .returned v ∧ w = w') : Calls P f args w fun e w' => e = .returned v ∧ Below w.heap.size w w' :=
  h.mono fun _ _ h2 => ⟨h2.1, h2.2 ▸ Below.refl _ _⟩
theorem impl_within.nice (a lo hi : Int) (b : Bool) (hb : inI a lo hi = b) (w : World) : Calls Try.prog 126 #[.int .i64 a, .int .i64 lo, .int .i64 hi] w fun e w' => e = .returned (.bool b) ∧ w = w' := by
  subst hb
  unfold inI
  by_cases h1 : lo ≤ a
  · have d1 : decide (lo ≤ a) = true := decide_eq_true h1
    rw [d1, Bool.true_and]
    go_enter Try.func126, Try.ntmps126
    go_wp2
    go_ret
    exact ⟨rfl, rfl⟩
  · have d1 : decide (lo ≤ a) = false := decide_eq_false h1
    rw [d1, Bool.false_and]
    go_enter Try.func126, Try.ntmps126
    go_wp2
    go_ret
    exact ⟨rfl, rfl⟩
theorem spec_l01In.nice (a lo hi : Int) (b : Bool) (hb : inI a lo hi = b) (w : World) : Calls Try.prog 145 #[.int .i64 a, .int .i64 lo, .int .i64 hi] w fun e w' => e = .returned (.bool b) ∧ w = w' := by
  subst hb
  unfold inI
  by_cases h1 : lo ≤ a
  · have d1 : decide (lo ≤ a) = true := decide_eq_true h1
    rw [d1, Bool.true_and]
    go_enter Try.func145, Try.ntmps145
    go_wp2
    go_ret
    exact ⟨rfl, rfl⟩
  · have d1 : decide (lo ≤ a) = false := decide_eq_false h1
    rw [d1, Bool.false_and]
    go_enter Try.func145, Try.ntmps145
    go_wp2
    go_ret
    exact ⟨rfl, rfl⟩
theorem impl_isGid.nice (a : Int) (b : Bool) (hb : gidB a = b) (w : World) : Calls Try.prog 163 #[.int .i64 a] w fun e w' => e = .returned (.bool b) ∧ w = w' := by
  have HB := Aside0.mk hb
  clear hb
  go_enter Try.func163, Try.ntmps163
  go_wp2_with fail
  refine (impl_within.nice a 1 9999 b HB.out _).mono ?_
  rintro e w1 ⟨rfl, rfl⟩
  go_wp2
  go_ret
  exact ⟨rfl, rfl⟩
theorem impl_StampOk.nice (s : S44) (b : Bool) (hb : stampI s = b) (w : World) : Calls Try.prog 167 #[.agg #[.int .i64 s.f0, .int .i64 s.f1]] w fun e w' => e = .returned (.bool b) ∧ Below w.heap.size w w' := by
  subst hb
  unfold stampI
  cases h1 : inI s.f0 0 100000 with
  | false =>
    have H1 := Aside0.mk h1
    clear h1
    rw [Bool.false_and]
    go_enter Try.func167, Try.ntmps167
    go_wp2_with fail
    refine (impl_within.nice s.f0 0 100000 false H1.out _).mono ?_
    rintro e w1 ⟨rfl, rfl⟩
    go_wp2
    go_ret
    exact ⟨rfl, below_alloc (Below.refl _ _) _⟩
  | true =>
    have H1 := Aside0.mk h1
    clear h1
    rw [Bool.true_and]
    go_enter Try.func167, Try.ntmps167
    go_wp2_with fail
    refine (impl_within.nice s.f0 0 100000 true H1.out _).mono ?_
    rintro e w1 ⟨rfl, rfl⟩
    go_wp2_with fail
    refine (impl_within.nice s.f1 0 2 _ rfl _).mono ?_
    rintro e w1 ⟨rfl, rfl⟩
    go_wp2
    go_ret
    exact ⟨rfl, below_alloc (Below.refl _ _) _⟩
theorem spec_StampOk.nice (s : S44) (b : Bool) (hb : stampI s = b) (w : World) : Calls Try.prog 166 #[.agg #[.int .i64 s.f0, .int .i64 s.f1]] w fun e w' => e = .returned (.bool b) ∧ Below w.heap.size w w' := by
  subst hb
  unfold stampI
  cases h1 : inI s.f0 0 100000 with
  | false =>
    have H1 := Aside0.mk h1
    clear h1
    rw [Bool.false_and]
    go_enter Try.func166, Try.ntmps166
    go_wp2_with fail
    refine (spec_l01In.nice s.f0 0 100000 false H1.out _).mono ?_
    rintro e w1 ⟨rfl, rfl⟩
    go_wp2
    go_ret
    exact ⟨rfl, below_alloc (Below.refl _ _) _⟩
  | true =>
    have H1 := Aside0.mk h1
    clear h1
    rw [Bool.true_and]
    go_enter Try.func166, Try.ntmps166
    go_wp2_with fail
    refine (spec_l01In.nice s.f0 0 100000 true H1.out _).mono ?_
    rintro e w1 ⟨rfl, rfl⟩
    go_wp2_with fail
    refine (spec_l01In.nice s.f1 0 2 _ rfl _).mono ?_
    rintro e w1 ⟨rfl, rfl⟩
    go_wp2
    go_ret
    exact ⟨rfl, below_alloc (Below.refl _ _) _⟩
theorem impl_RegOk.nice (r : S146) (b : Bool) (hb : regI r = b) (w : World) : Calls Try.prog 143 #[.agg #[.int .i64 r.f0, .int .i64 r.f1.f0, .int .i64 r.f1.f1]] w fun e w' => e = .returned (.bool b) ∧ Below w.heap.size w w' := by
  subst hb
  unfold regI
  cases h1 : stampI r.f1 with
  | false =>
    have H1 := Aside0.mk h1
    clear h1
    rw [Bool.false_and]
    go_enter Try.func143, Try.ntmps143
    go_wp2_with fail
    refine (impl_StampOk.nice r.f1 false H1.out _).mono ?_
    rintro e w1 ⟨rfl, hb⟩
    have HB := Aside0.mk (below_then (below_alloc (Below.refl w.heap.size w) (.cells #[.int .i64 r.f0, .int .i64 r.f1.f0, .int .i64 r.f1.f1] 146)) (by simp) hb)
    clear hb
    go_wp2
    go_ret
    exact ⟨rfl, HB.out⟩
  | true =>
    have H1 := Aside0.mk h1
    clear h1
    rw [Bool.true_and]
    go_enter Try.func143, Try.ntmps143
    go_wp2_with fail
    refine (impl_StampOk.nice r.f1 true H1.out _).mono ?_
    rintro e w1 ⟨rfl, hb⟩
    have HB := Aside0.mk (below_then (below_alloc (Below.refl w.heap.size w) (.cells #[.int .i64 r.f0, .int .i64 r.f1.f0, .int .i64 r.f1.f1] 146)) (by simp) hb)
    have c0 : w1.cell? ⟨w.heap.size, 0, none⟩ = some (.int .i64 r.f0) := (blk_cell (blk_below (heap_alloc_new w _) hb) 0).trans rfl
    clear hb
    go_wp2_with fail
    refine (impl_within.nice r.f0 0 1000000000 _ rfl _).mono ?_
    rintro e w2 ⟨rfl, rfl⟩
    go_wp2
    go_ret
    exact ⟨rfl, HB.out⟩
theorem spec_RegOk.nice (r : S146) (b : Bool) (hb : regI r = b) (w : World) : Calls Try.prog 147 #[.agg #[.int .i64 r.f0, .int .i64 r.f1.f0, .int .i64 r.f1.f1]] w fun e w' => e = .returned (.bool b) ∧ Below w.heap.size w w' := by
  subst hb
  unfold regI
  cases h1 : stampI r.f1 with
  | false =>
    have H1 := Aside0.mk h1
    clear h1
    rw [Bool.false_and]
    go_enter Try.func147, Try.ntmps147
    go_wp2_with fail
    refine (spec_StampOk.nice r.f1 false H1.out _).mono ?_
    rintro e w1 ⟨rfl, hb⟩
    have HB := Aside0.mk (below_then (below_alloc (Below.refl w.heap.size w) (.cells #[.int .i64 r.f0, .int .i64 r.f1.f0, .int .i64 r.f1.f1] 146)) (by simp) hb)
    clear hb
    go_wp2
    go_ret
    exact ⟨rfl, HB.out⟩
  | true =>
    have H1 := Aside0.mk h1
    clear h1
    rw [Bool.true_and]
    go_enter Try.func147, Try.ntmps147
    go_wp2_with fail
    refine (spec_StampOk.nice r.f1 true H1.out _).mono ?_
    rintro e w1 ⟨rfl, hb⟩
    have HB := Aside0.mk (below_then (below_alloc (Below.refl w.heap.size w) (.cells #[.int .i64 r.f0, .int .i64 r.f1.f0, .int .i64 r.f1.f1] 146)) (by simp) hb)
    have c0 : w1.cell? ⟨w.heap.size, 0, none⟩ = some (.int .i64 r.f0) := (blk_cell (blk_below (heap_alloc_new w _) hb) 0).trans rfl
    clear hb
    go_wp2_with fail
    refine (spec_l01In.nice r.f0 0 1000000000 _ rfl _).mono ?_
    rintro e w2 ⟨rfl, rfl⟩
    go_wp2
    go_ret
    exact ⟨rfl, HB.out⟩
end Go.Proofs.Ytjheiahfhknakaa.G
