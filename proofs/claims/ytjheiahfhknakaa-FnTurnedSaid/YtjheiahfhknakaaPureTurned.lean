/- The plain law behind FnTurned: what Sealed and Unsealed answer of a drawn text, and of the sealed text in which one byte is another; what is drawn. Conditions: the draw's bytes are fewer than 2^47, the text has at most 20000 bytes. -/
import Derived.Test.YtjheiahfhknakaaCrc
import Derived.Test.YtjheiahfhknakaaDraw
import Derived.Test.YtjheiahfhknakaaFImplUnsealed
import Derived.Test.YtjheiahfhknakaaFImplSealed
import Derived.Test.YtjheiahfhknakaaFSpecDrawSumOf
import Derived.Test.YtjheiahfhknakaaFSpecDrawPlaces
namespace Go.Proofs.Ytjheiahfhknakaa.Turned
open Go.RowKit Go.Proofs.YtjheiahfhknakaaW.PrintWords Go.Proofs.Ytjheiahfhknakaa.G Go.Proofs.Ytjheiahfhknakaa.Crc Go.Proofs.Ytjheiahfhknakaa.Draw

theorem drawSumOf (l : List Int) (hl : l.length ≤ 140737488351232) : ∃ s, Ev (fun k => spec_DrawSumOf.f k l) s ∧ s.size < 40 := by
  obtain ⟨h, hN⟩ := l01New l hl
  obtain ⟨n, i1, g1, e1, n0, n1, hi1⟩ := l01Below l hl 0 h 40 (by omega)
  have n2 := n1 (by omega)
  obtain ⟨s, i2, g2, hT, hs, hi2⟩ := l01Text l hl n i1 g1 hi1 n0 (by omega)
  refine ⟨s, ?_, by omega⟩
  unfold spec_DrawSumOf.f
  refine Ev.bind hN ?_
  simp only [e1, Option.bind_some]
  exact Ev.bind hT (Ev.now _)

theorem places_end (l : List Int) (p : Nat) (xs : List Int) (i h : Int) (hp : p = 12) (k : Nat) : spec_DrawPlaces.l0 (k + 1) xs (p : Int) l i h = some xs := by
  simp only [spec_DrawPlaces.l0]
  rw [if_neg (by omega)]
theorem places_one (l : List Int) (p : Nat) (xs : List Int) (i h x i1 g1 : Int) (hx : xs.length = p) (hp : p < 12) (e1 : spec_l01Below.f l i h 10000 = some (x, i1, g1)) (k : Nat) :
    spec_DrawPlaces.l0 (k + 1) xs (p : Int) l i h = spec_DrawPlaces.l0 k (xs ++ [x]) ((p + 1 : Nat) : Int) l i1 g1 := by
  have hw : wrap64 ((p : Int) + 1) = ((p + 1 : Nat) : Int) := by unfold wrap64; omega
  simp only [spec_DrawPlaces.l0]
  rw [if_pos (by omega), e1]
  simp only [Option.bind_some]
  rw [if_pos (by omega), hw]
theorem places_ev (l : List Int) (hl : l.length ≤ 140737488351232) (d : Nat) : ∀ (p : Nat) (xs : List Int) (i h : Int), 0 ≤ i → xs.length = p → p + d = 12 → (∀ x ∈ xs, 0 ≤ x ∧ x < 10000) →
    ∃ ys, Ev (fun k => spec_DrawPlaces.l0 k xs (p : Int) l i h) ys ∧ ys.length = 12 ∧ ∀ x ∈ ys, 0 ≤ x ∧ x < 10000 := by
  induction d with
  | zero =>
    intro p xs i h hi hx hd ha
    exact ⟨xs, Ev.step (f := fun _ => some xs) (places_end l p xs i h (by omega)) (Ev.now _), by omega, ha⟩
  | succ d ih =>
    intro p xs i h hi hx hd ha
    obtain ⟨x, i1, g1, e1, x0, x1, hi1⟩ := l01Below l hl i h 10000 hi
    obtain ⟨ys, hE, hy, hb⟩ := ih (p + 1) (xs ++ [x]) i1 g1 hi1 (by rw [List.length_append, List.length_singleton, hx]) (by omega) (by
      intro z hz
      rcases List.mem_append.1 hz with hz | hz
      · exact ha z hz
      · rw [List.mem_singleton.1 hz]
        exact ⟨x0, x1 (by omega)⟩)
    exact ⟨ys, Ev.step (places_one l p xs i h x i1 g1 hx (by omega) e1) hE, hy, hb⟩
theorem drawPlaces (l : List Int) (hl : l.length ≤ 140737488351232) : ∃ ys, Ev (fun k => spec_DrawPlaces.f k l) ys ∧ ys.length = 12 ∧ ∀ x ∈ ys, 0 ≤ x ∧ x < 10000 := by
  obtain ⟨h, hN⟩ := l01New l hl
  obtain ⟨x, i1, g1, e1, x0, x1, hi1⟩ := l01Byte l hl 0 h (by omega)
  obtain ⟨ys, hE, hy⟩ := places_ev l hl 12 0 [] i1 g1 hi1 rfl (by omega) (by simp)
  refine ⟨ys, ?_, hy⟩
  unfold spec_DrawPlaces.f
  refine Ev.bind hN ?_
  simp only [e1, Option.bind_some]
  exact hE

/-- Four bytes as a number. -/
def be (a b c d : UInt8) : Nat := a.toNat * 16777216 + b.toNat * 65536 + c.toNat * 256 + d.toNat
theorem or64 (i : Nat) (x y : Int) (hx₀ : 0 ≤ x) (hx : x % 2 ^ i = 0) (hx₁ : x < 2 ^ 63) (hy₀ : 0 ≤ y) (hy : y < 2 ^ i) (hy₁ : y < 2 ^ 63) : Go.bits .or .i64 x y = x + y :=
  bits_join .i64 63 (by decide) (fun n h0 h1 => by rw [IntKind.wrap_i64]; omega) i x y hx₀ hx hx₁ hy₀ hy hy₁
theorem joined (A B C D : Nat) (la : A < 2 ^ 8) (lb : B < 2 ^ 8) (lc : C < 2 ^ 8) (ld : D < 2 ^ 8) :
    Go.bits .or .i64 (Go.bits .or .i64 (Go.bits .or .i64 (wrap64 (wrap64 (A : Int) * 16777216)) (wrap64 (wrap64 (B : Int) * 65536))) (wrap64 (wrap64 (C : Int) * 256))) (wrap64 (D : Int)) = ((A * 16777216 + B * 65536 + C * 256 + D : Nat) : Int) := by
  have wa : wrap64 (wrap64 (A : Int) * 16777216) = ((A * 16777216 : Nat) : Int) := by unfold wrap64; omega
  have wb : wrap64 (wrap64 (B : Int) * 65536) = ((B * 65536 : Nat) : Int) := by unfold wrap64; omega
  have wc : wrap64 (wrap64 (C : Int) * 256) = ((C * 256 : Nat) : Int) := by unfold wrap64; omega
  have wd : wrap64 (D : Int) = (D : Int) := by unfold wrap64; omega
  rw [wa, wb, wc, wd]
  rw [or64 24 ((A * 16777216 : Nat) : Int) ((B * 65536 : Nat) : Int) (by omega) (by omega) (by omega) (by omega) (by omega) (by omega)]
  rw [or64 16 (((A * 16777216 : Nat) : Int) + ((B * 65536 : Nat) : Int)) ((C * 256 : Nat) : Int) (by omega) (by omega) (by omega) (by omega) (by omega) (by omega)]
  rw [or64 8 (((A * 16777216 : Nat) : Int) + ((B * 65536 : Nat) : Int) + ((C * 256 : Nat) : Int)) (D : Int) (by omega) (by omega) (by omega) (by omega) (by omega) (by omega)]
  omega
theorem wn (n : Nat) (hn : n ≤ 20000) : wrap64 ((n : Int) + 1) = ((n + 1 : Nat) : Int) ∧ wrap64 ((n : Int) + 2) = ((n + 2 : Nat) : Int) ∧ wrap64 ((n : Int) + 3) = ((n + 3 : Nat) : Int) := by
  unfold wrap64
  omega
theorem at_four (t : ByteArray) (n : Nat) (ht : t.size = n + 4) (a b c d : UInt8) (hL : t.data.toList.drop n = [a, b, c, d]) (j : Nat) (hj : j < 4) : bt t ((n + j : Nat) : Int) = (([a, b, c, d][j]'hj).toNat : Int) := by
  have hl := len t
  rw [bt_eq t (n + j) (by omega)]
  have h1 : t.data.toList[n + j]? = [a, b, c, d][j]? := by rw [← hL, List.getElem?_drop]
  rw [List.getElem?_eq_getElem (by omega), List.getElem?_eq_getElem hj] at h1
  injection h1 with h1
  rw [h1]
theorem fourAt_eq (t : ByteArray) (n : Nat) (hn : n ≤ 20000) (ht : t.size = n + 4) (a b c d : UInt8) (hL : t.data.toList.drop n = [a, b, c, d]) : impl_fourAt.f t (n : Int) = some ((be a b c d : Nat) : Int) := by
  obtain ⟨w1, w2, w3⟩ := wn n hn
  have g0 : (0 : Int) ≤ (n : Int) := by omega
  have g1 : (n : Int) < (t.size : Int) := by omega
  have g2 : (0 : Int) ≤ ((n + 1 : Nat) : Int) := by omega
  have g3 : ((n + 1 : Nat) : Int) < (t.size : Int) := by omega
  have g4 : (0 : Int) ≤ ((n + 2 : Nat) : Int) := by omega
  have g5 : ((n + 2 : Nat) : Int) < (t.size : Int) := by omega
  have g6 : (0 : Int) ≤ ((n + 3 : Nat) : Int) := by omega
  have g7 : ((n + 3 : Nat) : Int) < (t.size : Int) := by omega
  have h0 : bt t (n : Int) = (a.toNat : Int) := at_four t n ht a b c d hL 0 (by decide)
  have h1 : bt t ((n + 1 : Nat) : Int) = (b.toNat : Int) := at_four t n ht a b c d hL 1 (by decide)
  have h2 : bt t ((n + 2 : Nat) : Int) = (c.toNat : Int) := at_four t n ht a b c d hL 2 (by decide)
  have h3 : bt t ((n + 3 : Nat) : Int) = (d.toNat : Int) := at_four t n ht a b c d hL 3 (by decide)
  unfold impl_fourAt.f
  rw [w1, w2, w3, if_pos g0, if_pos g1, if_pos g2, if_pos g3, if_pos g4, if_pos g5, if_pos g6, if_pos g7, h0, h1, h2, h3]
  rw [joined a.toNat b.toNat c.toNat d.toNat a.toNat_lt b.toNat_lt c.toNat_lt d.toNat_lt]
  rfl

theorem take_data (t : ByteArray) (n : Nat) : (t.extract 0 n).data.toList = t.data.toList.take n := by
  rw [ByteArray.data_extract, Array.toList_extract]
  simp [List.extract]
/-- Unsealed, in plain words. -/
theorem unsealed_ev (t : ByteArray) (n : Nat) (hn : n ≤ 20000) (ht : t.size = n + 4) (a b c d : UInt8) (hL : t.data.toList.drop n = [a, b, c, d]) :
    Ev (fun k => impl_Unsealed.f k t) (if crc 4294967295 (t.data.toList.take n) = be a b c d then (t.extract 0 n, true) else ((⟨#[]⟩ : ByteArray), false)) := by
  have hw : wrap64 ((t.size : Int) - 4) = (n : Int) := by unfold wrap64; omega
  have hin : impl_within.f (n : Int) 0 20000 = some true := by
    unfold impl_within.f
    rw [if_pos (by omega), decide_eq_true (by omega)]
  have hs := sum_ev (t.extract 0 n) (by rw [ByteArray.size_extract]; omega)
  have hlt := sum_lt (t.extract 0 n)
  have hsum : sum (t.extract 0 n) = crc 4294967295 (t.data.toList.take n) := by unfold sum; rw [take_data]
  rw [hsum] at hs hlt
  have hf := fourAt_eq t n hn ht a b c d hL
  unfold impl_Unsealed.f
  simp only [hw, hin, Option.bind_some, if_true, Int.toNat_natCast]
  simp only [show (0 : Int) ≤ (n : Int) from by omega, show (n : Int) ≤ (t.size : Int) from by omega, if_true, hf, Option.bind_some]
  refine Ev.bind hs ?_
  have hww : wrap64 ((crc 4294967295 (t.data.toList.take n) : Nat) : Int) = ((crc 4294967295 (t.data.toList.take n) : Nat) : Int) := by unfold wrap64; omega
  simp only [hww, Int.natCast_inj]
  split
  · exact Ev.now _
  · exact Ev.now _
def fourBytes (x : Nat) : List UInt8 := [UInt8.ofNat (x / 16777216 % 256), UInt8.ofNat (x / 65536 % 256), UInt8.ofNat (x / 256 % 256), UInt8.ofNat (x % 256)]
theorem be_four (x : Nat) (h : x < 2 ^ 32) : be (UInt8.ofNat (x / 16777216 % 256)) (UInt8.ofNat (x / 65536 % 256)) (UInt8.ofNat (x / 256 % 256)) (UInt8.ofNat (x % 256)) = x := by
  unfold be
  simp only [UInt8.toNat_ofNat']
  omega
/-- The sealed text. -/
def shut (s : ByteArray) : ByteArray := ⟨(s.data.toList ++ fourBytes (sum s)).toArray⟩
theorem shut_list (s : ByteArray) : (shut s).data.toList = s.data.toList ++ fourBytes (sum s) := rfl
theorem shut_size (s : ByteArray) : (shut s).size = s.size + 4 := by
  rw [← len, shut_list, List.length_append, len]
  rfl
theorem shut_four (s : ByteArray) (x : Nat) (hx : x = sum s) : s ++ strOfNums (([((x : Int) / 16777216) % 256, ((x : Int) / 65536) % 256, ((x : Int) / 256) % 256, (x : Int) % 256] : List Int)) = shut s := by
  subst hx
  apply ByteArray.ext
  apply Array.ext'
  rw [ByteArray.data_append, Array.toList_append, strOfNums_data, shut_list]
  congr 1
theorem sealed_ev (s : ByteArray) (hs : s.size ≤ 20000) : Ev (fun k => impl_Sealed.f k s) (shut s, true) := by
  have hlt := sum_lt s
  have hww : wrap64 ((sum s : Nat) : Int) = ((sum s : Nat) : Int) := by unfold wrap64; omega
  unfold impl_Sealed.f
  simp only [show ¬ (s.size : Int) > 20000 from by omega, if_false]
  refine Ev.bind (sum_ev s (by omega)) ?_
  simp only [hww, impl_four.f, Option.bind_some, shut_four s (sum s) rfl, strOfNums_size, List.length_cons, List.length_nil]
  rw [if_pos (by omega)]
  exact Ev.now _
theorem unsealed_shut (s : ByteArray) (hs : s.size ≤ 20000) : Ev (fun k => impl_Unsealed.f k (shut s)) (s, true) := by
  have h := unsealed_ev (shut s) s.size hs (shut_size s) _ _ _ _ (show (shut s).data.toList.drop s.size = _ by
    rw [shut_list, List.drop_left' (len s)]
    rfl)
  rw [be_four _ (sum_lt s), shut_list, List.take_left' (len s), if_pos (show crc 4294967295 s.data.toList = sum s from rfl)] at h
  have he : (shut s).extract 0 s.size = s := by
    apply ByteArray.ext
    apply Array.ext'
    rw [take_data, shut_list, List.take_left' (len s)]
  rw [he] at h
  exact h
/-- One byte is another: it is not unsealed. -/
theorem unsealed_turned (s : ByteArray) (hs : s.size ≤ 20000) (i : Nat) (y : UInt8) (hi : i < (shut s).data.toList.length) (hy : y ≠ (shut s).data.toList[i]) :
    Ev (fun k => impl_Unsealed.f k ⟨((shut s).data.toList.set i y).toArray⟩) ((⟨#[]⟩ : ByteArray), false) := by
  have hsl := len s
  have hn : (shut s).data.toList.length = s.size + 4 := by rw [len, shut_size]
  have ht : (⟨((shut s).data.toList.set i y).toArray⟩ : ByteArray).size = s.size + 4 := by
    rw [← len]
    show ((shut s).data.toList.set i y).length = _
    rw [List.length_set, hn]
  by_cases hlt : i < s.size
  · have h := unsealed_ev ⟨((shut s).data.toList.set i y).toArray⟩ s.size hs ht _ _ _ _ (show ((shut s).data.toList.set i y).drop s.size = _ by
      rw [List.drop_set_of_lt hlt, shut_list, List.drop_left' hsl]
      rfl)
    rw [be_four _ (sum_lt s)] at h
    rw [if_neg ?_] at h
    · exact h
    · show ¬ crc 4294967295 (((shut s).data.toList.set i y).take s.size) = sum s
      have hil : i < s.data.toList.length := by omega
      have e1 : ((shut s).data.toList.set i y).take s.size = s.data.toList.set i y := by
        rw [List.take_set, shut_list, List.take_left' hsl]
      have e2 : (shut s).data.toList[i] = s.data.toList[i] := by
        simp only [shut_list]
        exact List.getElem_append_left hil
      rw [e1]
      rw [e2] at hy
      have e3 : s.data.toList.set i y = s.data.toList.take i ++ y :: s.data.toList.drop (i + 1) := by
        rw [List.set_eq_take_append_cons_drop, if_pos hil]
      have e4 : s.data.toList = s.data.toList.take i ++ s.data.toList[i] :: s.data.toList.drop (i + 1) := by
        rw [← List.drop_eq_getElem_cons hil, List.take_append_drop]
      unfold sum
      rw [e3]
      conv => rhs; rhs; rw [e4]
      exact crc_ne (by decide) hy
  · obtain ⟨j, rfl⟩ : ∃ j, i = s.size + j := ⟨i - s.size, by omega⟩
    have e2 : (shut s).data.toList[s.size + j] = (fourBytes (sum s))[j]'(by simp [fourBytes]; omega) := by
      simp only [shut_list]
      rw [List.getElem_append_right (by omega)]
      simp only [hsl, Nat.add_sub_cancel_left]
    rw [e2] at hy
    have e1 : ((shut s).data.toList.set (s.size + j) y).drop s.size = (fourBytes (sum s)).set j y := by
      rw [List.drop_set, if_neg (by omega), shut_list, List.drop_left' hsl, Nat.add_sub_cancel_left]
    have e5 : ((shut s).data.toList.set (s.size + j) y).take s.size = s.data.toList := by
      rw [List.take_set_of_le (by omega), shut_list, List.take_left' hsl]
    have hx := sum_lt s
    have hj : j < 4 := by omega
    have key : ∀ a b c d : UInt8, (fourBytes (sum s)).set j y = [a, b, c, d] → be a b c d ≠ sum s := by
      intro a b c d he hb
      have h4 := be_four (sum s) hx
      rw [← h4] at hb
      have toNat_ne : ∀ u v : UInt8, u ≠ v → u.toNat ≠ v.toNat := fun u v h h2 => h (UInt8.toNat_inj.1 h2)
      rcases (show j = 0 ∨ j = 1 ∨ j = 2 ∨ j = 3 by omega) with rfl | rfl | rfl | rfl
      all_goals
        simp only [fourBytes, List.set_cons_zero, List.set_cons_succ, List.cons.injEq] at he
        obtain ⟨rfl, rfl, rfl, rfl, _⟩ := he
        have := toNat_ne _ _ hy
        simp only [fourBytes, List.getElem_cons_zero, List.getElem_cons_succ] at this
        unfold be at hb
        omega
    obtain ⟨a, b, c, d, h4⟩ : ∃ a b c d, (fourBytes (sum s)).set j y = [a, b, c, d] := by
      rcases (show j = 0 ∨ j = 1 ∨ j = 2 ∨ j = 3 by omega) with rfl | rfl | rfl | rfl <;> exact ⟨_, _, _, _, rfl⟩
    have h := unsealed_ev ⟨((shut s).data.toList.set (s.size + j) y).toArray⟩ s.size hs ht a b c d (e1.trans h4)
    rw [if_neg ?_] at h
    · exact h
    · show ¬ crc 4294967295 (((shut s).data.toList.set (s.size + j) y).take s.size) = be a b c d
      rw [e5]
      exact fun h5 => key a b c d h4 h5.symm
/-- SumMore goes on. -/
theorem sum_x (s : ByteArray) : crc (sum s) (⟨#[120]⟩ : ByteArray).data.toList = sum (s ++ ⟨#[120]⟩) := by
  unfold sum
  rw [ByteArray.data_append, Array.toList_append, crc_append]
end Go.Proofs.Ytjheiahfhknakaa.Turned
