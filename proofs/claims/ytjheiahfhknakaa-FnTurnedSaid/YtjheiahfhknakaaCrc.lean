/- The checksum of the mail program as a fold over bytes: a text in which one byte differs has another sum. No condition. -/
import Derived.Test.YtjheiahfhknakaaFImplSumOf
import Derived.Laws.BitsAllLaws
namespace Go.Proofs.Ytjheiahfhknakaa.Crc
open Go.RowKit Go.Proofs.YtjheiahfhknakaaW.PrintWords Go.Proofs.Ytjheiahfhknakaa.G

/-- One bit. -/
def st (x : Nat) : Nat := if x % 2 = 1 then (x / 2) ^^^ 3558460437 else x / 2
theorem st_lt {x : Nat} (h : x < 2 ^ 32) : st x < 2 ^ 32 := by
  unfold st
  split
  · exact Nat.xor_lt_two_pow (by omega) (by decide)
  · omega
theorem top {a : Nat} (h : a < 2147483648) : 2147483648 ≤ a ^^^ 3558460437 := by
  have h1 : (a ^^^ 3558460437).testBit 31 = true := by
    rw [Nat.testBit_xor, Nat.testBit_lt_two_pow (show a < 2 ^ 31 by omega)]
    decide
  exact Nat.ge_two_pow_of_testBit h1
theorem st_inj {x y : Nat} (hx : x < 2 ^ 32) (hy : y < 2 ^ 32) (h : st x = st y) : x = y := by
  unfold st at h
  split at h <;> split at h
  · have := congrArg (· ^^^ 3558460437) h
    simp only [Nat.xor_assoc, Nat.xor_self, Nat.xor_zero] at this
    omega
  · have := top (a := x / 2) (by omega)
    omega
  · have := top (a := y / 2) (by omega)
    omega
  · omega
/-- n bits. -/
def sts : Nat → Nat → Nat
  | 0, x => x
  | n + 1, x => sts n (st x)
theorem sts_lt : ∀ (n : Nat) {x : Nat}, x < 2 ^ 32 → sts n x < 2 ^ 32
  | 0, _, h => h
  | n + 1, _, h => sts_lt n (st_lt h)
theorem sts_inj : ∀ (n : Nat) {x y : Nat}, x < 2 ^ 32 → y < 2 ^ 32 → sts n x = sts n y → x = y
  | 0, _, _, _, _, h => h
  | n + 1, _, _, hx, hy, h => st_inj hx hy (sts_inj n (st_lt hx) (st_lt hy) h)
/-- The sum goes on over bytes. -/
def crc (x : Nat) (l : List UInt8) : Nat := l.foldl (fun a b => sts 8 (a ^^^ b.toNat)) x
theorem crc_nil (x : Nat) : crc x [] = x := rfl
theorem crc_cons (x : Nat) (b : UInt8) (l : List UInt8) : crc x (b :: l) = crc (sts 8 (x ^^^ b.toNat)) l := rfl
theorem crc_append (x : Nat) (l m : List UInt8) : crc x (l ++ m) = crc (crc x l) m := by simp [crc]
theorem xor_lt {x : Nat} (h : x < 2 ^ 32) (b : UInt8) : x ^^^ b.toNat < 2 ^ 32 := Nat.xor_lt_two_pow h (by have := b.toNat_lt; omega)
theorem crc_lt : ∀ (l : List UInt8) {x : Nat}, x < 2 ^ 32 → crc x l < 2 ^ 32
  | [], _, h => h
  | b :: l, _, h => crc_lt l (sts_lt 8 (xor_lt h b))
theorem crc_inj : ∀ (l : List UInt8) {x y : Nat}, x < 2 ^ 32 → y < 2 ^ 32 → crc x l = crc y l → x = y
  | [], _, _, _, _, h => h
  | b :: l, x, y, hx, hy, h => by
    have h1 := sts_inj 8 (xor_lt hx b) (xor_lt hy b) (crc_inj l (sts_lt 8 (xor_lt hx b)) (sts_lt 8 (xor_lt hy b)) h)
    have := congrArg (· ^^^ b.toNat) h1
    simpa [Nat.xor_assoc] using this
/-- One byte is another: so is the sum. -/
theorem crc_ne {l m : List UInt8} {b c : UInt8} {x : Nat} (hx : x < 2 ^ 32) (hne : b ≠ c) : crc x (l ++ b :: m) ≠ crc x (l ++ c :: m) := by
  intro h
  rw [crc_append, crc_append, crc_cons, crc_cons] at h
  have hl := crc_lt l hx
  have h1 := sts_inj 8 (xor_lt hl b) (xor_lt hl c) (crc_inj m (sts_lt 8 (xor_lt hl b)) (sts_lt 8 (xor_lt hl c)) h)
  have h2 := congrArg (crc x l ^^^ ·) h1
  simp only [← Nat.xor_assoc, Nat.xor_self, Nat.zero_xor] at h2
  exact hne (UInt8.toNat_inj.1 h2)

theorem and_one (x : Nat) (h : x < 2 ^ 32) : Go.bits .and .u32 (x : Int) 1 = ((x % 2 : Nat) : Int) := by
  have := u32_and_nat x 1 (by omega) (by decide)
  rw [Nat.and_one_is_mod] at this
  exact this
theorem l1_one (x : Nat) (hx : x < 2 ^ 32) (s : ByteArray) (p : Int) (j : Nat) (hj : j < 8) (k : Nat) :
    impl_SumMore.l1 (k + 1) (x : Int) s p (j : Int) = impl_SumMore.l1 k ((st x : Nat) : Int) s p ((j + 1 : Nat) : Int) := by
  have hw : wrap64 ((j : Int) + 1) = ((j + 1 : Nat) : Int) := by unfold wrap64; omega
  simp only [impl_SumMore.l1]
  rw [if_pos (by omega), and_one x hx, hw]
  unfold st
  by_cases h : x % 2 = 1
  · rw [if_pos (by omega), if_pos h]
    have h2 := u32_xor_nat (x / 2) 3558460437 (by omega) (by decide)
    rw [show ((x : Int) / 2) = ((x / 2 : Nat) : Int) by omega]
    rw [show ((3558460437 : Nat) : Int) = (3558460437 : Int) from rfl] at h2
    rw [h2]
  · rw [if_neg (by omega), if_neg h]
    rw [show ((x : Int) / 2) = ((x / 2 : Nat) : Int) by omega]
theorem l1_ev (s : ByteArray) (p : Int) (r : Int) : ∀ (d : Nat) (x j : Nat), x < 2 ^ 32 → j + d = 8 → Ev (fun k => impl_SumMore.l0 k ((sts d x : Nat) : Int) s (wrap64 (p + 1))) r → Ev (fun k => impl_SumMore.l1 k (x : Int) s p (j : Int)) r
  | 0, x, j, hx, hj, h => by
    refine Ev.step (f := fun k => impl_SumMore.l0 k (x : Int) s (wrap64 (p + 1))) (fun k => ?_) h
    simp only [impl_SumMore.l1]
    rw [if_neg (by omega)]
  | d + 1, x, j, hx, hj, h => Ev.step (fun k => l1_one x hx s p j (by omega) k) (l1_ev s p r d (st x) (j + 1) (st_lt hx) (by omega) h)
theorem len (s : ByteArray) : s.data.toList.length = s.size := Array.length_toList
theorem bt_eq (s : ByteArray) (p : Nat) (hp : p < s.data.toList.length) : bt s (p : Int) = ((s.data.toList[p]'hp).toNat : Int) := by
  have hp2 : p < s.size := by rw [← len]; exact hp
  have := bt_at s (p : Int) (by simpa using hp2)
  rw [← this]
  simp
  rfl
theorem l0_ev (s : ByteArray) (hs : s.size ≤ 140737488351232) : ∀ (d p x : Nat), p + d = s.size → x < 2 ^ 32 → Ev (fun k => impl_SumMore.l0 k (x : Int) s (p : Int)) ((crc x (s.data.toList.drop p) : Nat) : Int)
  | 0, p, x, hd, hx => by
    have hl := len s
    rw [List.drop_eq_nil_of_le (by omega), crc_nil]
    refine Ev.step (f := fun _ => some (x : Int)) (fun k => ?_) (Ev.now _)
    simp only [impl_SumMore.l0]
    rw [if_neg (by omega)]
  | d + 1, p, x, hd, hx => by
    have hl := len s
    have hp : p < s.data.toList.length := by omega
    rw [List.drop_eq_getElem_cons hp, crc_cons]
    have hb := bt_eq s p hp
    have hlt := (s.data.toList[p]'hp).toNat_lt
    generalize s.data.toList[p]'hp = b at hb hlt ⊢
    have hw : wrap64 ((p : Int) + 1) = ((p + 1 : Nat) : Int) := by unfold wrap64; omega
    refine Ev.step (f := fun k => impl_SumMore.l1 k ((x ^^^ b.toNat : Nat) : Int) s (p : Int) ((0 : Nat) : Int)) (fun k => ?_) (l1_ev s (p : Int) _ 8 _ 0 (xor_lt hx b) (by omega) ?_)
    · simp only [impl_SumMore.l0]
      rw [if_pos (by omega), if_pos (by omega), hb, Int.emod_eq_of_lt (by omega) (by omega), u32_xor_nat x b.toNat (by omega) (by omega)]
      rfl
    · rw [hw]
      exact l0_ev s hs d (p + 1) _ (by omega) (sts_lt 8 (xor_lt hx b))
/-- SumMore is the fold. -/
theorem more_ev (s : ByteArray) (hs : s.size ≤ 140737488351232) (x : Nat) (hx : x < 2 ^ 32) : Ev (fun k => impl_SumMore.f k (x : Int) s) ((crc x s.data.toList : Nat) : Int) := by
  have := l0_ev s hs s.size 0 x (by omega) hx
  exact this
def sum (s : ByteArray) : Nat := crc 4294967295 s.data.toList
theorem sum_lt (s : ByteArray) : sum s < 2 ^ 32 := crc_lt _ (by decide)
theorem sum_ev (s : ByteArray) (hs : s.size ≤ 140737488351232) : Ev (fun k => impl_SumOf.f k s) ((sum s : Nat) : Int) := by
  unfold impl_SumOf.f
  exact Ev.bind (more_ev s hs 4294967295 (by decide)) (Ev.now _)
end Go.Proofs.Ytjheiahfhknakaa.Crc
