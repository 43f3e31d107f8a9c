/- What the functions on stamps, registers, flags, mails, boxes and stores tell, as plain functions. No condition. -/
import Derived.Test.YtjheiahfhknakaaIdx
namespace Go.Proofs.Ytjheiahfhknakaa.G
open Go.RowKit Go.Proofs.YtjheiahfhknakaaW.PrintWords
def inI (a lo hi : Int) : Bool := decide (lo ≤ a) && decide (a ≤ hi)
def gidB (a : Int) : Bool := inI a 1 9999
def stampI (s : S44) : Bool := inI s.f0 0 100000 && inI s.f1 0 2
def regI (r : S146) : Bool := stampI r.f1 && inI r.f0 0 1000000000
def flagI (r : S146) : Bool := regI r && decide (r.f0 ≤ 1)
def flagsI (l : List S146) : Bool := l.all flagI && ((l.length : Int) == 3)
def mailI (m : S69) : Bool := gidB m.f0 && (gidB m.f1 && (flagsI m.f2 && decide ((m.f3.size : Int) ≤ 60)))
def byteI (c : UInt8) : Bool := decide (97 ≤ c.toNat ∧ c.toNat ≤ 122 ∨ 48 ≤ c.toNat ∧ c.toNat ≤ 57)
def nameAt (s : ByteArray) (i : Nat) : Bool := if h : i < s.size then byteI s[i] else true
def nameI (s : ByteArray) : Bool := (List.range s.size).all (nameAt s) && inI (s.size : Int) 1 12
def sortAt (l : List Int) (i : Nat) : Bool := gidB (l.getD i 0) && (decide (i = 0) || decide (l.getD (i - 1) 0 < l.getD i 0))
def sortI (l : List Int) (most : Int) : Bool := (List.range l.length).all (sortAt l) && decide ((l.length : Int) ≤ most)
def hasI (l : List Int) (x : Int) : Bool := l.any (· == x)
/-- Is the mail at place i right in its box? -/
def mailOkAt (b : S47) (i : Nat) : Bool :=
  mailI (b.f4.getD i z69) && (decide ((b.f4.getD i z69).f1 < b.f3) && ((decide (i = 0) || decide ((b.f4.getD (i - 1) z69).f1 < (b.f4.getD i z69).f1)) && (decide (mailAt b.f4 (b.f4.getD i z69).f0 = i) && !hasI b.f5 (b.f4.getD i z69).f0)))
def boxHead (b : S47) : Bool := gidB b.f0 && (nameI b.f1 && (stampI b.f2 && (inI b.f3 1 10000 && (decide (b.f4.length ≤ 10) && sortI b.f5 40))))
def boxI (b : S47) : Bool := boxHead b && (List.range b.f4.length).all (mailOkAt b)
/-- Is a stamp above the time? -/
def lateI (b : S47) (t : Int) : Bool := b.f4.any (fun m => m.f2.any (fun r => decide (t < r.f1.f0))) || decide (t < b.f2.f0)
theorem allR_true {n : Nat} {p : Nat → Bool} (h : ∀ j, j < n → p j = true) : (List.range n).all p = true := List.all_eq_true.2 (fun j hj => h j (List.mem_range.1 hj))
theorem allR_false {n i : Nat} {p : Nat → Bool} (hi : i < n) (h : p i = false) : (List.range n).all p = false := by
  rw [List.all_eq_false]
  exact ⟨i, List.mem_range.2 hi, by rw [h]; decide⟩
theorem upTo_succ {i : Nat} {p : Nat → Prop} (h : ∀ j, j < i → p j) (hi : p i) : ∀ j, j < i + 1 → p j := fun j hj => by
  rcases Nat.lt_or_ge j i with h1 | h1
  · exact h j h1
  · obtain rfl : j = i := by omega
    exact hi
theorem all_upTo {α : Type} {p : α → Bool} {l : List α} (h : ∀ j (hj : j < l.length), p l[j] = true) : l.all p = true := List.all_eq_true.2 (fun x hx => by obtain ⟨j, hj, rfl⟩ := List.mem_iff_getElem.1 hx; exact h j hj)
theorem all_not {α : Type} {p : α → Bool} {l : List α} {i : Nat} (hi : i < l.length) (h : p l[i] = false) : l.all p = false := by
  rw [List.all_eq_false]
  exact ⟨l[i], List.getElem_mem hi, by rw [h]; decide⟩
theorem any_upTo {α : Type} {p : α → Bool} {l : List α} (h : ∀ j (hj : j < l.length), p l[j] = false) : l.any p = false := by
  rw [List.any_eq_false]
  intro x hx
  obtain ⟨j, hj, rfl⟩ := List.mem_iff_getElem.1 hx
  rw [h j hj]
  decide
theorem any_at {α : Type} {p : α → Bool} {l : List α} {i : Nat} (hi : i < l.length) (h : p l[i] = true) : l.any p = true := List.any_eq_true.2 ⟨l[i], List.getElem_mem hi, h⟩
/-- What the prefix tells, a step further. -/
theorem pre_succ {α : Type} {q : α → Prop} {l : List α} {i : Nat} (hi : i < l.length) (h : ∀ j (hj : j < l.length), j < i → q l[j]) (h1 : q l[i]) : ∀ j (hj : j < l.length), j < i + 1 → q l[j] := fun j hj hji => by
  rcases Nat.lt_or_ge j i with h2 | h2
  · exact h j hj h2
  · obtain rfl : j = i := by omega
    exact h1
theorem getD_at {α : Type} {l : List α} {i : Nat} (hi : i < l.length) (z : α) : l.getD i z = l[i] := by rw [List.getD_eq_getElem?_getD, List.getElem?_eq_getElem hi]; rfl
end Go.Proofs.Ytjheiahfhknakaa.G
