/- How deep a term is, counted by places and by parts. Plain Lean. -/
import Derived.Test.YtmlkkpkaaicobaaDoorMTerm
namespace Go.Proofs.YtmlkkpkaaicobaaDoor
open Go.RowKit Go.Proofs.YtmlkkpkaaicobaaDoor.Q Go.Proofs.YtmlkkpkaaicobaaDoor.Base Go.Proofs.YtmlkkpkaaicobaaDoorW.PrintWords Go.Proofs.YtmlkkpkaaicobaaDoorW.PrintLast Go.Proofs.YtmlkkpkaaicobaaDoorW.PrintMore
set_option linter.unusedVariables false
/-- Of the first m places, how many reach over a place. -/
def over (l : List POp) (i : Nat) : Nat → Nat
  | 0 => 0
  | m + 1 => over l i m + if (i : Int) < endAt l m then 1 else 0
/-- The most that reach over one of the first n places. -/
def deep (l : List POp) : Nat → Nat
  | 0 => 0
  | n + 1 => max (deep l n) (over l n (n + 1))
theorem over_le (l : List POp) (i : Nat) : ∀ m, over l i m ≤ m
  | 0 => Nat.le_refl _
  | m + 1 => by have := over_le l i m; unfold over; split <;> omega
theorem deep_le (l : List POp) : ∀ n, deep l n ≤ n
  | 0 => Nat.le_refl _
  | n + 1 => by have := deep_le l n; have := over_le l n (n + 1); unfold deep; omega
theorem over_un {o : POp} {p : List POp} (a : arIs o 1) (hp : one p) (i : Nat) (hi : i < p.length) : ∀ m, m ≤ p.length → over (o :: p) (i + 1) (m + 1) = 1 + over p i m
  | 0, _ => by
    unfold over
    rw [endAt_zero (one_un a hp), if_pos (by simp; omega)]
    rfl
  | m + 1, h => by
    rw [over, over_un a hp i hi m (by omega), endAt_un hp m (by omega), over]
    by_cases c : (i : Int) < endAt p m
    · rw [if_pos c, if_pos (by omega)]; omega
    · rw [if_neg c, if_neg (by omega)]; omega
theorem deep_un {o : POp} {p : List POp} (a : arIs o 1) (hp : one p) : ∀ n, n ≤ p.length → deep (o :: p) (n + 1) = 1 + deep p n
  | 0, _ => by
    have h1 := endAt_zero (one_un a hp)
    have : ((0 : Nat) : Int) < ((o :: p).length : Int) := by simp
    simp only [deep, over, h1]
    rw [if_pos this]; rfl
  | n + 1, h => by
    rw [deep, deep_un a hp n (by omega), over_un a hp n (by omega) (n + 1) (by omega), deep]
    omega
theorem over_bin1 {o : POp} {p q : List POp} (a : arIs o 2) (hp : one p) (hq : one q) (i : Nat) (hi : i < p.length) : ∀ m, m ≤ p.length → over (o :: (p ++ q)) (i + 1) (m + 1) = 1 + over p i m
  | 0, _ => by
    unfold over
    rw [endAt_zero (one_bin a hp hq), if_pos (by simp; omega)]
    rfl
  | m + 1, h => by
    rw [over, over_bin1 a hp hq i hi m (by omega), endAt_bin1 hp m (by omega), over]
    by_cases c : (i : Int) < endAt p m
    · rw [if_pos c, if_pos (by omega)]; omega
    · rw [if_neg c, if_neg (by omega)]; omega
theorem over_bin2 {o : POp} {p q : List POp} (a : arIs o 2) (hp : one p) (hq : one q) (i : Nat) (hi : i < q.length) : ∀ m, m ≤ p.length → over (o :: (p ++ q)) (p.length + i + 1) (m + 1) = 1
  | 0, _ => by
    unfold over
    rw [endAt_zero (one_bin a hp hq), if_pos (by simp; omega)]
    rfl
  | m + 1, h => by
    have := (endAt_bd hp m (by omega)).2
    rw [over, over_bin2 a hp hq i hi m (by omega), endAt_bin1 hp m (by omega), if_neg (by omega)]
theorem over_bin3 {o : POp} {p q : List POp} (a : arIs o 2) (hp : one p) (hq : one q) (i : Nat) (hi : i < q.length) : ∀ m, m ≤ q.length → over (o :: (p ++ q)) (p.length + i + 1) (p.length + m + 1) = 1 + over q i m
  | 0, _ => over_bin2 a hp hq i hi p.length (Nat.le_refl _)
  | m + 1, h => by
    show over _ _ (p.length + m + 1 + 1) = _
    rw [over, over_bin3 a hp hq i hi m (by omega), endAt_bin2 hq m (by omega), over]
    by_cases c : (i : Int) < endAt q m
    · rw [if_pos c, if_pos (by omega)]; omega
    · rw [if_neg c, if_neg (by omega)]; omega
theorem deep_bin1 {o : POp} {p q : List POp} (a : arIs o 2) (hp : one p) (hq : one q) : ∀ n, n ≤ p.length → deep (o :: (p ++ q)) (n + 1) = 1 + deep p n
  | 0, _ => by
    have h1 := endAt_zero (one_bin a hp hq)
    have : ((0 : Nat) : Int) < ((o :: (p ++ q)).length : Int) := by simp; omega
    simp only [deep, over, h1]
    rw [if_pos this]; rfl
  | n + 1, h => by
    rw [deep, deep_bin1 a hp hq n (by omega), over_bin1 a hp hq n (by omega) (n + 1) (by omega), deep]
    omega
theorem deep_bin2 {o : POp} {p q : List POp} (a : arIs o 2) (hp : one p) (hq : one q) : ∀ n, n ≤ q.length → deep (o :: (p ++ q)) (p.length + n + 1) = 1 + max (deep p p.length) (deep q n)
  | 0, _ => by
    show deep _ (p.length + 1) = _
    rw [deep_bin1 a hp hq p.length (Nat.le_refl _)]
    simp [deep]
  | n + 1, h => by
    show deep _ (p.length + n + 1 + 1) = _
    have h3 := over_bin3 a hp hq n (by omega) (n + 1) (by omega)
    rw [deep, deep_bin2 a hp hq n (by omega), show p.length + n + 1 + 1 = p.length + (n + 1) + 1 from rfl, h3, deep]
    omega
theorem deep_leaf {o : POp} (a : arIs o 0) : deep [o] 1 = 1 := by
  have h1 := endAt_zero (one_leaf a)
  simp only [deep, over, h1]
  rfl
end Go.Proofs.YtmlkkpkaaicobaaDoor
