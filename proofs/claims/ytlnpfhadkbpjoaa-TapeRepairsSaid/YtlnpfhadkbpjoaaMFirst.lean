/- A record read from bytes: what tape.first and the document's reading come to. Plain Lean. -/
import Derived.Test.YtlnpfhadkbpjoaaQx7
import Derived.Test.YtlnpfhadkbpjoaaQx11
import Derived.Test.YtlnpfhadkbpjoaaMRecBytes
import Derived.Laws.BitsLemmas
import Derived.Lib.Bytes
namespace Go.Proofs.Ytlnpfhadkbpjoaa.Pure
open Go.RowKit Go.Proofs.Ytlnpfhadkbpjoaa.Q Go.Proofs.Ytlnpfhadkbpjoaa.Base Go.Proofs.YtlnpfhadkbpjoaaW.PrintWords Go.Proofs.YtlnpfhadkbpjoaaW.PrintLast Go.Proofs.YtlnpfhadkbpjoaaW.PrintMore
set_option linter.unusedVariables false
set_option linter.unusedSimpArgs false
/-- The number of four bytes. -/
def get4 (b : List Int) : Int := b.getD 0 0 * 16777216 + b.getD 1 0 * 65536 + b.getD 2 0 * 256 + b.getD 3 0
theorem okB_drop {b : List Int} (h : okB b) (i : Nat) : okB (b.drop i) := fun x hx => h x (List.mem_of_mem_drop hx)
theorem okB_take {b : List Int} (h : okB b) (i : Nat) : okB (b.take i) := fun x hx => h x (List.mem_of_mem_take hx)
theorem four_cases {b : List Int} (h : 4 ≤ b.length) : ∃ a0 a1 a2 a3 t, b = a0 :: a1 :: a2 :: a3 :: t := by
  match b, h with
  | a0 :: a1 :: a2 :: a3 :: t, _ => exact ⟨a0, a1, a2, a3, t, rfl⟩
theorem get4_bd {b : List Int} (hb : okB b) (h : 4 ≤ b.length) : 0 ≤ get4 b ∧ get4 b < 4294967296 := by
  obtain ⟨a0, a1, a2, a3, t, rfl⟩ := four_cases h
  have h0 := hb a0 (by simp)
  have h1 := hb a1 (by simp)
  have h2 := hb a2 (by simp)
  have h3 := hb a3 (by simp)
  simp only [get4, List.getD_cons_zero, List.getD_cons_succ]
  omega
theorem four_get4 {b : List Int} (hb : okB b) (h : 4 ≤ b.length) : four (get4 b) = b.take 4 := by
  obtain ⟨a0, a1, a2, a3, t, rfl⟩ := four_cases h
  have h0 := hb a0 (by simp)
  have h1 := hb a1 (by simp)
  have h2 := hb a2 (by simp)
  have h3 := hb a3 (by simp)
  simp only [get4, List.getD_cons_zero, List.getD_cons_succ, four, List.take_succ_cons, List.take_zero]
  congr 1
  · omega
  · congr 1
    · omega
    · congr 1
      · omega
      · congr 1; omega
theorem get4_four {x : Int} (h0 : 0 ≤ x) (h1 : x < 4294967296) (t : List Int) : get4 (four x ++ t) = x := by
  simp only [get4, four, List.cons_append, List.getD_cons_zero, List.getD_cons_succ]
  omega
theorem wraps_i64 (n : Int) (h0 : 0 ≤ n) (h1 : n < 2 ^ 62) : IntKind.i64.wrap n = n := by rw [IntKind.wrap_i64]; omega
theorem or_join (i : Nat) (x y : Int) (hx : 0 ≤ x) (hm : x % 2 ^ i = 0) (hx1 : x < 2 ^ 62) (hy : 0 ≤ y) (hyi : y < 2 ^ i) (hy1 : y < 2 ^ 62) : Go.bits .or .i64 x y = x + y :=
  bits_join .i64 62 (by decide) wraps_i64 i x y hx hm hx1 hy hyi hy1
theorem get_eq {b : List Int} (hb : okB b) (h : 4 ≤ b.length) (hl : b.length ≤ 100000000) : tape_get.f b = some (get4 b) := by
  obtain ⟨a0, a1, a2, a3, t, rfl⟩ := four_cases h
  have h0 := hb a0 (by simp)
  have h1 := hb a1 (by simp)
  have h2 := hb a2 (by simp)
  have h3 := hb a3 (by simp)
  unfold tape_get.f
  have e0 : rd (a0 :: a1 :: a2 :: a3 :: t) 0 = a0 := rfl
  have e1 : rd (a0 :: a1 :: a2 :: a3 :: t) 1 = a1 := rfl
  have e2 : rd (a0 :: a1 :: a2 :: a3 :: t) 2 = a2 := rfl
  have e3 : rd (a0 :: a1 :: a2 :: a3 :: t) 3 = a3 := rfl
  have hlen : ((a0 :: a1 :: a2 :: a3 :: t).length : Int) = (t.length : Int) + 4 := by simp; omega
  simp (disch := omega) only [hlen, if_pos, e0, e1, e2, e3, wrap_id]
  rw [or_join 24 (a0 * 16777216) (a1 * 65536) (by omega) (by omega) (by omega) (by omega) (by omega) (by omega),
    or_join 16 (a0 * 16777216 + a1 * 65536) (a2 * 256) (by omega) (by omega) (by omega) (by omega) (by omega) (by omega),
    or_join 8 (a0 * 16777216 + a1 * 65536 + a2 * 256) a3 (by omega) (by omega) (by omega) (by omega) (by omega) (by omega)]
  rfl
theorem rd_drop (l : List Int) (i j : Nat) : rd l ((i + j : Nat) : Int) = (l.drop i).getD j 0 := by
  simp only [rd, Int.toNat_natCast, List.getD_eq_getElem?_getD, List.getElem?_drop]
theorem fourAt_eq {l : List Int} (hb : okB l) (hl : l.length ≤ 100000000) (i : Nat) (h : i + 4 ≤ l.length) : foretellref_fourAt.f l (i : Int) = some (get4 (l.drop i)) := by
  have hbd := okB_drop hb i
  have hlen : 4 ≤ (l.drop i).length := by rw [List.length_drop]; omega
  unfold foretellref_fourAt.f
  have e0 : rd l (i : Int) = (l.drop i).getD 0 0 := rd_drop l i 0
  have e1 : rd l ((i : Int) + 1) = (l.drop i).getD 1 0 := rd_drop l i 1
  have e2 : rd l ((i : Int) + 2) = (l.drop i).getD 2 0 := rd_drop l i 2
  have e3 : rd l ((i : Int) + 3) = (l.drop i).getD 3 0 := rd_drop l i 3
  obtain ⟨a0, a1, a2, a3, t, hd⟩ := four_cases hlen
  rw [hd] at hbd e0 e1 e2 e3 ⊢
  simp only [List.getD_cons_zero, List.getD_cons_succ] at e0 e1 e2 e3
  have h0 := hbd a0 (by simp)
  have h1 := hbd a1 (by simp)
  have h2 := hbd a2 (by simp)
  have h3 := hbd a3 (by simp)
  simp (disch := omega) only [if_pos, wrap_id, e0, e1, e2, e3]
  simp only [get4, List.getD_cons_zero, List.getD_cons_succ]
  congr 1
  omega
/-- The numbers of a record. -/
def numsAt (b : List Int) (n : Nat) : List Int := (List.range n).map fun i => get4 (b.drop (4 + 4 * i))
theorem numsAt_len (b : List Int) (n : Nat) : (numsAt b n).length = n := by simp [numsAt]
theorem numsAt_get (b : List Int) (n j : Nat) (h : j < n) : (numsAt b n)[j]'(by rw [numsAt_len]; exact h) = get4 (b.drop (4 + 4 * j)) := by simp [numsAt]
/-- The first record of bytes, if it is whole. -/
def firstS (b : List Int) : Option (List Int) :=
  if b.length < 4 then none
  else if 4000 < get4 b ∨ (b.length : Int) < 8 + 4 * get4 b then none
  else if get4 (b.drop (4 + 4 * (get4 b).toNat)) = sumOf (b.take (4 + 4 * (get4 b).toNat)) then (if (numsAt b (get4 b).toNat).all numOK = true then some (numsAt b (get4 b).toNat) else none)
  else none
def firstR (b : List Int) : List Int × Int × Bool := match firstS b with
  | some l => (l, 8 + 4 * (l.length : Int), true)
  | none => ([], 0, false)
theorem first_loop (b : List Int) (hb : okB b) (hl : b.length ≤ 100000000) (n : Nat) (hn : 8 + 4 * n ≤ b.length) (d : Nat) : ∀ j : Nat, j + d = n →
    Ev (fun k => tape_first.l0 k b ((4 + 4 * n : Nat) : Int) ((numsAt b n).take j) ((4 + 4 * j : Nat) : Int)) (if ((numsAt b n).drop j).all numOK = true then (numsAt b n, 8 + 4 * (n : Int), true) else ([], 0, false)) := by
  have hnl := numsAt_len b n
  induction d with
  | zero =>
    intro j hj
    obtain rfl : j = n := by omega
    rw [List.drop_of_length_le (by omega), List.take_of_length_le (by omega)]
    refine ev_now (fun k => ?_)
    simp (disch := omega) only [tape_first.l0, if_neg, wrap_id, List.all_nil, if_true]
    congr 2
    congr 1
    omega
  | succ d ih =>
    intro j hj
    have hlt : j < (numsAt b n).length := by omega
    have hlb : 4 ≤ (b.drop (4 + 4 * j)).length := by rw [List.length_drop]; omega
    have hg := get_eq (okB_drop hb (4 + 4 * j)) hlb (by rw [List.length_drop]; omega)
    have hbd := get4_bd (okB_drop hb (4 + 4 * j)) hlb
    have hq : ((numsAt b n).take j).length < 17592186044416 := by rw [List.length_take]; omega
    rw [List.drop_eq_getElem_cons hlt, List.all_cons, numsAt_get b n j (by omega)]
    by_cases c : get4 (b.drop (4 + 4 * j)) > 2147483647
    · rw [show numOK (get4 (b.drop (4 + 4 * j))) = false from decide_eq_false (by omega)]
      refine ev_now (fun k => ?_)
      simp (disch := omega) only [tape_first.l0, if_pos, Int.toNat_natCast, hg, Option.bind_some, Bool.false_and, Bool.false_eq_true, if_false]
    · rw [show numOK (get4 (b.drop (4 + 4 * j))) = true from decide_eq_true (by omega), Bool.true_and]
      have ht : (numsAt b n).take j ++ [get4 (b.drop (4 + 4 * j))] = (numsAt b n).take (j + 1) := by
        rw [List.take_succ_eq_append_getElem hlt, numsAt_get b n j (by omega)]
      refine Ev.step (fun k => ?_) (ih (j + 1) (by omega))
      simp (disch := omega) only [tape_first.l0, if_pos, if_neg, Int.toNat_natCast, hg, Option.bind_some, wrap_id, ht]
      rfl
theorem first_ev (b : List Int) (hb : okB b) (hl : b.length ≤ 100000000) : Ev (fun k => tape_first.f k b) (firstR b) := by
  unfold tape_first.f firstR firstS
  by_cases h4 : b.length < 4
  · have : (b.length : Int) < 4 := by omega
    simp only [if_pos h4, if_pos this]
    exact Ev.now _
  have h4' : ¬ (b.length : Int) < 4 := by omega
  simp only [if_neg h4, if_neg h4']
  refine ev_call (get_eq hb (by omega) hl) ?_
  have hbd := get4_bd hb (by omega)
  obtain ⟨n, hn⟩ : ∃ n : Nat, get4 b = (n : Int) := ⟨(get4 b).toNat, by omega⟩
  rw [hn] at hbd ⊢
  simp only [Int.toNat_natCast]
  by_cases c1 : (n : Int) > 4000
  · have c1' : 4000 < (n : Int) ∨ (b.length : Int) < 8 + 4 * (n : Int) := .inl c1
    simp only [if_pos c1, if_pos c1', if_neg h4]
    exact ev_now (fun k => by simp only [tape_first.j0, if_true])
  simp only [if_neg c1]
  simp only [wrap_id (show -9223372036854775808 ≤ 4 * (n : Int) by omega) (by omega), wrap_id (show -9223372036854775808 ≤ 4 + 4 * (n : Int) by omega) (by omega), wrap_id (show -9223372036854775808 ≤ 4 + 4 * (n : Int) + 4 by omega) (by omega)]
  by_cases c2 : (b.length : Int) < 4 + 4 * (n : Int) + 4
  · have c2' : 4000 < (n : Int) ∨ (b.length : Int) < 8 + 4 * (n : Int) := .inr (by omega)
    simp only [if_pos c2, if_pos c2']
    exact ev_now (fun k => by simp only [tape_first.j0, if_true])
  have c2' : ¬ (4000 < (n : Int) ∨ (b.length : Int) < 8 + 4 * (n : Int)) := by omega
  simp only [if_neg c2, if_neg c2']
  have c3 : 0 ≤ 4 + 4 * (n : Int) := by omega
  have c4 : 4 + 4 * (n : Int) ≤ (b.length : Int) := by omega
  have e4 : (4 + 4 * (n : Int)).toNat = 4 + 4 * n := by omega
  simp only [if_pos c3, if_pos c4, e4]
  have hlb : 4 ≤ (b.drop (4 + 4 * n)).length := by rw [List.length_drop]; omega
  refine ev_call (get_eq (okB_drop hb (4 + 4 * n)) hlb (by rw [List.length_drop]; omega)) ?_
  refine ev_bind (sum_ev (b.take (4 + 4 * n)) (by rw [List.length_take]; omega) (okB_take hb _)) ?_
  by_cases c5 : get4 (b.drop (4 + 4 * n)) = sumOf (b.take (4 + 4 * n))
  · simp only [if_pos c5, c5, bne_self_eq_false]
    have := first_loop b hb hl n (by omega) n 0 (by omega)
    rw [List.take_zero, List.drop_zero] at this
    refine Ev.step (f := fun k => tape_first.l0 k b ((4 + 4 * n : Nat) : Int) [] ((4 + 4 * 0 : Nat) : Int)) (fun k => by simp only [tape_first.j0, Bool.false_eq_true, if_false]; rfl) (ev_eq this ?_)
    by_cases c6 : (numsAt b n).all numOK = true
    · rw [if_pos c6, if_pos c6]
      show _ = (numsAt b n, 8 + 4 * ((numsAt b n).length : Int), true)
      rw [numsAt_len]
    · rw [if_neg c6, if_neg c6]
      rfl
  · simp only [if_neg c5]
    have c5' : (get4 (b.drop (4 + 4 * n)) != sumOf (b.take (4 + 4 * n))) = true := by simpa using c5
    exact ev_now (fun k => by simp only [c5', tape_first.j0, if_true])
theorem flat_nums (c : List Int) (hc : okB c) : ∀ n : Nat, 4 * n ≤ c.length → ((List.range n).map fun i => get4 (c.drop (4 * i))).flatMap four = c.take (4 * n)
  | 0, _ => by simp
  | n + 1, h => by
    rw [List.range_succ, List.map_append, List.flatMap_append, flat_nums c hc n (by omega)]
    simp only [List.map_cons, List.map_nil, List.flatMap_cons, List.flatMap_nil, List.append_nil]
    rw [four_get4 (okB_drop hc _) (by rw [List.length_drop]; omega), show 4 * (n + 1) = 4 * n + 4 by omega, List.take_add]
theorem recHead_nums (b : List Int) (hb : okB b) (n : Nat) (hn : get4 b = (n : Int)) (h : 4 + 4 * n ≤ b.length) : recHead (numsAt b n) = b.take (4 + 4 * n) := by
  unfold recHead
  rw [numsAt_len, ← hn, four_get4 hb (by omega)]
  have := flat_nums (b.drop 4) (okB_drop hb 4) n (by rw [List.length_drop]; omega)
  simp only [List.drop_drop] at this
  rw [List.take_add, ← this]
  rfl
/-- The document's look at a record is the program's. -/
theorem recBytes_iff (b : List Int) (hb : okB b) (n : Nat) (hn : get4 b = (n : Int)) (h : 8 + 4 * n ≤ b.length) : recBytes (numsAt b n) = b.take (8 + 4 * n) ↔ get4 (b.drop (4 + 4 * n)) = sumOf (b.take (4 + 4 * n)) := by
  have hs := sumOf_bd (b.take (4 + 4 * n)) 1 (by omega) (by omega)
  have hs2 : 0 ≤ sumOf (b.take (4 + 4 * n)) ∧ sumOf (b.take (4 + 4 * n)) < 2147483629 := hs
  have hlb : 4 ≤ (b.drop (4 + 4 * n)).length := by rw [List.length_drop]; omega
  have hg := get4_bd (okB_drop hb (4 + 4 * n)) hlb
  unfold recBytes
  rw [recHead_nums b hb n hn (by omega), show b.take (8 + 4 * n) = b.take (4 + 4 * n) ++ (b.drop (4 + 4 * n)).take 4 by rw [show 8 + 4 * n = (4 + 4 * n) + 4 by omega, List.take_add], ← four_get4 (okB_drop hb (4 + 4 * n)) hlb]
  constructor
  · intro e
    have e := List.append_cancel_left e
    have e1 := get4_four hs2.1 (by omega) []
    have e2 := get4_four hg.1 hg.2 []
    rw [← e1, e, e2]
  · intro e; rw [e]
theorem bytesOf_inj {a b : List Int} (ha : okB a) (hb : okB b) (h : Go.Lib.bytesOf a = Go.Lib.bytesOf b) : a = b := by
  induction a generalizing b with
  | nil => cases b with
    | nil => rfl
    | cons y b => cases h
  | cons x a ih =>
    cases b with
    | nil => cases h
    | cons y b =>
      simp only [Go.Lib.bytesOf, List.map_cons, List.cons.injEq] at h
      have hx := ha x (by simp)
      have hy := hb y (by simp)
      have h1 := congrArg UInt8.toNat h.1
      rw [UInt8.toNat_ofNat', UInt8.toNat_ofNat', Nat.mod_eq_of_lt (by omega), Nat.mod_eq_of_lt (by omega)] at h1
      rw [show x = y by omega, ih (fun z hz => ha z (List.mem_cons_of_mem _ hz)) (fun z hz => hb z (List.mem_cons_of_mem _ hz)) h.2]
theorem strOf_iff {a b : List Int} (ha : okB a) (hb : okB b) : (strOfNums a).toList = (strOfNums b).toList ↔ a = b := by
  rw [Go.Lib.strOfNums_toList, Go.Lib.strOfNums_toList]
  exact ⟨bytesOf_inj ha hb, fun h => h ▸ rfl⟩
/-- All whole records. -/
def readS : Nat → List Int → List (List Int)
  | 0, _ => []
  | f + 1, b => match firstS b with
    | none => []
    | some l => l :: readS f (b.drop (8 + 4 * l.length))
/-- How many bytes they have. -/
def usedS : List (List Int) → Nat
  | [] => 0
  | l :: r => 8 + 4 * l.length + usedS r
theorem firstS_some {b l : List Int} (hb : okB b) (h : firstS b = some l) : get4 b = (l.length : Int) ∧ 8 + 4 * l.length ≤ b.length ∧ l.length ≤ 4000 ∧ l = numsAt b l.length ∧ l.all numOK = true := by
  unfold firstS at h
  split at h
  · cases h
  · split at h
    · cases h
    · rename_i h4 h5
      split at h
      · split at h
        · rename_i h6
          cases h
          rw [numsAt_len]
          have h0 := (get4_bd hb (by omega)).1
          exact ⟨by omega, by omega, by omega, rfl, h6⟩
        · cases h
      · cases h
end Go.Proofs.Ytlnpfhadkbpjoaa.Pure
