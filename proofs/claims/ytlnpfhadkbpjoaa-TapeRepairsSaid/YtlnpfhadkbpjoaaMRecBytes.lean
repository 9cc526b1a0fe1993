/- A record's bytes, by the document. Plain Lean over the printed functions. -/
import Derived.Test.YtlnpfhadkbpjoaaQx14
import Derived.Test.YtlnpfhadkbpjoaaMTape
import Derived.Test.YtlnpfhadkbpjoaaMSum
namespace Go.Proofs.Ytlnpfhadkbpjoaa.Pure
open Go.RowKit Go.Proofs.Ytlnpfhadkbpjoaa.Q Go.Proofs.Ytlnpfhadkbpjoaa.Base Go.Proofs.YtlnpfhadkbpjoaaW.PrintWords Go.Proofs.YtlnpfhadkbpjoaaW.PrintLast Go.Proofs.YtlnpfhadkbpjoaaW.PrintMore
set_option linter.unusedVariables false
/-- A number's four bytes. -/
def four (n : Int) : List Int := [(n / 16777216) % 256, (n / 65536) % 256, (n / 256) % 256, n % 256]
theorem four_okB (n : Int) : okB (four n) := by
  intro x hx
  simp only [four, List.mem_cons, List.not_mem_nil, or_false] at hx
  rcases hx with rfl | rfl | rfl | rfl <;> omega
theorem okB_append {a b : List Int} (ha : okB a) (hb : okB b) : okB (a ++ b) := fun x hx => (List.mem_append.1 hx).elim (ha x) (hb x)
theorem fours_eq {n : Int} (h0 : 0 ≤ n) (h1 : n ≤ 9223372036854775807) : foretellref_fours.f n = some (four n) := by
  unfold foretellref_fours.f four
  simp (disch := omega) only [tdiv_of, tmod_of, wrap_id]
  congr 2
  · congr 1
    · omega
    · congr 1
      · omega
      · congr 1; omega
def numOK (n : Int) : Bool := decide (0 ≤ n ∧ n ≤ 2147483647)
/-- The bytes of a record, ahead of its sum. -/
def recHead (l : List Int) : List Int := four (l.length : Int) ++ l.flatMap four
def recBytes (l : List Int) : List Int := recHead l ++ four (sumOf (recHead l))
theorem flat_len (l : List Int) : (l.flatMap four).length = 4 * l.length := by
  induction l with
  | nil => rfl
  | cons a l ih => rw [List.flatMap_cons, List.length_append, ih]; simp [four]; omega
theorem flat_okB (l : List Int) : okB (l.flatMap four) := by
  intro x hx
  obtain ⟨n, _, h⟩ := List.mem_flatMap.1 hx
  exact four_okB n x h
theorem recHead_len (l : List Int) : (recHead l).length = 4 + 4 * l.length := by
  rw [recHead, List.length_append, flat_len]; simp [four]
theorem recBytes_len (l : List Int) : (recBytes l).length = 8 + 4 * l.length := by
  rw [recBytes, List.length_append, recHead_len]; simp [four]; omega
theorem recHead_okB (l : List Int) : okB (recHead l) := okB_append (four_okB _) (flat_okB l)
theorem recBytes_okB (l : List Int) : okB (recBytes l) := okB_append (recHead_okB l) (four_okB _)
theorem bytes_loop (l : List Int) (hl : (l.length : Int) ≤ 4000) (d : Nat) : ∀ (i : Nat) (b : List Int), i + d = l.length → b ++ (l.drop i).flatMap four = recHead l →
    Ev (fun k => foretellref_RecordBytes.l0 k l b i) (if (l.drop i).all numOK = true then (recBytes l, 0) else ([], 2)) := by
  have hlen := recHead_len l
  have hlen2 := recBytes_len l
  induction d with
  | zero =>
    intro i b hi hb
    rw [List.drop_of_length_le (by omega)] at hb ⊢
    obtain rfl : b = recHead l := by simpa using hb
    have hs := summed_ev (recHead l) (by omega) (recHead_okB l)
    have hq := sumOf_bd (recHead l) 1 (by omega) (by omega)
    refine Ev.step (f := fun k => (foretellref_Summed.f k (recHead l)).bind fun t393 => ((foretellref_fours.f t393).bind fun t394 => (if (recHead l).length + t394.length < 140737488355328 then (some ((recHead l ++ t394), 0)) else (none)))) (fun k => ?_) ?_
    · simp (disch := omega) only [foretellref_RecordBytes.l0, if_neg]
    · refine ev_bind hs ?_
      refine ev_call (fours_eq hq.1 (by have := hq.2; show (recHead l).foldl sumStep 1 ≤ _; omega)) ?_
      exact ev_const (fun k => by rw [if_pos (by simp [four]; omega)]; rfl)
  | succ d ih =>
    intro i b hi hb
    have hlt : i < l.length := by omega
    rw [List.drop_eq_getElem_cons hlt] at hb ⊢
    by_cases c0 : l[i] < 0
    · exact ev_now (fun k => by rw [List.all_cons, show numOK l[i] = false from decide_eq_false (by omega)]; simp (disch := omega) only [foretellref_RecordBytes.l0, foretellref_In.f, if_pos, if_neg, rd_get, Option.bind_some, Bool.false_and, Bool.false_eq_true, if_false])
    by_cases c1 : l[i] > 2147483647
    · exact ev_now (fun k => by rw [List.all_cons, show numOK l[i] = false from decide_eq_false (by omega)]; simp (disch := omega) only [foretellref_RecordBytes.l0, foretellref_In.f, if_pos, if_neg, rd_get, Option.bind_some, Bool.false_and, Bool.false_eq_true, if_false, decide_eq_true_eq])
    have hbl : b.length + (4 + ((l.drop (i + 1)).flatMap four).length) = (recHead l).length := by
      have := congrArg List.length hb
      rw [List.flatMap_cons, List.length_append, List.length_append] at this
      have h4 : (four l[i]).length = 4 := rfl
      omega
    have hf := fours_eq (n := l[i]) (by omega) (by omega)
    have h4 : (four l[i]).length = 4 := rfl
    rw [List.all_cons, show numOK l[i] = true from decide_eq_true (by omega), Bool.true_and]
    refine Ev.step (f := fun k => foretellref_RecordBytes.l0 k l (b ++ four l[i]) ((i + 1 : Nat) : Int)) (fun k => ?_) (ih (i + 1) (b ++ four l[i]) (by omega) (by rw [List.append_assoc, ← hb, List.flatMap_cons]))
    simp (disch := omega) only [foretellref_RecordBytes.l0, foretellref_In.f, if_pos, rd_get, hf, Option.bind_some, wrap_id, decide_eq_true_eq]
    rfl
theorem bytes_ev (l : List Int) : Ev (fun k => foretellref_RecordBytes.f k l) (if (l.length : Int) > 4000 then ([], 1) else if l.all numOK = true then (recBytes l, 0) else ([], 2)) := by
  unfold foretellref_RecordBytes.f
  by_cases c : (l.length : Int) > 4000
  · simp only [if_pos c]; exact Ev.now _
  · simp only [if_neg c]
    refine ev_call (fours_eq (by omega) (by omega)) ?_
    exact bytes_loop l (by omega) l.length 0 (four (l.length : Int)) (by omega) (by simp [recHead])
end Go.Proofs.Ytlnpfhadkbpjoaa.Pure
