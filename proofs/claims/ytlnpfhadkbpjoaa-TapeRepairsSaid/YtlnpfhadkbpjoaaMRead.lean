/- All whole records: what tape.Read and the document's RecordsOf come to. Plain Lean over the printed functions. -/
import Derived.Test.YtlnpfhadkbpjoaaQx8
import Derived.Test.YtlnpfhadkbpjoaaQx15
import Derived.Test.YtlnpfhadkbpjoaaMFirst
namespace Go.Proofs.Ytlnpfhadkbpjoaa.Pure
open Go.RowKit Go.Proofs.Ytlnpfhadkbpjoaa.Q Go.Proofs.Ytlnpfhadkbpjoaa.Base Go.Proofs.YtlnpfhadkbpjoaaW.PrintWords Go.Proofs.YtlnpfhadkbpjoaaW.PrintLast Go.Proofs.YtlnpfhadkbpjoaaW.PrintMore
set_option linter.unusedVariables false
set_option linter.unusedSimpArgs false
theorem readS_some {f : Nat} {b l : List Int} (h : firstS b = some l) : readS (f + 1) b = l :: readS f (b.drop (8 + 4 * l.length)) := by
  show (match firstS b with | none => [] | some l => l :: readS f (b.drop (8 + 4 * l.length))) = _
  rw [h]
theorem readS_none {f : Nat} {b : List Int} (h : firstS b = none) : readS (f + 1) b = [] := by
  show (match firstS b with | none => [] | some l => l :: readS f (b.drop (8 + 4 * l.length))) = _
  rw [h]
theorem used_le : ∀ (f : Nat) (b : List Int), okB b → usedS (readS f b) ≤ b.length
  | 0, _, _ => Nat.zero_le _
  | f + 1, b, hb => by
    cases h : firstS b with
    | none => rw [readS_none h]; exact Nat.zero_le _
    | some l =>
      have := (firstS_some hb h).2.1
      have h2 := used_le f _ (okB_drop hb (8 + 4 * l.length))
      rw [List.length_drop] at h2
      rw [readS_some h, usedS]
      omega
theorem read_bd : ∀ (f : Nat) (b : List Int), okB b → 8 * (readS f b).length ≤ usedS (readS f b) ∧ ∀ x ∈ readS f b, x.length ≤ 4000
  | 0, _, _ => by simp [readS, usedS]
  | f + 1, b, hb => by
    cases h : firstS b with
    | none => rw [readS_none h]; simp [usedS]
    | some l =>
      have h1 := (firstS_some hb h).2.2.1
      obtain ⟨h2, h3⟩ := read_bd f _ (okB_drop hb (8 + 4 * l.length))
      rw [readS_some h, usedS]
      refine ⟨by simp only [List.length_cons]; omega, fun x hx => ?_⟩
      rcases List.mem_cons.1 hx with rfl | hx
      · exact h1
      · exact h3 x hx
theorem read_loop (data : List Int) (s : Int) (hb : okB data) (hl : data.length ≤ 1048576) (f : Nat) : ∀ (at_ : Nat) (acc : List (List Int)), data.length - at_ < 8 * f → at_ ≤ data.length → 8 * acc.length ≤ at_ →
    Ev (fun k => tape_Read.l0 k acc (at_ : Int) data s) (acc ++ readS f (data.drop at_), ((at_ + usedS (readS f (data.drop at_)) : Nat) : Int), 0) := by
  induction f with
  | zero => intro at_ acc h; omega
  | succ f ih =>
    intro at_ acc h0 h1 h2
    have hbd := okB_drop hb at_
    have hF := first_ev (data.drop at_) hbd (by rw [List.length_drop]; omega)
    cases hf : firstS (data.drop at_) with
    | none =>
      have hR : firstR (data.drop at_) = ([], 0, false) := by unfold firstR; rw [hf]
      rw [readS_none hf]
      refine Ev.step (f := fun k => (tape_first.f k (data.drop at_)).bind fun bt140 => (if bt140.2.2 = true then (if acc.length < 5864062014805 then (tape_Read.l0 k (acc ++ [bt140.1]) (wrap64 ((at_ : Int) + bt140.2.1)) data s) else (none)) else (some (acc, (at_ : Int), 0)))) (fun k => ?_) (ev_bind (ev_eq hF hR) ?_)
      · simp (disch := omega) only [tape_Read.l0, if_pos, Int.toNat_natCast]
      · refine ev_const (fun k => ?_)
        simp [usedS]
    | some l =>
      obtain ⟨_, h4, h5, _, _⟩ := firstS_some hbd hf
      rw [List.length_drop] at h4
      have hR : firstR (data.drop at_) = (l, 8 + 4 * (l.length : Int), true) := by unfold firstR; rw [hf]
      rw [readS_some hf]
      have hi := ih (at_ + (8 + 4 * l.length)) (acc ++ [l]) (by omega) (by omega) (by simp; omega)
      rw [← List.drop_drop] at hi
      refine Ev.step (f := fun k => (tape_first.f k (data.drop at_)).bind fun bt140 => (if bt140.2.2 = true then (if acc.length < 5864062014805 then (tape_Read.l0 k (acc ++ [bt140.1]) (wrap64 ((at_ : Int) + bt140.2.1)) data s) else (none)) else (some (acc, (at_ : Int), 0)))) (fun k => ?_) (ev_bind (ev_eq hF hR) ?_)
      · simp (disch := omega) only [tape_Read.l0, if_pos, Int.toNat_natCast]
      · have e1 : wrap64 ((at_ : Int) + (8 + 4 * (l.length : Int))) = ((at_ + (8 + 4 * l.length) : Nat) : Int) := by rw [wrap_id (by omega) (by omega)]; omega
        simp (disch := omega) only [if_true, if_pos, e1]
        refine ev_eq hi ?_
        rw [usedS, List.append_assoc]
        congr 2
        congr 1
        omega
/-- What Read answers. -/
def readR (data : List Int) (s : Int) : List (List Int) × Int × Int := if tapeMay data s then (readS (data.length + 1) data, (usedS (readS (data.length + 1) data) : Int), 0) else ([], 0, 9)
theorem read_ev (data : List Int) (s : Int) (hb : okB data) : Ev (fun k => tape_Read.f k data s) (readR data s) := by
  unfold tape_Read.f readR
  by_cases h : tapeMay data s
  · rw [if_pos h]
    refine ev_call (open_ok h) ?_
    simp only [if_true]
    have hl := h.2.2
    have := read_loop data s hb (by omega) (data.length + 1) 0 [] (by omega) (by omega) (by simp)
    simpa using this
  · rw [if_neg h]
    refine ev_call (open_bad h) ?_
    exact ev_const (fun k => by simp)
theorem records_l1 (data : List Int) (s : Int) (hb : okB data) (hl : data.length ≤ 1048576) (acc : List (List Int)) (at_ n : Nat) (hn : at_ + (8 + 4 * n) ≤ data.length) (r : List (List Int) × Int × Int)
    (hr : Ev (fun k => (foretellref_RecordBytes.f k (numsAt (data.drop at_) n)).bind fun bt184 => (if bt184.2 = 0 then (if 0 ≤ (at_ : Int) then (if (at_ : Int) ≤ (wrap64 ((wrap64 ((at_ : Int) + (wrap64 (4 * (n : Int))))) + 8)) then (if (wrap64 ((wrap64 ((at_ : Int) + (wrap64 (4 * (n : Int))))) + 8)) ≤ (data.length : Int) then (if (strOfNums bt184.1).toList = (strOfNums ((data.take ((wrap64 ((wrap64 ((at_ : Int) + (wrap64 (4 * (n : Int))))) + 8)) : Int).toNat).drop (at_ : Int).toNat)).toList then (if acc.length < 5864062014805 then (foretellref_RecordsOf.l0 k (acc ++ [numsAt (data.drop at_) n]) (wrap64 ((at_ : Int) + (bt184.1.length : Int))) data s) else (none)) else (some (acc, (at_ : Int), 0))) else (none)) else (none)) else (none)) else (some (acc, (at_ : Int), 0)))) r) (d : Nat) : ∀ j : Nat, j + d = n →
    Ev (fun k => foretellref_RecordsOf.l1 k acc (at_ : Int) (n : Int) ((numsAt (data.drop at_) n).take j) (j : Int) data s) r := by
  have hnl := numsAt_len (data.drop at_) n
  induction d with
  | zero =>
    intro j hj
    obtain rfl : j = n := by omega
    rw [List.take_of_length_le (by omega)]
    exact Ev.step (fun k => by simp (disch := omega) only [foretellref_RecordsOf.l1, if_neg]) hr
  | succ d ih =>
    intro j hj
    have hlt : j < (numsAt (data.drop at_) n).length := by omega
    have hq : ((numsAt (data.drop at_) n).take j).length < 17592186044416 := by rw [List.length_take]; omega
    have h4 := fourAt_eq hb (by omega) (at_ + (4 + 4 * j)) (by omega)
    rw [← List.drop_drop] at h4
    have ht : (numsAt (data.drop at_) n).take j ++ [get4 ((data.drop at_).drop (4 + 4 * j))] = (numsAt (data.drop at_) n).take (j + 1) := by
      rw [List.take_succ_eq_append_getElem hlt, numsAt_get _ n j (by omega)]
    have e1 : ((at_ + (4 + 4 * j) : Nat) : Int) = (at_ : Int) + 4 + 4 * (j : Int) := by omega
    rw [e1] at h4
    refine Ev.step (fun k => ?_) (ih (j + 1) (by omega))
    simp (disch := omega) only [foretellref_RecordsOf.l1, if_pos, h4, Option.bind_some, ht, wrap_id]
    rfl
theorem records_loop (data : List Int) (s : Int) (hb : okB data) (hl : data.length ≤ 1048576) (f : Nat) : ∀ (at_ : Nat) (acc : List (List Int)), data.length - at_ < 8 * f → at_ ≤ data.length → 8 * acc.length ≤ at_ →
    Ev (fun k => foretellref_RecordsOf.l0 k acc (at_ : Int) data s) (acc ++ readS f (data.drop at_), ((at_ + usedS (readS f (data.drop at_)) : Nat) : Int), 0) := by
  induction f with
  | zero => intro at_ acc h; omega
  | succ f ih =>
    intro at_ acc h0 h1 h2
    have hbd := okB_drop hb at_
    have hdl : (data.drop at_).length = data.length - at_ := List.length_drop
    by_cases c4 : data.length < at_ + 4
    · have hf : firstS (data.drop at_) = none := by unfold firstS; rw [if_pos (by omega)]
      rw [readS_none hf]
      refine ev_now (fun k => ?_)
      simp (disch := omega) only [foretellref_RecordsOf.l0, if_neg, wrap_id]
      simp [usedS]
    have h4 := fourAt_eq hb (by omega) at_ (by omega)
    have hg := get4_bd hbd (by omega)
    obtain ⟨n, hn⟩ : ∃ n : Nat, get4 (data.drop at_) = (n : Int) := ⟨(get4 (data.drop at_)).toNat, by omega⟩
    rw [hn] at h4 hg
    have e8 : wrap64 ((wrap64 ((at_ : Int) + (wrap64 (4 * (n : Int))))) + 8) = ((at_ + (8 + 4 * n) : Nat) : Int) := by
      rw [wrap_id (x := 4 * (n : Int)) (by omega) (by omega), wrap_id (x := (at_ : Int) + 4 * (n : Int)) (by omega) (by omega), wrap_id (by omega) (by omega)]
      omega
    by_cases c5 : (n : Int) > 4000 ∨ ((at_ + (8 + 4 * n) : Nat) : Int) > (data.length : Int)
    · have hf : firstS (data.drop at_) = none := by unfold firstS; rw [if_neg (by omega), if_pos (by rw [hn, hdl]; omega)]
      rw [readS_none hf]
      refine ev_nows 2 (fun k => ?_)
      have hx : (acc ++ [], ((at_ + usedS [] : Nat) : Int), (0 : Int)) = (acc, (at_ : Int), 0) := by simp [usedS]
      rw [hx]
      by_cases c6 : (n : Int) > 4000
      · simp (disch := omega) only [foretellref_RecordsOf.l0, foretellref_RecordsOf.j1, if_pos, wrap_id (show -9223372036854775808 ≤ (at_ : Int) + 4 by omega), h4, Option.bind_some, if_pos c6, if_true]
      · have c7 : ((at_ + (8 + 4 * n) : Nat) : Int) > (data.length : Int) := c5.resolve_left c6
        simp (disch := omega) only [foretellref_RecordsOf.l0, foretellref_RecordsOf.j1, if_pos, wrap_id (show -9223372036854775808 ≤ (at_ : Int) + 4 by omega), h4, Option.bind_some, if_neg c6, e8, decide_eq_true c7, if_true]
    have c6 : ¬ (n : Int) > 4000 := fun h => c5 (.inl h)
    have c7 : ¬ ((at_ + (8 + 4 * n) : Nat) : Int) > (data.length : Int) := fun h => c5 (.inr h)
    have hnl := numsAt_len (data.drop at_) n
    have hB := bytes_ev (numsAt (data.drop at_) n)
    rw [if_neg (by omega)] at hB
    have hiff := recBytes_iff (data.drop at_) hbd n hn (by omega)
    have hcut : (data.take (at_ + (8 + 4 * n))).drop at_ = (data.drop at_).take (8 + 4 * n) := by rw [List.drop_take, show at_ + (8 + 4 * n) - at_ = 8 + 4 * n by omega]
    have hrl := recBytes_len (numsAt (data.drop at_) n)
    have hfirst : firstS (data.drop at_) = if get4 ((data.drop at_).drop (4 + 4 * n)) = sumOf ((data.drop at_).take (4 + 4 * n)) then (if (numsAt (data.drop at_) n).all numOK = true then some (numsAt (data.drop at_) n) else none) else none := by
      unfold firstS
      rw [if_neg (by omega), if_neg (by rw [hn, hdl]; omega), hn, Int.toNat_natCast]
    refine ev_steps 2 (f := fun k => foretellref_RecordsOf.l1 k acc (at_ : Int) (n : Int) ((numsAt (data.drop at_) n).take 0) ((0 : Nat) : Int) data s) (fun k => ?_) (records_l1 data s hb hl acc at_ n (by omega) _ ?_ n 0 (by omega))
    · simp (disch := omega) only [foretellref_RecordsOf.l0, foretellref_RecordsOf.j1, if_pos, wrap_id (show -9223372036854775808 ≤ (at_ : Int) + 4 by omega), h4, Option.bind_some, if_neg c6, e8, decide_eq_false c7, Bool.false_eq_true, if_false, List.take_zero]
      rfl
    refine ev_bind hB ?_
    by_cases c8 : (numsAt (data.drop at_) n).all numOK = true
    · simp only [if_pos c8] at hfirst ⊢
      have c9 : (at_ : Int) ≤ ((at_ + (8 + 4 * n) : Nat) : Int) := by omega
      have c10 : ((at_ + (8 + 4 * n) : Nat) : Int) ≤ (data.length : Int) := by omega
      have c11 : (0 : Int) ≤ (at_ : Int) := by omega
      simp only [e8, if_true, if_pos c9, if_pos c10, if_pos c11, Int.toNat_natCast, hcut, strOf_iff (recBytes_okB _) (okB_take hbd _), hiff]
      by_cases c12 : get4 ((data.drop at_).drop (4 + 4 * n)) = sumOf ((data.drop at_).take (4 + 4 * n))
      · rw [if_pos c12] at hfirst
        rw [readS_some hfirst]
        have hi := ih (at_ + (8 + 4 * n)) (acc ++ [numsAt (data.drop at_) n]) (by omega) (by omega) (by simp; omega)
        rw [← List.drop_drop] at hi
        have e9 : wrap64 ((at_ : Int) + ((recBytes (numsAt (data.drop at_) n)).length : Int)) = ((at_ + (8 + 4 * n) : Nat) : Int) := by rw [wrap_id (by omega) (by omega)]; omega
        have c13 : acc.length < 5864062014805 := Nat.lt_of_le_of_lt (show acc.length ≤ 1048576 by clear hfirst hiff hB e8 e9; omega) (by decide)
        simp only [if_pos c12, if_pos c13, e9]
        refine ev_eq hi ?_
        rw [usedS, hnl, List.append_assoc]
        congr 2
        congr 1
        omega
      · rw [if_neg c12] at hfirst
        rw [readS_none hfirst]
        refine ev_const (fun k => ?_)
        simp only [if_neg c12]
        simp [usedS]
    · simp only [if_neg c8] at hfirst ⊢
      have hf : firstS (data.drop at_) = none := by rw [hfirst]; split <;> rfl
      rw [readS_none hf]
      refine ev_const (fun k => ?_)
      simp [usedS]
theorem recordsOf_ev (data : List Int) (s : Int) (hb : okB data) : Ev (fun k => foretellref_RecordsOf.f k data s) (readR data s) := by
  unfold foretellref_RecordsOf.f readR
  by_cases h : tapeMay data s
  · rw [if_pos h]
    refine ev_call (may_ok h) ?_
    simp only [if_true]
    have hl := h.2.2
    have := records_loop data s hb (by omega) (data.length + 1) 0 [] (by omega) (by omega) (by simp)
    simpa using this
  · rw [if_neg h]
    refine ev_call (may_bad h) ?_
    exact ev_const (fun k => by simp)
theorem readR_bd (data : List Int) (s : Int) (hb : okB data) : (readR data s).1.length ≤ 1000000 ∧ (∀ x ∈ (readR data s).1, x.length ≤ 4000) ∧ 0 ≤ (readR data s).2.1 ∧ (readR data s).2.1 ≤ (data.length : Int) := by
  unfold readR
  by_cases h : tapeMay data s
  · rw [if_pos h]
    have := used_le (data.length + 1) data hb
    obtain ⟨h1, h2⟩ := read_bd (data.length + 1) data hb
    have := h.2.2
    exact ⟨by simp only; omega, h2, by simp only; omega, by simp only; omega⟩
  · rw [if_neg h]; simp
end Go.Proofs.Ytlnpfhadkbpjoaa.Pure
