import Derived.Test.YthffpjkkmkjplaaDoorKWordClaimsG8
import Derived.Test.YthffpjkkmkjplaaDoorKWordClaimsG10
import Derived.Test.YthffpjkkmkjplaaDoorKWordClaimsG14
import Derived.Deep.RegionHeld3
import Derived.StillTailTactics
import Derived.Test.YthffpjkkmkjplaaDoorKWordClaimsG13
import Derived.Test.YthffpjkkmkjplaaDoorKWordClaimsG12
-- Cut by a program of this session (wip/prune.py) from a longer text: declarations that the law does not need are left out.
namespace Go.Proofs.YthffpjkkmkjplaaDoor.Q
open Go.RowKit Go.Proofs.YthffpjkkmkjplaaDoorW.PrintWords Go.Proofs.YthffpjkkmkjplaaDoorW.PrintLast Go.Proofs.YthffpjkkmkjplaaDoorW.PrintMore
attribute [local go_sem] max2_int min2_int max_two min_two max_three min_three max_four min_four
set_option linter.unusedVariables false
set_option linter.unusedSimpArgs false
section
open Go.Proofs.YthffpjkkmkjplaaDoor.Hand
theorem bools_cell {w : World} {g : Nat} {xs : List Bool} (h : w.heap[g]? = some (.cells (bools xs).toArray 4 (0, 0))) (i : Nat) (hi : i < xs.length) : w.cell? ⟨g, i, none⟩ = some (.bool (xs.getD i false)) := by
  rw [blk_cell h]
  simp [bools, hi]
theorem bools_put (xs : List Bool) (i : Nat) (v : Bool) : (bools xs).toArray.setIfInBounds i (.bool v) = (bools (xs.set i v)).toArray := by
  simp [bools, List.map_set]
theorem behind_calls (gt n st i cL : Nat) (AL : Option Addr) (w : World) (k2 : w.cell? ⟨gt, 2, none⟩ = some (.slice AL n cL)) (k3 : w.cell? ⟨gt, 3, none⟩ = some (.int .i64 (st : Int))) (hi : i < n) (hn : n ≤ 24) :
    Calls Tryd.prog 73 #[.pointer (some ⟨gt, 0, none⟩), .int .i64 (i : Int)] w fun e w' => e = .returned (.int .i64 ((Pure.behS n st i : Nat) : Int)) ∧ w' = w := by
  have e1 : IntKind.i64.wrap ((i : Int) + 1) = ((i + 1 : Nat) : Int) := by rw [IntKind.wrap_i64]; omega
  unfold Pure.behS
  by_cases h : i + 1 < n
  · have hd : decide (((i + 1 : Nat) : Int) < (n : Int)) = true := decide_eq_true (by omega)
    have hd2 : decide (i + 1 < n) = true := decide_eq_true (by omega)
    go_enter Tryd.func73, Tryd.ntmps73
    go_wp2
    go_ret
    exact ⟨by simp [h], rfl⟩
  · have hd : decide (((i + 1 : Nat) : Int) < (n : Int)) = false := decide_eq_false (by omega)
    have hd2 : decide (i + 1 < n) = false := decide_eq_false (by omega)
    go_enter Tryd.func73, Tryd.ntmps73
    go_wp2
    go_ret
    exact ⟨by simp [h], rfl⟩
structure SetOK (g n : Nat) (w0 : World) (r : List Bool) (w : World) : Prop where
  gb : w0.grownBy w (some g)
  row : w.heap[g]? = some (.cells (bools r).toArray 4 (0, 0))
  len : r.length = n
theorem SetOK.set {g n : Nat} {w0 : World} {r : List Bool} {w : World} (h : SetOK g n w0 r w) (i : Nat) (v : Bool) : SetOK g n w0 (r.set i v) (w.setCell ⟨g, i, none⟩ (.bool v)) :=
  ⟨grownBy_set h.gb _ _, by rw [blk_set h.row, bools_put], by rw [List.length_set]; exact h.len⟩
theorem SetOK.drew {g n : Nat} {w0 : World} {r : List Bool} {w : World} (h : SetOK g n w0 r w) : SetOK g n w0 r w.drew := ⟨grownBy_drewN h.gb 1, h.row, h.len⟩
set_option maxRecDepth 100000 in
set_option maxHeartbeats 2000000 in
theorem settle_calls (gt gr g at_ n st m cL K : Nat) (AL : Option Addr) (f0 f1 : Value) (vs : List Value) (β : Bool) (law : Nat → Bool → Bool) (R r0 : List Bool) (caps : Array Value) (w : World)
    (hK : ∀ args W, (callFunc K args).run Tryd.prog W = .ok (.enter K args) W)
    (hLaw : ∀ W, w.grownBy W (some g) → ∀ i : Nat, i < n → ∀ x : Bool, Calls Tryd.prog K (#[.int .i64 (i : Int), .bool x] ++ caps) W fun e W' => e = .returned (.bool (law i x)) ∧ W' = W)
    (hT : w.heap[gt]? = some (.cells #[f0, f1, .slice AL n cL, .int .i64 (st : Int), .slice (some ⟨gr, 0, none⟩) m m] 59 (0, 0)))
    (hR : w.heap[gr]? = some (.cells vs.toArray 27 (0, 0))) (hv : vs[at_]? = some (.slice (some ⟨g, 0, none⟩) n n)) (hm : at_ < m) (hm2 : m ≤ 60)
    (hB : w.heap[g]? = some (.cells (bools r0).toArray 4 (0, 0))) (hr0 : r0.length = n) (hn : n ≤ 24) (ok : Pure.LawOK n st β law R) :
    Calls Tryd.prog 68 #[.pointer (some ⟨gt, 0, none⟩), .int .i64 (at_ : Int), .bool β, .func (.func K) #[] caps] w fun e w' => e = .returned (.tuple #[]) ∧ SetOK g n w R w' := by
  have HK := Aside0.mk hK
  have HLaw := Aside0.mk hLaw
  have HT := Aside0.mk hT
  have HR := Aside0.mk hR
  have HOK := Aside0.mk ok
  have HS := Aside0.mk (show SetOK g n w r0 w from ⟨World.grownBy.refl w _, hB, hr0⟩)
  have HN := Aside0.mk hn
  have k4 : w.cell? ⟨gt, 4, none⟩ = some (.slice (some ⟨gr, 0, none⟩) m m) := blk_cell hT 4
  have k5 : w.cell? ⟨gr, at_, none⟩ = some (.slice (some ⟨g, 0, none⟩) n n) := by rw [blk_cell hR]; simpa using hv
  have HGT := Aside0.mk (show g ≠ gt ∧ g ≠ gr from ⟨blk_ne hB hT (by decide), blk_ne hB hR (by decide)⟩)
  have q1 : decide ((at_ : Int) < (m : Int)) = true := decide_eq_true (by omega)
  have q2 : decide (at_ < m) = true := decide_eq_true hm
  have q3 : ((at_ : Int) < (m : Int)) = True := eq_true (by omega)
  have q4 : (0 ≤ (at_ : Int)) = True := eq_true (by omega)
  clear hK hLaw hT hR ok hB hr0 hv hm
  go_enter Tryd.func68, Tryd.ntmps68
  go_wp2
  clear q1 q2 q3 q4 k4 k5
  go_loopg [22] (n + 1) (fun kq v22 w' => ∃ (t : Nat) (r : List Bool), v22 = .int .i64 (t : Int) ∧ Aside0 (kq + t = n + 1 ∧ t ≤ n) ∧ Aside0 (SetOK g n w r w') ∧ Aside0 (∀ j, j < t → r.getD j false = β))
  case atStart => exact ⟨0, r0, rfl, ⟨by omega⟩, HS, ⟨fun j hj => by omega⟩⟩
  case round =>
    obtain ⟨t, r, rfl, HI, HS, HB⟩ := hrel
    cases gk with
    | zero => exact absurd HI.out (by omega)
    | succ k1 =>
    by_cases ht : t < n
    · have hd : decide ((t : Int) < (n : Int)) = true := decide_eq_true (by omega)
      have hd2 : decide (t < n) = true := decide_eq_true ht
      have hq : ((t : Int) < (n : Int)) = True := eq_true (by omega)
      have hq2 : (t < n) = True := eq_true (by omega)
      have hp : (0 ≤ (t : Int)) = True := eq_true (by omega)
      have e1 : IntKind.i64.wrap ((t : Int) + 1) = ((t + 1 : Nat) : Int) := by rw [IntKind.wrap_i64]; omega
      have z1 : wr.frozen? ⟨g, t, none⟩ = false := blk_frozen HS.out.row _
      have kc := bools_cell HS.out.row t (by rw [HS.out.len]; exact ht)
      have HI2 := Aside0.mk (show k1 + (t + 1) = n + 1 ∧ t + 1 ≤ n by have := HI.out; omega)
      have HS2 := Aside0.mk (HS.out.set t β)
      have HB2 := Aside0.mk (show ∀ j, j < t + 1 → (r.set t β).getD j false = β from fun j hj => by
        rw [Pure.getD_set _ _ _ _ (by rw [HS.out.len]; exact ht)]
        by_cases e : j = t
        · rw [if_pos e]
        · rw [if_neg e]; exact HB.out j (by omega))
      clear ht
      go_wp2
      go_roundg k1
      case measure => have := HI2.out; omega
      case rel => exact ⟨t + 1, _, rfl, HI2, HS2, HB2⟩
    · have hd : decide ((t : Int) < (n : Int)) = false := decide_eq_false (by omega)
      have hd2 : decide (t < n) = false := decide_eq_false ht
      have hr : r = List.replicate n β := by
        refine List.ext_getElem (by rw [HS.out.len, List.length_replicate]) fun j h1 h2 => ?_
        have hj : j < n := by rw [← HS.out.len]; exact h1
        have := HB.out j (by omega)
        rw [List.getElem_replicate, ← this]
        simp [h1]
      have HS0 := Aside0.mk (hr ▸ HS.out)
      clear HS HB HI ht hr
      go_wp2_with fail
      go_loopg [10] (n + 2) (fun kq v10 w' => ∃ (ch : Bool) (r : List Bool), v10 = .bool ch ∧ Aside0 (SetOK g n w r w') ∧ Aside0 (Pure.Good n st β law R r) ∧ Aside0 (Pure.cnt β r + (if ch = true then 1 else 0) < kq) ∧ Aside0 (ch = false → ∀ j, j < n → law j (r.getD (Pure.behS n st j) false) = r.getD j false))
      case atStart => exact ⟨true, _, rfl, HS0, ⟨Pure.good_start HOK.out⟩, ⟨by have : Pure.cnt β (List.replicate n β) ≤ (List.replicate n β).length := List.countP_le_length; rw [List.length_replicate] at this; simp; omega⟩, ⟨fun h => by cases h⟩⟩
      case round =>
        clear HS0
        obtain ⟨ch, r, rfl, HS, HG, HC, HF⟩ := hrel
        cases ch with
        | false =>
          have HE := Aside0.mk (Pure.good_done HOK.out HG.out (HF.out rfl))
          go_wp2_with fail
          go_end0
          exact ⟨rfl, by rw [← HE.out]; exact HS.out⟩
        | true =>
          cases gk with
          | zero => exact absurd HC.out (by omega)
          | succ k1 =>
          have e1 : IntKind.i64.wrap ((n : Int) - 1) = (n : Int) - 1 := by rw [IntKind.wrap_i64]; have := HN.out; omega
          go_wp2_with fail
          go_loopg [10, 11] (n + 1) (fun kq v10 v11 w' => ∃ (ch : Bool) (i1 : Nat) (r' : List Bool), v10 = .bool ch ∧ v11 = .int .i64 ((i1 : Int) - 1) ∧ Aside0 (kq = i1 + 1 ∧ i1 ≤ n) ∧ Aside0 (SetOK g n w r' w') ∧ Aside0 (Pure.Good n st β law R r') ∧ Aside0 (Pure.cnt β r' + (if ch = true then 1 else 0) ≤ Pure.cnt β r) ∧ Aside0 (ch = false → ∀ j, i1 ≤ j → j < n → law j (r'.getD (Pure.behS n st j) false) = r'.getD j false))
          case atStart => exact ⟨false, n, r, rfl, rfl, ⟨rfl, Nat.le_refl _⟩, HS, HG, ⟨by simp⟩, ⟨fun _ j h1 h2 => absurd h1 (by omega)⟩⟩
          case round =>
            clear HS HG HF e1
            obtain ⟨ch, i1, r', rfl, rfl, HI, HS, HG, HCC, HF⟩ := hrel
            cases i1 with
            | zero =>
              have q1 : decide (((0 : Nat) : Int) - 1 ≥ 0) = false := by decide
              have HC2 := Aside0.mk (show Pure.cnt β r' + (if ch = true then 1 else 0) < k1 by have h1 := HC.out; have h2 := HCC.out; simp only [if_true] at h1; omega)
              have HF2 := Aside0.mk (show ch = false → ∀ j, j < n → law j (r'.getD (Pure.behS n st j) false) = r'.getD j false from fun h j hj => HF.out h j (Nat.zero_le _) hj)
              clear HC HCC HF HI
              go_wp2_with fail
              go_roundg k1
              case measure => have := HC2.out; omega
              case rel => exact ⟨ch, r', rfl, HS, HG, HC2, HF2⟩
            | succ i =>
              rw [show ((i + 1 : Nat) : Int) - 1 = (i : Int) by omega]
              cases gk with
              | zero => exact absurd HI.out.1 (by omega)
              | succ k2 =>
              have hi := HI.out.2
              have hbe := HOK.out.beh i hi
              have hsl := HS.out.len
              have q1 : decide ((i : Int) ≥ 0) = true := decide_eq_true (by omega)
              have t2 : wr.cell? ⟨gt, 2, none⟩ = some (.slice AL n cL) := blk_cell (blk_grown HT.out HS.out.gb (fun e => HGT.out.1 (Option.some.inj e).symm)) 2
              have t3 : wr.cell? ⟨gt, 3, none⟩ = some (.int .i64 (st : Int)) := blk_cell (blk_grown HT.out HS.out.gb (fun e => HGT.out.1 (Option.some.inj e).symm)) 3
              have kb := bools_cell HS.out.row (Pure.behS n st i) (by omega)
              have ki := bools_cell HS.out.row i (by omega)
              have zi : wr.frozen? ⟨g, i, none⟩ = false := blk_frozen HS.out.row _
              have HGS := Aside0.mk (fun hv => Pure.good_step HOK.out HG.out hi hv)
              have HLX := Aside0.mk (HLaw.out wr HS.out.gb i hi (r'.getD (Pure.behS n st i) false))
              obtain ⟨x, hx⟩ : ∃ x, x = r'.getD (Pure.behS n st i) false := ⟨_, rfl⟩
              obtain ⟨y, hy⟩ : ∃ y, y = r'.getD i false := ⟨_, rfl⟩
              rw [← hx] at kb HLX
              rw [← hy] at ki
              have HX := Aside0.mk (And.intro hx hy)
              clear hx hy
              have HB := Aside0.mk (behind_calls gt n st i cL AL wr t2 t3 hi HN.out)
              have e1 : IntKind.i64.wrap ((i : Int) - 1) = (i : Int) - 1 := by rw [IntKind.wrap_i64]; omega
              have p1 : (0 ≤ ((Pure.behS n st i : Nat) : Int)) = True := eq_true (by omega)
              have p2 : decide (((Pure.behS n st i : Nat) : Int) < (n : Int)) = true := decide_eq_true (by omega)
              have p3 : decide (Pure.behS n st i < n) = true := decide_eq_true hbe
              have p4 : (((Pure.behS n st i : Nat) : Int) < (n : Int)) = True := eq_true (by omega)
              have p5 : (0 ≤ (i : Int)) = True := eq_true (by omega)
              have p6 : decide ((i : Int) < (n : Int)) = true := decide_eq_true (by omega)
              have p7 : decide (i < n) = true := decide_eq_true hi
              have p8 : ((i : Int) < (n : Int)) = True := eq_true (by omega)
              have HL := Aside0.mk (And.intro hi hsl)
              clear t2 t3 hi hbe hsl
              go_wp2_with (go_at_call 73; refine HB.out.mono ?_; rintro e wz ⟨rfl, rfl⟩)
              rw [HK.out, Oper.upon_enter]
              refine HLX.out.mono ?_
              rintro e wy ⟨rfl, rfl⟩
              clear HLX HB kb p1 p2 p3 p4
              obtain ⟨v, hv⟩ : ∃ v, v = law i x := ⟨_, rfl⟩
              rw [← hv]
              have HV := Aside0.mk hv
              clear hv
              by_cases hne : v = y
              case pos =>
                have q2 : (!(v == y)) = false := by rw [hne]; simp
                have HF2 := Aside0.mk (show ch = false → ∀ j, i ≤ j → j < n → law j (r'.getD (Pure.behS n st j) false) = r'.getD j false from fun h j h1 h2 => by
                  rcases Nat.lt_or_ge i j with h3 | h3
                  · exact HF.out h j h3 h2
                  · obtain rfl : j = i := by omega
                    rw [← HX.out.1, ← HX.out.2, ← hne, HV.out])
                clear hne HF
                go_wp2_with fail
                go_roundg k2
                case measure => have := HI.out; omega
                case rel => exact ⟨ch, i, r', rfl, rfl, ⟨by have := HI.out; omega⟩, HS, HG, HCC, HF2⟩
              case neg =>
                have q2 : (!(v == y)) = true := by simp [hne]
                obtain ⟨g1, g2, g3⟩ := HGS.out (by rw [← HX.out.1, ← HX.out.2, ← HV.out]; exact hne)
                have HG2 := Aside0.mk g3
                have hc := Pure.cnt_set β r' i (by have := HL.out; omega) g1
                have hvb : v = !β := by rw [HV.out, HX.out.1]; exact g2
                have HS2 := Aside0.mk (HS.out.set i v)
                have HCC2 := Aside0.mk (show Pure.cnt β (r'.set i v) + 1 ≤ Pure.cnt β r by rw [hvb]; have := HCC.out; omega)
                have HG3 := Aside0.mk (show Pure.Good n st β law R (r'.set i v) by have := HG2.out; rw [← HX.out.1, ← HV.out] at this; exact this)
                clear g1 g2 g3 hc hvb hne HG2 HCC HF
                go_wp2_with fail
                go_roundg k2
                case measure => have := HI.out; omega
                case rel => exact ⟨true, i, _, rfl, rfl, ⟨by have := HI.out; omega⟩, HS2, HG3, ⟨by rw [if_pos rfl]; exact HCC2.out⟩, ⟨fun h => by cases h⟩⟩
theorem clo1_calls (ga ba n i : Nat) (a : List Bool) (x : Bool) (w : World) (hA : w.heap[ga]? = some (.cells #[.slice (some ⟨ba, 0, none⟩) n n] 27 (0, 0))) (hB : w.heap[ba]? = some (.cells (bools a).toArray 4 (0, 0))) (hn : a.length = n) (hi : i < n) :
    Calls Tryd.prog 69 #[.int .i64 (i : Int), .bool x, .pointer (some ⟨ga, 0, none⟩)] w fun e w' => e = .returned (.bool (a.getD i false || x)) ∧ w' = w := by
  have k1 : w.cell? ⟨ga, 0, none⟩ = some (.slice (some ⟨ba, 0, none⟩) n n) := blk_cell hA 0
  have k2 := bools_cell hB i (by omega)
  have p1 : (0 ≤ (i : Int)) = True := eq_true (by omega)
  have p2 : decide ((i : Int) < (n : Int)) = true := decide_eq_true (by omega)
  have p3 : decide (i < n) = true := decide_eq_true hi
  have p4 : ((i : Int) < (n : Int)) = True := eq_true (by omega)
  obtain ⟨y, hy⟩ : ∃ y, y = a.getD i false := ⟨_, rfl⟩
  rw [← hy] at k2 ⊢
  clear hy hA hB hn
  cases y <;>
  · go_enter Tryd.func69, Tryd.ntmps69
    go_wp2
    go_ret
    exact ⟨by simp, rfl⟩
theorem clo2_calls (ga ba n i : Nat) (a : List Bool) (x : Bool) (w : World) (hA : w.heap[ga]? = some (.cells #[.slice (some ⟨ba, 0, none⟩) n n] 27 (0, 0))) (hB : w.heap[ba]? = some (.cells (bools a).toArray 4 (0, 0))) (hn : a.length = n) (hi : i < n) :
    Calls Tryd.prog 70 #[.int .i64 (i : Int), .bool x, .pointer (some ⟨ga, 0, none⟩)] w fun e w' => e = .returned (.bool (a.getD i false && x)) ∧ w' = w := by
  have k1 : w.cell? ⟨ga, 0, none⟩ = some (.slice (some ⟨ba, 0, none⟩) n n) := blk_cell hA 0
  have k2 := bools_cell hB i (by omega)
  have p1 : (0 ≤ (i : Int)) = True := eq_true (by omega)
  have p2 : decide ((i : Int) < (n : Int)) = true := decide_eq_true (by omega)
  have p3 : decide (i < n) = true := decide_eq_true hi
  have p4 : ((i : Int) < (n : Int)) = True := eq_true (by omega)
  obtain ⟨y, hy⟩ : ∃ y, y = a.getD i false := ⟨_, rfl⟩
  rw [← hy] at k2 ⊢
  clear hy hA hB hn
  cases y <;>
  · go_enter Tryd.func70, Tryd.ntmps70
    go_wp2
    go_ret
    exact ⟨by simp, rfl⟩
theorem clo3_calls (ga gb ba bb n i : Nat) (a b : List Bool) (x : Bool) (w : World) (hA : w.heap[ga]? = some (.cells #[.slice (some ⟨ba, 0, none⟩) n n] 27 (0, 0))) (hB : w.heap[ba]? = some (.cells (bools a).toArray 4 (0, 0))) (hA2 : w.heap[gb]? = some (.cells #[.slice (some ⟨bb, 0, none⟩) n n] 27 (0, 0))) (hB2 : w.heap[bb]? = some (.cells (bools b).toArray 4 (0, 0))) (hn : a.length = n) (hn2 : b.length = n) (hi : i < n) :
    Calls Tryd.prog 71 #[.int .i64 (i : Int), .bool x, .pointer (some ⟨gb, 0, none⟩), .pointer (some ⟨ga, 0, none⟩)] w fun e w' => e = .returned (.bool (b.getD i false || (a.getD i false && x))) ∧ w' = w := by
  have k1 : w.cell? ⟨ga, 0, none⟩ = some (.slice (some ⟨ba, 0, none⟩) n n) := blk_cell hA 0
  have k2 := bools_cell hB i (by omega)
  have k3 : w.cell? ⟨gb, 0, none⟩ = some (.slice (some ⟨bb, 0, none⟩) n n) := blk_cell hA2 0
  have k4 := bools_cell hB2 i (by omega)
  have p1 : (0 ≤ (i : Int)) = True := eq_true (by omega)
  have p2 : decide ((i : Int) < (n : Int)) = true := decide_eq_true (by omega)
  have p3 : decide (i < n) = true := decide_eq_true hi
  have p4 : ((i : Int) < (n : Int)) = True := eq_true (by omega)
  obtain ⟨y, hy⟩ : ∃ y, y = a.getD i false := ⟨_, rfl⟩
  obtain ⟨z, hz⟩ : ∃ z, z = b.getD i false := ⟨_, rfl⟩
  rw [← hy] at k2
  rw [← hz] at k4
  rw [← hy, ← hz]
  clear hy hz hA hB hn hA2 hB2 hn2
  cases y <;> cases z <;>
  · go_enter Tryd.func71, Tryd.ntmps71
    go_wp2
    go_ret
    exact ⟨by simp, rfl⟩
theorem clo4_calls (ga gb ba bb n i : Nat) (a b : List Bool) (x : Bool) (w : World) (hA : w.heap[ga]? = some (.cells #[.slice (some ⟨ba, 0, none⟩) n n] 27 (0, 0))) (hB : w.heap[ba]? = some (.cells (bools a).toArray 4 (0, 0))) (hA2 : w.heap[gb]? = some (.cells #[.slice (some ⟨bb, 0, none⟩) n n] 27 (0, 0))) (hB2 : w.heap[bb]? = some (.cells (bools b).toArray 4 (0, 0))) (hn : a.length = n) (hn2 : b.length = n) (hi : i < n) :
    Calls Tryd.prog 72 #[.int .i64 (i : Int), .bool x, .pointer (some ⟨gb, 0, none⟩), .pointer (some ⟨ga, 0, none⟩)] w fun e w' => e = .returned (.bool (b.getD i false && (a.getD i false || x))) ∧ w' = w := by
  have k1 : w.cell? ⟨ga, 0, none⟩ = some (.slice (some ⟨ba, 0, none⟩) n n) := blk_cell hA 0
  have k2 := bools_cell hB i (by omega)
  have k3 : w.cell? ⟨gb, 0, none⟩ = some (.slice (some ⟨bb, 0, none⟩) n n) := blk_cell hA2 0
  have k4 := bools_cell hB2 i (by omega)
  have p1 : (0 ≤ (i : Int)) = True := eq_true (by omega)
  have p2 : decide ((i : Int) < (n : Int)) = true := decide_eq_true (by omega)
  have p3 : decide (i < n) = true := decide_eq_true hi
  have p4 : ((i : Int) < (n : Int)) = True := eq_true (by omega)
  obtain ⟨y, hy⟩ : ∃ y, y = a.getD i false := ⟨_, rfl⟩
  obtain ⟨z, hz⟩ : ∃ z, z = b.getD i false := ⟨_, rfl⟩
  rw [← hy] at k2
  rw [← hz] at k4
  rw [← hy, ← hz]
  clear hy hz hA hB hn hA2 hB2 hn2
  cases y <;> cases z <;>
  · go_enter Tryd.func72, Tryd.ntmps72
    go_wp2
    go_ret
    exact ⟨by simp, rfl⟩
theorem enter1 (args : Array Value) (w : World) : (callFunc 69 args).run Tryd.prog w = .ok (.enter 69 args) w := by kernel_rfl
theorem enter2 (args : Array Value) (w : World) : (callFunc 70 args).run Tryd.prog w = .ok (.enter 70 args) w := by kernel_rfl
theorem enter3 (args : Array Value) (w : World) : (callFunc 71 args).run Tryd.prog w = .ok (.enter 71 args) w := by kernel_rfl
theorem enter4 (args : Array Value) (w : World) : (callFunc 72 args).run Tryd.prog w = .ok (.enter 72 args) w := by kernel_rfl
structure TabS (gt gL gr cL c n : Nat) (A0 : Option Addr) (c0 : Nat) (gE cE : Nat) (l : List S65) (L : List (List Bool)) (w1 : World) : Prop where
  t : w1.heap[gt]? = some (.cells #[.slice A0 l.length c0, .slice (some ⟨gE, 0, none⟩) l.length cE, .slice (some ⟨gL, 0, none⟩) n cL, .int .i64 ((n - c : Nat) : Int), .slice (some ⟨gr, 0, none⟩) l.length l.length] 59 (0, 0))
  ops : ∀ W, w1.grownBy W (some gr) → Kd.C k65 W A0 l.length l ∧ LaidG W
  ends : ∀ W, w1.grownBy W (some gr) → ∀ i, i < l.length → W.cell? ⟨gE, i, none⟩ = some (.int .i64 (endAt l i))
  lets : ∀ W, w1.grownBy W (some gr) → ∀ j, j < n → ∃ Aj cj, W.cell? ⟨gL, j, none⟩ = some (.slice Aj (L.getD j []).length cj) ∧ Kd.C Kd.bool W Aj (L.getD j []).length (L.getD j [])
  r1 : ∃ cs, w1.heap[gr]? = some (.cells cs 27 (0, 0))
  ln : L.length = n
  hc : 0 < c ∧ c ≤ n ∧ n ≤ 24
  hl : l.length ≤ 60
structure TabD (gt gr n : Nat) (l : List S65) (RW : List (List Bool)) (w1 : World) (at_ : Nat) (vs : List Value) (w : World) : Prop where
  gb : w1.grownBy w (some gr)
  r : w.heap[gr]? = some (.cells vs.toArray 27 (0, 0))
  vl : vs.length = l.length
  rows : ∀ k, at_ ≤ k → k < l.length → ∃ g, vs[k]? = some (.slice (some ⟨g, 0, none⟩) n n) ∧ w.heap[g]? = some (.cells (bools (RW.getD k [])).toArray 4 (0, 0)) ∧ (RW.getD k []).length = n ∧ w1.heap.size ≤ g
theorem kinds_ok {o : S65} (h : o.f0 = 13 ∨ o.f0 = 11 ∨ o.f0 = 12 ∨ o.f0 = 10 ∨ o.f0 = 8 ∨ o.f0 = 9 ∨ (14 ≤ o.f0 ∧ o.f0 ≤ 18)) : polish_Parts.f o.f0 = some (if o.f0 = 8 ∨ o.f0 = 9 ∨ o.f0 = 15 ∨ o.f0 = 16 then 2 else if o.f0 = 10 ∨ o.f0 = 14 ∨ o.f0 = 17 ∨ o.f0 = 18 then 1 else 0, 0) := by
  have : o.f0 = 8 ∨ o.f0 = 9 ∨ o.f0 = 10 ∨ o.f0 = 11 ∨ o.f0 = 12 ∨ o.f0 = 13 ∨ o.f0 = 14 ∨ o.f0 = 15 ∨ o.f0 = 16 ∨ o.f0 = 17 ∨ o.f0 = 18 := by omega
  rcases this with e | e | e | e | e | e | e | e | e | e | e <;> (rw [e]; decide)
theorem grownBy_far {w w' : World} {row : Option Nat} (h : w.grownBy w' row) {p : Addr} (hp : w.heap.size ≤ p.block) (u : Value) : w.grownBy (w'.setCell p u) row :=
  ⟨h.os, h.tape, h.output, by simp [h.size], fun i hi hne => by
    rw [Below.heap_setCell w' p u i (by omega)]
    exact h.block i hi hne⟩
theorem grownBy_join {w w1 w2 : World} {row : Option Nat} {g : Nat} (h : w.grownBy w1 row) (k : w1.grownBy w2 (some g)) (hg : w.heap.size ≤ g) : w.grownBy w2 row :=
  ⟨k.os.trans h.os, k.tape.trans h.tape, k.output.trans h.output, Nat.le_trans h.size k.size, fun i hi hne => (k.block i (Nat.lt_of_lt_of_le hi h.size) (fun e => by have := Option.some.inj e; omega)).trans (h.block i hi hne)⟩
structure FillD (gr g ga gb n : Nat) (l : List S65) (RW : List (List Bool)) (w1 : World) (at_ : Nat) (vs : List Value) (va vb : Value) (r : List Bool) (w : World) : Prop where
  gro : w1.grownBy w (some gr)
  rws : w.heap[gr]? = some (.cells (vs.set at_ (.slice (some ⟨g, 0, none⟩) n n)).toArray 27 (0, 0))
  vl : vs.length = l.length
  row : w.heap[g]? = some (.cells (bools r).toArray 4 (0, 0))
  len : r.length = n
  a : w.heap[ga]? = some (.cells #[va] 27 (0, 0))
  b : w.heap[gb]? = some (.cells #[vb] 27 (0, 0))
  ne : ga ≠ gb ∧ ga ≠ gr ∧ gb ≠ gr
  ge : w1.heap.size ≤ g ∧ w1.heap.size ≤ ga ∧ w1.heap.size ≤ gb
  rows : ∀ k, at_ + 1 ≤ k → k < l.length → ∃ g', vs[k]? = some (.slice (some ⟨g', 0, none⟩) n n) ∧ w.heap[g']? = some (.cells (bools (RW.getD k [])).toArray 4 (0, 0)) ∧ (RW.getD k []).length = n ∧ (g' ≠ g ∧ w1.heap.size ≤ g')
section
variable {gr g ga gb n : Nat} {l : List S65} {RW : List (List Bool)} {w1 : World} {at_ : Nat} {vs : List Value} {va vb : Value} {r : List Bool} {w : World} (h : FillD gr g ga gb n l RW w1 at_ vs va vb r w)
include h
theorem FillD.drew : FillD gr g ga gb n l RW w1 at_ vs va vb r w.drew := ⟨grownBy_drewN h.gro 1, h.rws, h.vl, h.row, h.len, h.a, h.b, h.ne, h.ge, h.rows⟩
theorem FillD.drewN (k : Nat) : FillD gr g ga gb n l RW w1 at_ vs va vb r (w.drewN k) := ⟨grownBy_drewN h.gro k, h.rws, h.vl, h.row, h.len, h.a, h.b, h.ne, h.ge, h.rows⟩
theorem FillD.alloc (o : Obj) : FillD gr g ga gb n l RW w1 at_ vs va vb r (w.alloc o) :=
  ⟨below_grown h.gro o, blk_alloc h.rws o, h.vl, blk_alloc h.row o, h.len, blk_alloc h.a o, blk_alloc h.b o, h.ne, h.ge, fun k h1 h2 => by
    obtain ⟨g', e1, e2, e3, e4⟩ := h.rows k h1 h2
    exact ⟨g', e1, blk_alloc e2 o, e3, e4⟩⟩
theorem FillD.setA (u : Value) : FillD gr g ga gb n l RW w1 at_ vs u vb r (w.setCell ⟨ga, 0, none⟩ u) :=
  ⟨grownBy_far h.gro (p := ⟨ga, 0, none⟩) h.ge.2.1 u, blk_far h.rws h.ne.2.1.symm u, h.vl, blk_far h.row (blk_ne h.row h.a (by decide)) u, h.len, by rw [blk_set h.a]; rfl, blk_far h.b h.ne.1.symm u, h.ne, h.ge, fun k h1 h2 => by
    obtain ⟨g', e1, e2, e3, e4⟩ := h.rows k h1 h2
    exact ⟨g', e1, blk_far e2 (blk_ne e2 h.a (by decide)) u, e3, e4⟩⟩
theorem FillD.setB (u : Value) : FillD gr g ga gb n l RW w1 at_ vs va u r (w.setCell ⟨gb, 0, none⟩ u) :=
  ⟨grownBy_far h.gro (p := ⟨gb, 0, none⟩) h.ge.2.2 u, blk_far h.rws h.ne.2.2.symm u, h.vl, blk_far h.row (blk_ne h.row h.b (by decide)) u, h.len, blk_far h.a h.ne.1 u, by rw [blk_set h.b]; rfl, h.ne, h.ge, fun k h1 h2 => by
    obtain ⟨g', e1, e2, e3, e4⟩ := h.rows k h1 h2
    exact ⟨g', e1, blk_far e2 (blk_ne e2 h.b (by decide)) u, e3, e4⟩⟩
theorem FillD.setRow (i : Nat) (v : Bool) : FillD gr g ga gb n l RW w1 at_ vs va vb (r.set i v) (w.setCell ⟨g, i, none⟩ (.bool v)) :=
  ⟨grownBy_far h.gro (p := ⟨g, i, none⟩) h.ge.1 _, blk_far h.rws (blk_ne h.rws h.row (by decide)) _, h.vl, by rw [blk_set h.row, bools_put], by rw [List.length_set]; exact h.len, blk_far h.a (blk_ne h.a h.row (by decide)) _, blk_far h.b (blk_ne h.b h.row (by decide)) _, h.ne, h.ge, fun k h1 h2 => by
    obtain ⟨g', e1, e2, e3, e4⟩ := h.rows k h1 h2
    exact ⟨g', e1, blk_far e2 e4.1 _, e3, e4⟩⟩
theorem FillD.settled {R : List Bool} {w' : World} (k : SetOK g n w R w') : FillD gr g ga gb n l RW w1 at_ vs va vb R w' :=
  ⟨grownBy_join h.gro k.gb h.ge.1, blk_grown h.rws k.gb (fun e => blk_ne h.row h.rws (by decide) (Option.some.inj e).symm), h.vl, k.row, k.len, blk_grown h.a k.gb (fun e => blk_ne h.row h.a (by decide) (Option.some.inj e).symm), blk_grown h.b k.gb (fun e => blk_ne h.row h.b (by decide) (Option.some.inj e).symm), h.ne, h.ge, fun j h1 h2 => by
    obtain ⟨g', e1, e2, e3, e4⟩ := h.rows j h1 h2
    exact ⟨g', e1, blk_grown e2 k.gb (fun e => e4.1 (Option.some.inj e)), e3, e4⟩⟩
theorem FillD.done (gt : Nat) (hr : r = RW.getD at_ []) (hat : at_ < l.length) : ∃ vs', TabD gt gr n l RW w1 at_ vs' w := by
  refine ⟨_, h.gro, h.rws, by rw [List.length_set]; exact h.vl, fun k h1 h2 => ?_⟩
  by_cases e : k = at_
  · subst e
    refine ⟨g, ?_, ?_, ?_, h.ge.1⟩
    · rw [List.getElem?_set_self (by rw [h.vl]; exact hat)]
    · rw [← hr]; exact h.row
    · rw [← hr]; exact h.len
  · obtain ⟨g', e1, e2, e3, e4⟩ := h.rows k (by omega) h2
    exact ⟨g', by rw [List.getElem?_set_ne (by omega)]; exact e1, e2, e3, e4.2⟩
end
def RowAt (g n : Nat) (v : Value) (A : List Bool) (w : World) : Prop := ∃ g1, v = .slice (some ⟨g1, 0, none⟩) n n ∧ w.heap[g1]? = some (.cells (bools A).toArray 4 (0, 0)) ∧ A.length = n ∧ g1 ≠ g
theorem RowAt.set {g n : Nat} {v : Value} {A : List Bool} {w : World} (h : RowAt g n v A w) (i : Nat) (u : Value) : RowAt g n v A (w.setCell ⟨g, i, none⟩ u) := by
  obtain ⟨g1, e1, e2, e3, e4⟩ := h
  exact ⟨g1, e1, blk_far e2 e4 _, e3, e4⟩
theorem RowAt.drew {g n : Nat} {v : Value} {A : List Bool} {w : World} (h : RowAt g n v A w) : RowAt g n v A w.drew := h
theorem row_next {n c : Nat} {L : List (List Bool)} {o : S65} {A B r : List Bool} {t : Nat} (hl : r.length = n) (ht : t < n) (h1 : ∀ j, j < t → r.getD j false = Pure.oneS n c L o A B j) (h2 : ∀ j, t ≤ j → r.getD j false = false) (x : Bool) (hx : x = Pure.oneS n c L o A B t) :
    (∀ j, j < t + 1 → (r.set t x).getD j false = Pure.oneS n c L o A B j) ∧ (∀ j, t + 1 ≤ j → (r.set t x).getD j false = false) := by
  refine ⟨fun j hj => ?_, fun j hj => ?_⟩
  · rw [Pure.getD_set _ _ _ _ (by omega)]
    by_cases e : j = t
    · rw [if_pos e, hx, e]
    · rw [if_neg e]; exact h1 j (by omega)
  · rw [Pure.getD_set _ _ _ _ (by omega), if_neg (by omega)]
    exact h2 j (by omega)
set_option maxRecDepth 100000 in
set_option maxHeartbeats 4000000 in
theorem fill_calls (gt gL gr cL c n : Nat) (A0 : Option Addr) (c0 gE cE : Nat) (l : List S65) (L : List (List Bool)) (w1 w : World) (at_ : Nat) (vs : List Value) (pn : Nat)
    (hS : TabS gt gL gr cL c n A0 c0 gE cE l L w1) (hD : TabD gt gr n l (Pure.rowsS n c L l) w1 (at_ + 1) vs w) (hat : at_ < l.length) (hone : one l) (hfit : Pure.fit pn l[at_] = 0) (hpn : ∀ x ∈ L, x.length = pn) :
    Calls Tryd.prog 45 #[.pointer (some ⟨gt, 0, none⟩), .int .i64 (at_ : Int)] w fun e w' => e = .returned (.tuple #[]) ∧ ∃ vs', TabD gt gr n l (Pure.rowsS n c L l) w1 at_ vs' w' := by
  have hkind := Pure.kind_of hone at_ hat hfit
  have hrow := Pure.rowsS_at n c L l at_ hat
  obtain ⟨o, ho⟩ : ∃ o, o = l[at_] := ⟨_, rfl⟩
  have hg : rd_T65 l at_ = o := by rw [ho]; exact Base.getD_get _ _ _ hat
  obtain ⟨cs1, hr1⟩ := hS.r1
  have hne : gt ≠ gr := blk_ne hS.t hr1 (by decide)
  have HS := Aside0.mk hS
  have HD := Aside0.mk hD
  have hn := hS.hc.2.2
  have HAT := Aside0.mk hat
  have hl := hS.hl
  have ht := blk_grown hS.t hD.gb (fun e => hne (Option.some.inj e))
  have k2 : w.cell? ⟨gt, 2, none⟩ = some (.slice (some ⟨gL, 0, none⟩) n cL) := blk_cell ht 2
  have hmk := print_make_of (P := Tryd.prog) 27 4 (.bool false) 1 Tryd.underlying27 info4 rfl (by omega) n (by omega)
  rw [made_bools] at hmk
  rw [← ho] at hkind hrow
  have HFS := Aside0.mk (show (o.f0 = 8 ∨ o.f0 = 9 ∨ o.f0 = 10 ∨ (14 ≤ o.f0 ∧ o.f0 ≤ 18)) → at_ + 1 < l.length from by
    intro h
    have p1 : Pure.ahd o.f0 = true → at_ + 1 < l.length := fun _ => by
      have : o.f0 = 14 ∨ o.f0 = 15 ∨ o.f0 = 16 ∨ o.f0 = 17 ∨ o.f0 = 18 ∨ True := .inr (.inr (.inr (.inr (.inr trivial))))
      by_cases e : o.f0 = 15 ∨ o.f0 = 16
      · exact (Pure.second_at hone at_ hat (by rw [← ho]; unfold arIs; rcases e with e | e <;> (rw [e]; decide))).1
      · by_cases e2 : o.f0 = 14 ∨ o.f0 = 17 ∨ o.f0 = 18
        · exact Pure.first_at hone at_ hat 0 (by rw [← ho]; unfold arIs; rcases e2 with e | e | e <;> (rw [e]; decide))
        · have : 14 ≤ o.f0 ∧ o.f0 ≤ 18 := of_decide_eq_true ‹Pure.ahd o.f0 = true›
          omega
    rcases h with e | e | e | e
    · exact (Pure.second_at hone at_ hat (by rw [← ho]; unfold arIs; rw [e]; decide)).1
    · exact (Pure.second_at hone at_ hat (by rw [← ho]; unfold arIs; rw [e]; decide)).1
    · exact Pure.first_at hone at_ hat 0 (by rw [← ho]; unfold arIs; rw [e]; decide)
    · exact p1 (decide_eq_true e))
  have HSN := Aside0.mk (show (o.f0 = 8 ∨ o.f0 = 9 ∨ o.f0 = 15 ∨ o.f0 = 16) → at_ + 1 + (endAt (l.drop (at_ + 1)) 0).toNat < l.length ∧ endAt l (at_ + 1) = ((at_ + 1 + (endAt (l.drop (at_ + 1)) 0).toNat : Nat) : Int) from fun h => by
    obtain ⟨h1, h2, h3, h4⟩ := Pure.second_at hone at_ hat (by rw [← ho]; unfold arIs; rcases h with e | e | e | e <;> (rw [e]; decide))
    omega)
  have HK := Aside0.mk hkind
  have HK2 := Aside0.mk (show o.f0 = 13 ∨ o.f0 = 11 ∨ o.f0 = 12 ∨ o.f0 = 10 ∨ o.f0 = 8 ∨ o.f0 = 9 ∨ (14 ≤ o.f0 ∧ o.f0 ≤ 18) by rcases hkind with e | e | e | e | e | e | e <;> simp_all)
  have HRW := Aside0.mk hrow
  have HO := Aside0.mk ho
  have HG := Aside0.mk hg
  have HNE := Aside0.mk hne
  have HPN := Aside0.mk hpn
  have HT := Aside0.mk ht
  clear hkind hrow ho hg hne hpn hS hD hone hfit ht
  go_enter Tryd.func45, Tryd.ntmps45
  go_upto_region 1 with fail
  clear k2 hmk
  obtain ⟨g, hgq⟩ : ∃ g, g = w.heap.size := ⟨_, rfl⟩
  obtain ⟨w2, hw2⟩ : ∃ w2, w2 = w.alloc (Obj.cells (bools (List.replicate n false)).toArray 4) := ⟨_, rfl⟩
  rw [← hgq, ← hw2]
  have hr2 : w2.heap[gr]? = some (.cells vs.toArray 27 (0, 0)) := by rw [hw2]; exact blk_alloc HD.out.r _
  have ht2 : w2.heap[gt]? = some (.cells #[.slice A0 l.length c0, .slice (some ⟨gE, 0, none⟩) l.length cE, .slice (some ⟨gL, 0, none⟩) n cL, .int .i64 ((n - c : Nat) : Int), .slice (some ⟨gr, 0, none⟩) l.length l.length] 59 (0, 0)) := by rw [hw2]; exact blk_alloc HT.out _
  have hg2 : w2.heap[g]? = some (.cells (bools (List.replicate n false)).toArray 4 (0, 0)) := by rw [hw2, hgq]; exact heap_new _ _
  have hb2 : w1.grownBy w2 (some gr) := by rw [hw2]; exact below_grown HD.out.gb _
  have hs2 : w1.heap.size ≤ g := by rw [hgq]; exact HD.out.gb.size
  have hz2 : w2.heap.size = g + 1 := by rw [hw2, hgq]; exact size_alloc _ _
  have hrows2 : ∀ k, at_ + 1 ≤ k → k < l.length → ∃ g', vs[k]? = some (.slice (some ⟨g', 0, none⟩) n n) ∧ w2.heap[g']? = some (.cells (bools ((Pure.rowsS n c L l).getD k [])).toArray 4 (0, 0)) ∧ ((Pure.rowsS n c L l).getD k []).length = n ∧ (g' < g ∧ w1.heap.size ≤ g') := by
    intro k h1 h2
    obtain ⟨g', e1, e2, e3, e5⟩ := HD.out.rows k h1 h2
    exact ⟨g', e1, by rw [hw2]; exact blk_alloc e2 _, e3, by rw [hgq]; exact blk_lt e2, e5⟩
  have k4 : w2.cell? ⟨gt, 4, none⟩ = some (.slice (some ⟨gr, 0, none⟩) l.length l.length) := blk_cell ht2 4
  have z4 : w2.frozen? ⟨gr, at_, none⟩ = false := blk_frozen hr2 _
  have c4 : w2.cell? ⟨gr, at_, none⟩ = some (vs[at_]'(by rw [HD.out.vl]; exact HAT.out)) := by rw [blk_cell hr2]; simp [HD.out.vl, HAT.out]
  have p1 : (0 ≤ (at_ : Int)) = True := eq_true (by omega)
  have p2 : decide ((at_ : Int) < (l.length : Int)) = true := decide_eq_true (by omega)
  have p3 : decide (at_ < l.length) = true := decide_eq_true hat
  have p4 : ((at_ : Int) < (l.length : Int)) = True := eq_true (by omega)
  have HF := Aside0.mk (show FillD gr g (g + 1) (g + 1 + 1) n l (Pure.rowsS n c L l) w1 at_ vs (.slice none 0 0) (.slice none 0 0) (List.replicate n false) (((w2.setCell ⟨gr, at_, none⟩ (.slice (some ⟨g, 0, none⟩) n n)).alloc (Obj.cells #[.slice none 0 0] 27)).alloc (Obj.cells #[.slice none 0 0] 27)) from by
    have hgr : gr < w1.heap.size := blk_lt hr1
    have hz3 : (w2.setCell ⟨gr, at_, none⟩ (.slice (some ⟨g, 0, none⟩) n n)).heap.size = g + 1 := by rw [← hz2]; simp
    have hA := blk_new (w2.setCell ⟨gr, at_, none⟩ (.slice (some ⟨g, 0, none⟩) n n)) (Obj.cells #[.slice none 0 0] 27)
    have hB := blk_new ((w2.setCell ⟨gr, at_, none⟩ (.slice (some ⟨g, 0, none⟩) n n)).alloc (Obj.cells #[.slice none 0 0] 27)) (Obj.cells #[.slice none 0 0] 27)
    rw [size_alloc, hz3] at hB
    rw [hz3] at hA
    refine ⟨below_grown (below_grown (grownBy_set hb2 _ _) _) _, blk_alloc (blk_alloc (by rw [blk_set hr2]; simp) _) _, HD.out.vl, blk_alloc (blk_alloc (blk_far hg2 (blk_ne hg2 hr2 (by decide)) _) _) _, by simp, blk_alloc hA _, hB, ⟨by omega, by omega, by omega⟩, ⟨hs2, by omega, by omega⟩, fun k h1 h2 => ?_⟩
    obtain ⟨g', e1, e2, e3, e4⟩ := hrows2 k h1 h2
    exact ⟨g', e1, blk_alloc (blk_alloc (blk_far e2 (blk_ne e2 hr2 (by decide)) _) _) _, e3, by omega, e4.2⟩)
  have hz3 : (w2.setCell ⟨gr, at_, none⟩ (.slice (some ⟨g, 0, none⟩) n n)).heap.size = g + 1 := by rw [← hz2]; simp
  clear hr2 ht2 hg2 hb2 hs2 hrows2 hw2 hgq hz2 hr1
  go_upto_region 2 with fail
  clear k4 z4 c4
  go_upto_region 3 with fail
  clear hz3
  obtain ⟨w3, hw3⟩ : ∃ w3, w3 = (((w2.setCell ⟨gr, at_, none⟩ (.slice (some ⟨g, 0, none⟩) n n)).alloc (Obj.cells #[.slice none 0 0] 27)).alloc (Obj.cells #[.slice none 0 0] 27)) := ⟨_, rfl⟩
  obtain ⟨ga, hga⟩ : ∃ ga, ga = g + 1 := ⟨_, rfl⟩
  rw [← hga, ← hw3] at HF
  rw [← hga, ← hw3]
  obtain ⟨gb, hgb⟩ : ∃ gb, gb = ga + 1 := ⟨_, rfl⟩
  rw [← hgb] at HF
  rw [← hgb]
  clear hw3 hga hgb
  obtain ⟨hC, hL⟩ := HS.out.ops w3 HF.out.gro
  obtain ⟨ad, e1, h0, h1⟩ := at_T65 hC at_ (by omega) (by omega)
  subst e1
  rw [HG.out, Int.toNat_natCast] at h0 h1
  have ht3 := blk_grown HS.out.t HF.out.gro (fun e => HNE.out (Option.some.inj e))
  have k0 : w3.cell? ⟨gt, 0, none⟩ = some (.slice (some ad) l.length c0) := blk_cell ht3 0
  obtain ⟨np, hnp⟩ : ∃ np : Int, np = (if o.f0 = 8 ∨ o.f0 = 9 ∨ o.f0 = 15 ∨ o.f0 = 16 then 2 else if o.f0 = 10 ∨ o.f0 = 14 ∨ o.f0 = 17 ∨ o.f0 = 18 then 1 else 0) := ⟨_, rfl⟩
  have hpa := kinds_ok HK2.out
  rw [← hnp] at hpa
  have HPa := Aside0.mk hpa
  have HNP := Aside0.mk hnp
  have HLd := Aside0.mk hL
  clear hC ht3 hpa hnp hL
  go_upto_if 37 with (first | (go_at_call 67; refine (polish_Parts.calls o.f0 np 0 _ HLd.out HPa.out).mono ?_; rintro e w' ⟨rfl, ⟨nd, rfl⟩⟩))
  obtain ⟨s2, hs2⟩ : ∃ s2, s2 = at_ + 1 + (endAt (l.drop (at_ + 1)) 0).toNat := ⟨_, rfl⟩
  rw [← hs2] at HSN HRW
  have HS2 := Aside0.mk (show at_ + 1 ≤ s2 by omega)
  have HF4 := Aside0.mk (HF.out.drewN nd)
  obtain ⟨w4, hw4⟩ : ∃ w4, w4 = w3.drewN nd := ⟨_, rfl⟩
  rw [← hw4] at HF4 ⊢
  clear hw4 hs2 HF HLd HPa k0 h0 h1 HD HT
  go_cut [] (fun wc => ∃ va vb : Value, Aside0 (FillD gr g ga gb n l (Pure.rowsS n c L l) w1 at_ vs va vb (List.replicate n false) wc) ∧ Aside0 (1 ≤ np → vs[at_ + 1]? = some va) ∧ Aside0 (2 ≤ np → vs[s2]? = some vb))
  case first =>
    by_cases q : 0 < np
    case neg =>
      have q1 : decide (0 < np) = false := decide_eq_false q
      have HX := Aside0.mk (show ¬ 1 ≤ np by omega)
      clear q
      rw [q1]
      go_wp2
      go_meet
      case rel => exact ⟨_, _, HF4, ⟨fun h => absurd h (by have := HX.out; omega)⟩, ⟨fun h => absurd h (by have := HX.out; omega)⟩⟩
    have q1 : decide (0 < np) = true := decide_eq_true q
    have hf1 := HFS.out (by have := HNP.out; have := HK2.out; omega)
    obtain ⟨g1, e1, e2, e3, e4⟩ := HF4.out.rows (at_ + 1) (Nat.le_refl _) hf1
    have ht4 := blk_grown HS.out.t HF4.out.gro (fun e => HNE.out (Option.some.inj e))
    have k4 : w4.cell? ⟨gt, 4, none⟩ = some (.slice (some ⟨gr, 0, none⟩) l.length l.length) := blk_cell ht4 4
    have k5 : w4.cell? ⟨gr, at_ + 1, none⟩ = some (.slice (some ⟨g1, 0, none⟩) n n) := by
      rw [blk_cell HF4.out.rws]
      simp only [List.size_toArray, List.getElem?_toArray]
      rw [List.getElem?_set_ne (by omega)]
      exact e1
    have z5 : w4.frozen? ⟨ga, 0, none⟩ = false := blk_frozen HF4.out.a _
    have c5 : w4.cell? ⟨ga, 0, none⟩ = some (.slice none 0 0) := blk_cell HF4.out.a 0
    have i1 : IntKind.i64.wrap ((at_ : Int) + 1) = ((at_ + 1 : Nat) : Int) := by rw [IntKind.wrap_i64]; omega
    have r1 : (0 ≤ ((at_ + 1 : Nat) : Int)) = True := eq_true (by omega)
    have r2 : decide (((at_ + 1 : Nat) : Int) < (l.length : Int)) = true := decide_eq_true (by omega)
    have r3 : decide (at_ + 1 < l.length) = true := decide_eq_true hf1
    have r4 : (((at_ + 1 : Nat) : Int) < (l.length : Int)) = True := eq_true (by omega)
    have HF5 := Aside0.mk (HF4.out.setA (.slice (some ⟨g1, 0, none⟩) n n))
    have HV := Aside0.mk e1
    clear q e1 e2 e3 e4 ht4 HF4
    rw [q1]
    by_cases qq : 1 < np
    case neg =>
      have q2 : decide (1 < np) = false := decide_eq_false qq
      have HX := Aside0.mk (show ¬ 2 ≤ np by omega)
      clear qq
      go_wp2
      go_meet
      case rel => exact ⟨_, _, HF5, ⟨fun _ => HV.out⟩, ⟨fun h => absurd h (by have := HX.out; omega)⟩⟩
    have q2 : decide (1 < np) = true := decide_eq_true qq
    obtain ⟨hs2, hend⟩ := HSN.out (by have := HNP.out; have := HK2.out; omega)
    obtain ⟨g2, e1, e2, e3, e4⟩ := HF5.out.rows s2 HS2.out hs2
    go_upto_region 7 with fail
    clear q1 q2 k4 k5 z5 c5 qq
    obtain ⟨w5, hw5⟩ : ∃ w5, w5 = w4.setCell ⟨ga, 0, none⟩ (.slice (some ⟨g1, 0, none⟩) n n) := ⟨_, rfl⟩
    rw [← hw5] at HF5 ⊢
    clear hw5
    have ht5 := blk_grown HS.out.t HF5.out.gro (fun e => HNE.out (Option.some.inj e))
    have k4 : w5.cell? ⟨gt, 4, none⟩ = some (.slice (some ⟨gr, 0, none⟩) l.length l.length) := blk_cell ht5 4
    have k1 : w5.cell? ⟨gt, 1, none⟩ = some (.slice (some ⟨gE, 0, none⟩) l.length cE) := blk_cell ht5 1
    have k3 := HS.out.ends w5 HF5.out.gro (at_ + 1) hf1
    rw [hend] at k3
    have k5 : w5.cell? ⟨gr, s2, none⟩ = some (.slice (some ⟨g2, 0, none⟩) n n) := by
      rw [blk_cell HF5.out.rws]
      simp only [List.size_toArray, List.getElem?_toArray]
      rw [List.getElem?_set_ne (by have := HS2.out; omega)]
      exact e1
    have z5 : w5.frozen? ⟨gb, 0, none⟩ = false := blk_frozen HF5.out.b _
    have c5 : w5.cell? ⟨gb, 0, none⟩ = some (.slice none 0 0) := blk_cell HF5.out.b 0
    have r5 : (0 ≤ (s2 : Int)) = True := eq_true (by omega)
    have r6 : decide ((s2 : Int) < (l.length : Int)) = true := decide_eq_true (by omega)
    have r7 : decide (s2 < l.length) = true := decide_eq_true hs2
    have r8 : ((s2 : Int) < (l.length : Int)) = True := eq_true (by omega)
    have HF6 := Aside0.mk (HF5.out.setB (.slice (some ⟨g2, 0, none⟩) n n)).drew
    have HV2 := Aside0.mk e1
    clear e1 e2 e3 e4 ht5 hend HF5
    go_region
    go_wp2
    go_meet
    case rel => exact ⟨_, _, HF6, ⟨fun _ => HV.out⟩, ⟨fun _ => HV2.out⟩⟩
  case rest =>
    obtain ⟨va, vb, HF, HA, HB⟩ := hcut
    clear HF4
    obtain ⟨w5, hw5⟩ : ∃ w5, w5 = wc := ⟨_, rfl⟩
    rw [← hw5] at HF ⊢
    clear hw5
    obtain ⟨hC, hL⟩ := HS.out.ops w5 HF.out.gro
    obtain ⟨ad, e1, h0, h1⟩ := at_T65 hC at_ (by omega) (by omega)
    have e1 := Option.some.inj e1
    subst e1
    rw [HG.out, Int.toNat_natCast] at h0 h1
    have ht3 := blk_grown HS.out.t HF.out.gro (fun e => HNE.out (Option.some.inj e))
    have k0 : w5.cell? ⟨gt, 0, none⟩ = some (.slice (some ad) l.length c0) := blk_cell ht3 0
    clear hC hL ht3
    go_upto_region 9 with fail
    obtain ⟨go, hgo⟩ : ∃ go, go = w5.heap.size := ⟨_, rfl⟩
    obtain ⟨w6, hw6⟩ : ∃ w6, w6 = w5.alloc (Obj.cells #[Value.int IntKind.i64 o.f0, Value.int IntKind.i64 o.f1] 65) := ⟨_, rfl⟩
    rw [← hgo, ← hw6]
    have HF6 := Aside0.mk (show FillD gr g ga gb n l (Pure.rowsS n c L l) w1 at_ vs va vb (List.replicate n false) w6 by rw [hw6]; exact HF.out.alloc _)
    have hb6 : w6.heap[go]? = some (.cells #[Value.int IntKind.i64 o.f0, Value.int IntKind.i64 o.f1] 65 (0, 0)) := by rw [hw6, hgo]; exact heap_new _ _
    have k9 : w6.cell? ⟨go, 0, none⟩ = some (.int .i64 o.f0) := blk_cell hb6 0
    have HB6 := Aside0.mk hb6
    have ht6 := blk_grown HS.out.t HF6.out.gro (fun e => HNE.out (Option.some.inj e))
    have hvs : (vs.set at_ (.slice (some ⟨g, 0, none⟩) n n))[at_]? = some (.slice (some ⟨g, 0, none⟩) n n) := List.getElem?_set_self (by rw [HF6.out.vl]; exact hat)
    have hlr : (List.replicate n false).length = n := by simp
    have HSET := Aside0.mk (fun (K : Nat) (β : Bool) (law : Nat → Bool → Bool) (R : List Bool) (caps : Array Value) hK hLaw ok => settle_calls gt gr g at_ n (n - c) l.length cL K (some ⟨gL, 0, none⟩) (.slice (some ad) l.length c0) (.slice (some ⟨gE, 0, none⟩) l.length cE) _ β law R _ caps w6 hK hLaw ht6 HF6.out.rws hvs hat hl HF6.out.row hlr hn ok)
    have hmf : ∀ (fn : Fn) (first cap : Array Value) (w : World), (Instr.makeFunc fn first cap).run Tryd.prog w = .ok (.func fn first cap) w := fun _ _ _ _ => rfl
    clear hw6 hgo h0 h1 k0 hb6 ht6 hvs hlr HF
    obtain ⟨hc1, hc2, hc3⟩ := HS.out.hc
    have HC := Aside0.mk (And.intro hc1 hc2)
    clear hc1 hc2 hc3
    obtain ⟨A, hA⟩ : ∃ A, A = (Pure.rowsS n c L l).getD (at_ + 1) [] := ⟨_, rfl⟩
    obtain ⟨B, hB⟩ : ∃ B, B = (Pure.rowsS n c L l).getD s2 [] := ⟨_, rfl⟩
    rw [← hA, ← hB] at HRW
    have HRA := Aside0.mk (show 1 ≤ np → RowAt g n va A w6 from fun h => by
      obtain ⟨g1, e1, e2, e3, e4⟩ := HF6.out.rows (at_ + 1) (Nat.le_refl _) (HFS.out (by have := HNP.out; have := HK2.out; omega))
      exact ⟨g1, Option.some.inj ((HA.out h).symm.trans e1), by rw [hA]; exact e2, by rw [hA]; exact e3, e4.1⟩)
    have HRB := Aside0.mk (show 2 ≤ np → RowAt g n vb B w6 from fun h => by
      obtain ⟨g1, e1, e2, e3, e4⟩ := HF6.out.rows s2 HS2.out (HSN.out (by have := HNP.out; have := HK2.out; omega)).1
      exact ⟨g1, Option.some.inj ((HB.out h).symm.trans e1), by rw [hB]; exact e2, by rw [hB]; exact e3, e4.1⟩)
    clear hA hB HA HB HS2 HSN HFS
    by_cases e17 : o.f0 = 17
    · rw [e17] at k9
      obtain ⟨g1, rfl, b1, b2, b3⟩ := HRA.out (by have := HNP.out; omega)
      have HX := Aside0.mk (HSET.out 69 false _ _ #[.pointer (some ⟨ga, 0, none⟩)] enter1 (fun W hW i hi x => clo1_calls ga g1 n i A x W (blk_grown HF6.out.a hW (fun e => blk_ne HF6.out.row HF6.out.a (by decide) (Option.some.inj e).symm)) (blk_grown b1 hW (fun e => b3 (Option.some.inj e))) b2 hi) (Pure.law17 HC.out.1 HC.out.2 L o A B e17))
      have HR := Aside0.mk HRW.out.symm
      clear e17 b1 b2 b3 HSET
      go_wp2_with (go_at_call 68; refine HX.out.mono ?_; rintro e w7 ⟨rfl, hs⟩; have HF7 := Aside0.mk (HF6.out.settled hs); clear hs)
      go_end0
      exact ⟨rfl, HF7.out.done gt HR.out hat⟩
    by_cases e18 : o.f0 = 18
    · rw [e18] at k9
      obtain ⟨g1, rfl, b1, b2, b3⟩ := HRA.out (by have := HNP.out; omega)
      have HX := Aside0.mk (HSET.out 70 true _ _ #[.pointer (some ⟨ga, 0, none⟩)] enter2 (fun W hW i hi x => clo2_calls ga g1 n i A x W (blk_grown HF6.out.a hW (fun e => blk_ne HF6.out.row HF6.out.a (by decide) (Option.some.inj e).symm)) (blk_grown b1 hW (fun e => b3 (Option.some.inj e))) b2 hi) (Pure.law18 HC.out.1 HC.out.2 L o A B e18))
      have HR := Aside0.mk HRW.out.symm
      clear e18 b1 b2 b3 HSET
      go_wp2_with (go_at_call 68; refine HX.out.mono ?_; rintro e w7 ⟨rfl, hs⟩; have HF7 := Aside0.mk (HF6.out.settled hs); clear hs)
      go_end0
      exact ⟨rfl, HF7.out.done gt HR.out hat⟩
    by_cases e15 : o.f0 = 15
    · rw [e15] at k9
      obtain ⟨g1, rfl, b1, b2, b3⟩ := HRA.out (by have := HNP.out; omega)
      obtain ⟨g2, rfl, d1, d2, d3⟩ := HRB.out (by have := HNP.out; omega)
      have HX := Aside0.mk (HSET.out 71 false _ _ #[.pointer (some ⟨gb, 0, none⟩), .pointer (some ⟨ga, 0, none⟩)] enter3 (fun W hW i hi x => clo3_calls ga gb g1 g2 n i A B x W (blk_grown HF6.out.a hW (fun e => blk_ne HF6.out.row HF6.out.a (by decide) (Option.some.inj e).symm)) (blk_grown b1 hW (fun e => b3 (Option.some.inj e))) (blk_grown HF6.out.b hW (fun e => blk_ne HF6.out.row HF6.out.b (by decide) (Option.some.inj e).symm)) (blk_grown d1 hW (fun e => d3 (Option.some.inj e))) b2 d2 hi) (Pure.law15 HC.out.1 HC.out.2 L o A B e15))
      have HR := Aside0.mk HRW.out.symm
      clear e15 b1 b2 b3 d1 d2 d3 HSET
      go_wp2_with (go_at_call 68; refine HX.out.mono ?_; rintro e w7 ⟨rfl, hs⟩; have HF7 := Aside0.mk (HF6.out.settled hs); clear hs)
      go_end0
      exact ⟨rfl, HF7.out.done gt HR.out hat⟩
    by_cases e16 : o.f0 = 16
    · rw [e16] at k9
      obtain ⟨g1, rfl, b1, b2, b3⟩ := HRA.out (by have := HNP.out; omega)
      obtain ⟨g2, rfl, d1, d2, d3⟩ := HRB.out (by have := HNP.out; omega)
      have HX := Aside0.mk (HSET.out 72 true _ _ #[.pointer (some ⟨gb, 0, none⟩), .pointer (some ⟨ga, 0, none⟩)] enter4 (fun W hW i hi x => clo4_calls ga gb g1 g2 n i A B x W (blk_grown HF6.out.a hW (fun e => blk_ne HF6.out.row HF6.out.a (by decide) (Option.some.inj e).symm)) (blk_grown b1 hW (fun e => b3 (Option.some.inj e))) (blk_grown HF6.out.b hW (fun e => blk_ne HF6.out.row HF6.out.b (by decide) (Option.some.inj e).symm)) (blk_grown d1 hW (fun e => d3 (Option.some.inj e))) b2 d2 hi) (Pure.law16 HC.out.1 HC.out.2 L o A B e16))
      have HR := Aside0.mk HRW.out.symm
      clear e16 b1 b2 b3 d1 d2 d3 HSET
      go_wp2_with (go_at_call 68; refine HX.out.mono ?_; rintro e w7 ⟨rfl, hs⟩; have HF7 := Aside0.mk (HF6.out.settled hs); clear hs)
      go_end0
      exact ⟨rfl, HF7.out.done gt HR.out hat⟩
    have hk5 : o.f0 ≠ 17 ∧ o.f0 ≠ 18 ∧ o.f0 ≠ 15 ∧ o.f0 ≠ 16 := ⟨e17, e18, e15, e16⟩
    have t17 : (o.f0 == 17) = false := beq_eq_false_iff_ne.2 e17
    have t18 : (o.f0 == 18) = false := beq_eq_false_iff_ne.2 e18
    have t15 : (o.f0 == 15) = false := beq_eq_false_iff_ne.2 e15
    have t16 : (o.f0 == 16) = false := beq_eq_false_iff_ne.2 e16
    have HR := Aside0.mk (show (Pure.rowsS n c L l).getD at_ [] = (List.range n).map (Pure.oneS n c L o A B) by
      rw [HRW.out]
      unfold Pure.rowS
      rw [if_neg e17, if_neg e18, if_neg e15, if_neg e16])
    clear e17 e18 e15 e16 HSET HRW
    go_wp2_with fail
    clear k9 t17 t18 t15 t16
    go_loopg [73] (n + 1) (fun kq v73 w' => ∃ (t : Nat) (r : List Bool), v73 = .int .i64 (t : Int) ∧ Aside0 (kq + t = n + 1 ∧ t ≤ n) ∧ Aside0 (FillD gr g ga gb n l (Pure.rowsS n c L l) w1 at_ vs va vb r w') ∧ Aside0 (∀ j, j < t → r.getD j false = Pure.oneS n c L o A B j) ∧ Aside0 (∀ j, t ≤ j → r.getD j false = false) ∧ Aside0 (w'.heap[go]? = some (.cells #[Value.int IntKind.i64 o.f0, Value.int IntKind.i64 o.f1] 65 (0, 0))) ∧ Aside0 (1 ≤ np → RowAt g n va A w') ∧ Aside0 (2 ≤ np → RowAt g n vb B w'))
    case atStart => exact ⟨0, _, rfl, ⟨by omega⟩, HF6, ⟨fun j hj => by omega⟩, ⟨fun j _ => by simp [List.getD_eq_getElem?_getD, List.getElem?_replicate]; split <;> rfl⟩, HB6, HRA, HRB⟩
    case round =>
      clear HF6 HB6 HRA HRB
      obtain ⟨t, r, rfl, HI, HF, H1, H2, HB6, HRA, HRB⟩ := hrel
      cases gk with
      | zero => exact absurd HI.out (by omega)
      | succ k1 =>
      by_cases ht : t < n
      case neg =>
        have hd : decide ((t : Int) < (n : Int)) = false := decide_eq_false (by omega)
        have hd2 : decide (t < n) = false := decide_eq_false ht
        have HE := Aside0.mk (show r = (Pure.rowsS n c L l).getD at_ [] by
          rw [HR.out]
          refine List.ext_getElem (by rw [HF.out.len]; simp) fun j h1 h2 => ?_
          have hj : j < n := by rw [← HF.out.len]; exact h1
          have := H1.out j (by omega)
          simp only [List.getElem_map, List.getElem_range]
          rw [← this]
          simp [h1])
        clear ht HI H1 H2
        go_wp2_with fail
        go_end0
        exact ⟨rfl, HF.out.done gt HE.out hat⟩
      have hd : decide ((t : Int) < (n : Int)) = true := decide_eq_true (by omega)
      have hd2 : decide (t < n) = true := decide_eq_true ht
      have hq : ((t : Int) < (n : Int)) = True := eq_true (by omega)
      have hp : (0 ≤ (t : Int)) = True := eq_true (by omega)
      have e1 : IntKind.i64.wrap ((t : Int) + 1) = ((t + 1 : Nat) : Int) := by rw [IntKind.wrap_i64]; omega
      have z1 : wr.frozen? ⟨g, t, none⟩ = false := blk_frozen HF.out.row _
      have kc := bools_cell HF.out.row t (by rw [HF.out.len]; exact ht)
      have k9 : wr.cell? ⟨go, 0, none⟩ = some (.int .i64 o.f0) := blk_cell HB6.out 0
      have k10 : wr.cell? ⟨go, 1, none⟩ = some (.int .i64 o.f1) := blk_cell HB6.out 1
      have HI2 := Aside0.mk (show k1 + (t + 1) = n + 1 ∧ t + 1 ≤ n by have := HI.out; omega)
      have HBn := Aside0.mk (show go ≠ g from blk_ne HB6.out HF.out.row (by decide))
      have HN := Aside0.mk (fun (x : Bool) hx => row_next HF.out.len ht H1.out H2.out x hx)
      have HT := Aside0.mk ht
      obtain ⟨y, hy⟩ : ∃ y, y = r.getD t false := ⟨_, rfl⟩
      rw [← hy] at kc
      have HY := Aside0.mk hy
      clear hy HI ht
      by_cases e11 : o.f0 = 11
      · rw [e11] at k9
        obtain ⟨h3, h4⟩ := HN.out true (by unfold Pure.oneS; rw [if_neg (by omega), if_pos e11])
        have HH := Aside0.mk (And.intro h3 h4)
        clear h3 h4 e11
        go_wp2
        go_roundg k1
        case measure => have := HI2.out; omega
        case rel => exact ⟨t + 1, _, rfl, HI2, ⟨HF.out.setRow t true⟩, ⟨HH.out.1⟩, ⟨HH.out.2⟩, ⟨blk_far HB6.out HBn.out _⟩, ⟨fun h => (HRA.out h).set _ _⟩, ⟨fun h => (HRB.out h).set _ _⟩⟩
      by_cases e12 : o.f0 = 12
      · rw [e12] at k9
        have HH := Aside0.mk (show ∀ j, j < t + 1 → r.getD j false = Pure.oneS n c L o A B j from fun j hj => by
          by_cases e : j = t
          · subst e
            rw [H2.out j (Nat.le_refl _)]
            unfold Pure.oneS
            rw [if_neg (by omega), if_neg (by omega), if_neg (by omega), if_neg (by omega), if_neg (by omega), if_neg (by omega)]
          · exact H1.out j (by omega))
        clear e12
        go_wp2
        go_roundg k1
        case measure => have := HI2.out; omega
        case rel => exact ⟨t + 1, _, rfl, HI2, HF, HH, ⟨fun j hj => H2.out j (by omega)⟩, HB6, HRA, HRB⟩
      by_cases e10 : o.f0 = 10
      · rw [e10] at k9
        obtain ⟨g1, ev, b1, b2, b3⟩ := HRA.out (by have := HNP.out; omega)
        have ka : wr.cell? ⟨ga, 0, none⟩ = some (.slice (some ⟨g1, 0, none⟩) n n) := by rw [← ev]; exact blk_cell HF.out.a 0
        have kb := bools_cell b1 t (by have := HT.out; omega)
        obtain ⟨p, hp⟩ : ∃ p, p = A.getD t false := ⟨_, rfl⟩
        rw [← hp] at kb
        obtain ⟨h3, h4⟩ := HN.out (!p) (by unfold Pure.oneS; rw [if_neg (by omega), if_neg (by omega), if_pos e10, hp])
        have HH := Aside0.mk (And.intro h3 h4)
        clear h3 h4 e10 hp ev b1 b2 b3
        go_wp2
        go_roundg k1
        case measure => have := HI2.out; omega
        case rel => exact ⟨t + 1, _, rfl, HI2, ⟨HF.out.setRow t (!p)⟩, ⟨HH.out.1⟩, ⟨HH.out.2⟩, ⟨blk_far HB6.out HBn.out _⟩, ⟨fun h => (HRA.out h).set _ _⟩, ⟨fun h => (HRB.out h).set _ _⟩⟩
      by_cases e8 : o.f0 = 8
      · rw [e8] at k9
        obtain ⟨g1, ev, b1, b2, b3⟩ := HRA.out (by have := HNP.out; omega)
        obtain ⟨g2, ev2, d1, d2, d3⟩ := HRB.out (by have := HNP.out; omega)
        have ka : wr.cell? ⟨ga, 0, none⟩ = some (.slice (some ⟨g1, 0, none⟩) n n) := by rw [← ev]; exact blk_cell HF.out.a 0
        have kb := bools_cell b1 t (by have := HT.out; omega)
        have ka2 : wr.cell? ⟨gb, 0, none⟩ = some (.slice (some ⟨g2, 0, none⟩) n n) := by rw [← ev2]; exact blk_cell HF.out.b 0
        have kb2 := bools_cell d1 t (by have := HT.out; omega)
        obtain ⟨p, hp⟩ : ∃ p, p = A.getD t false := ⟨_, rfl⟩
        rw [← hp] at kb
        obtain ⟨q, hq2⟩ : ∃ q, q = B.getD t false := ⟨_, rfl⟩
        rw [← hq2] at kb2
        have hx : (p && q) = Pure.oneS n c L o A B t := by unfold Pure.oneS; rw [if_neg (by omega), if_neg (by omega), if_neg (by omega), if_pos e8, hp, hq2]
        have HXX := Aside0.mk hx
        clear hx e8 hp hq2 ev b1 b2 b3 ev2 d1 d2 d3
        cases p <;> cases q <;>
        · obtain ⟨h3, h4⟩ := HN.out _ HXX.out
          have HH := Aside0.mk (And.intro h3 h4)
          clear h3 h4
          go_wp2
          go_roundg k1
          case measure => have := HI2.out; omega
          case rel => exact ⟨t + 1, _, rfl, HI2, ⟨HF.out.setRow t _⟩, ⟨HH.out.1⟩, ⟨HH.out.2⟩, ⟨blk_far HB6.out HBn.out _⟩, ⟨fun h => (HRA.out h).set _ _⟩, ⟨fun h => (HRB.out h).set _ _⟩⟩
      by_cases e9 : o.f0 = 9
      · rw [e9] at k9
        obtain ⟨g1, ev, b1, b2, b3⟩ := HRA.out (by have := HNP.out; omega)
        obtain ⟨g2, ev2, d1, d2, d3⟩ := HRB.out (by have := HNP.out; omega)
        have ka : wr.cell? ⟨ga, 0, none⟩ = some (.slice (some ⟨g1, 0, none⟩) n n) := by rw [← ev]; exact blk_cell HF.out.a 0
        have kb := bools_cell b1 t (by have := HT.out; omega)
        have ka2 : wr.cell? ⟨gb, 0, none⟩ = some (.slice (some ⟨g2, 0, none⟩) n n) := by rw [← ev2]; exact blk_cell HF.out.b 0
        have kb2 := bools_cell d1 t (by have := HT.out; omega)
        obtain ⟨p, hp⟩ : ∃ p, p = A.getD t false := ⟨_, rfl⟩
        rw [← hp] at kb
        obtain ⟨q, hq2⟩ : ∃ q, q = B.getD t false := ⟨_, rfl⟩
        rw [← hq2] at kb2
        have hx : (p || q) = Pure.oneS n c L o A B t := by unfold Pure.oneS; rw [if_neg (by omega), if_neg (by omega), if_neg (by omega), if_neg (by omega), if_pos e9, hp, hq2]
        have HXX := Aside0.mk hx
        clear hx e9 hp hq2 ev b1 b2 b3 ev2 d1 d2 d3
        cases p <;> cases q <;>
        · obtain ⟨h3, h4⟩ := HN.out _ HXX.out
          have HH := Aside0.mk (And.intro h3 h4)
          clear h3 h4
          go_wp2
          go_roundg k1
          case measure => have := HI2.out; omega
          case rel => exact ⟨t + 1, _, rfl, HI2, ⟨HF.out.setRow t _⟩, ⟨HH.out.1⟩, ⟨HH.out.2⟩, ⟨blk_far HB6.out HBn.out _⟩, ⟨fun h => (HRA.out h).set _ _⟩, ⟨fun h => (HRB.out h).set _ _⟩⟩
      by_cases e14 : o.f0 = 14
      · rw [e14] at k9
        obtain ⟨g1, ev, b1, b2, b3⟩ := HRA.out (by have := HNP.out; omega)
        have hbe : Pure.behS n (n - c) t < n := by
          have h1 := HC.out
          have h2 := HT.out
          unfold Pure.behS
          split <;> omega
        have ka : wr.cell? ⟨ga, 0, none⟩ = some (.slice (some ⟨g1, 0, none⟩) n n) := by rw [← ev]; exact blk_cell HF.out.a 0
        have kb := bools_cell b1 (Pure.behS n (n - c) t) (by omega)
        obtain ⟨p, hp⟩ : ∃ p, p = A.getD (Pure.behS n (n - c) t) false := ⟨_, rfl⟩
        rw [← hp] at kb
        obtain ⟨h3, h4⟩ := HN.out p (by unfold Pure.oneS; rw [if_neg (by omega), if_neg (by omega), if_neg (by omega), if_neg (by omega), if_neg (by omega), if_pos e14, hp])
        have HH := Aside0.mk (And.intro h3 h4)
        have ht7 := blk_grown HS.out.t HF.out.gro (fun e => HNE.out (Option.some.inj e))
        have HBeh := Aside0.mk (fun nd => behind_calls gt n (n - c) t cL (some ⟨gL, 0, none⟩) (wr.drewN nd) (blk_cell (blk_drewN ht7 nd) 2) (blk_cell (blk_drewN ht7 nd) 3) HT.out hn)
        obtain ⟨b, hb⟩ : ∃ b, b = Pure.behS n (n - c) t := ⟨_, rfl⟩
        rw [← hb] at kb HBeh hbe
        have r1 : (0 ≤ (b : Int)) = True := eq_true (by omega)
        have r2 : decide ((b : Int) < (n : Int)) = true := decide_eq_true (by omega)
        have r3 : decide (b < n) = true := decide_eq_true hbe
        have r4 : ((b : Int) < (n : Int)) = True := eq_true (by omega)
        clear h3 h4 e14 hp ev b1 b2 b3 ht7 hb hbe
        go_wp2
        go_still_tail 9, (by kernel_rfl)
        still_call (HBeh.out 1)
        repeat still_step
        refine wpStill_nil ?_
        change wpList _ _ _ _ _ wr.drew
        go_wp2
        go_roundg k1
        case measure => have := HI2.out; omega
        case rel => exact ⟨t + 1, _, rfl, HI2, ⟨(HF.out.drew.setRow t p)⟩, ⟨HH.out.1⟩, ⟨HH.out.2⟩, ⟨blk_far (w := wr.drew) HB6.out HBn.out _⟩, ⟨fun h => (HRA.out h).drew.set _ _⟩, ⟨fun h => (HRB.out h).drew.set _ _⟩⟩
      have e13 : o.f0 = 13 := by have := HK2.out; omega
      rw [e13] at k9
      have hk13 : 0 ≤ o.f1 ∧ o.f1 < (pn : Int) := by
        rcases HK.out with ⟨_, h1, h2⟩ | h | h | ⟨h, _⟩ | ⟨h, _⟩ | ⟨h, _⟩ | ⟨h, _⟩
        · exact ⟨h1, h2⟩
        all_goals (exfalso; omega)
      obtain ⟨Aj, cj, kl, hCj⟩ := HS.out.lets wr HF.out.gro t HT.out
      have hlj : (L.getD t []).length = pn := by
        have h := HT.out
        rw [← HS.out.ln] at h
        have e : L.getD t [] = L[t] := by simp [List.getD_eq_getElem?_getD, h]
        rw [e]
        exact HPN.out _ (List.getElem_mem h)
      obtain ⟨aj, eaj, kj⟩ := Kd.at_bool hCj o.f1 hk13.1 (by rw [hlj]; exact hk13.2)
      subst eaj
      rw [hlj] at kl
      obtain ⟨p, hp⟩ : ∃ p, p = rdOf false (L.getD t []) o.f1 := ⟨_, rfl⟩
      rw [← hp] at kj
      obtain ⟨h3, h4⟩ := HN.out p (by unfold Pure.oneS; rw [if_pos e13, hp]; rfl)
      have HH := Aside0.mk (And.intro h3 h4)
      have ht7 := blk_grown HS.out.t HF.out.gro (fun e => HNE.out (Option.some.inj e))
      have k2 : wr.cell? ⟨gt, 2, none⟩ = some (.slice (some ⟨gL, 0, none⟩) n cL) := blk_cell ht7 2
      have r1 : (0 ≤ o.f1) = True := eq_true hk13.1
      have r2 : decide (o.f1 < (pn : Int)) = true := decide_eq_true hk13.2
      have r4 : (o.f1 < (pn : Int)) = True := eq_true hk13.2
      clear h3 h4 e13 hp hCj hlj hk13 ht7 e10 e11 e12 e8 e9 e14
      go_wp2
      go_region
      go_wp2
      go_roundg k1
      case measure => have := HI2.out; omega
      case rel => exact ⟨t + 1, _, rfl, HI2, ⟨(HF.out.drew.setRow t p)⟩, ⟨HH.out.1⟩, ⟨HH.out.2⟩, ⟨blk_far (w := wr.drew) HB6.out HBn.out _⟩, ⟨fun h => (HRA.out h).drew.set _ _⟩, ⟨fun h => (HRB.out h).drew.set _ _⟩⟩
theorem cells_ofC {α : Type} {d : Kd α} {e : Nat} {w : World} : ∀ {n : Nat} {A : Option Addr} {xs : List (List α)}, Kd.C (Kd.slice e d) w A n xs → ∃ cs : List Value, RdC w A n cs ∧ ∀ (j : Nat) (x : List α), xs[j]? = some x → ∃ Aj cj, cs[j]? = some (Value.slice Aj x.length cj) ∧ Kd.C d w Aj x.length x := by
  intro n A xs h
  obtain ⟨h1, h2, h3⟩ := h
  by_cases h0 : n = 0
  · subst h0
    obtain rfl := List.eq_nil_of_length_eq_zero h1
    exact ⟨[], ⟨rfl, fun _ => rfl, fun ad e j u hu => (by simp at hu), (by simp)⟩, fun j x hx => (by simp at hx)⟩
  obtain ⟨ad, rfl, hc⟩ := h3 (by omega)
  have key : ∀ m, m ≤ n → ∃ cs : List Value, cs.length = m ∧ (∀ j u, cs[j]? = some u → w.cell? (ad.add j) = some u ∧ ∃ x Aj cj, xs[j]? = some x ∧ u = .slice Aj x.length cj ∧ Kd.C d w Aj x.length x) := by
    intro m
    induction m with
    | zero => exact fun _ => ⟨[], rfl, fun j u hu => by simp at hu⟩
    | succ m ih =>
      intro hm
      obtain ⟨cs, hl, hcs⟩ := ih (by omega)
      obtain ⟨c, c1, ⟨Aj, cj, c2, _, c4⟩, c3⟩ := hc m _ (List.getElem?_eq_getElem (show m < xs.length by omega))
      refine ⟨cs ++ [.slice Aj xs[m].length cj], by simp [hl], fun j u hu => ?_⟩
      rcases Nat.lt_or_ge j cs.length with hj | hj
      · rw [List.getElem?_append_left hj] at hu
        exact hcs j u hu
      · have hjm : j = m := by have := (List.getElem?_eq_some_iff.1 hu).1; simp at this; omega
        subst hjm
        rw [List.getElem?_append_right (by omega), hl] at hu
        simp at hu
        subst hu
        have := c3 0 (.slice Aj xs[j].length cj) (by rw [c2]; rfl)
        refine ⟨?_, xs[j], Aj, cj, List.getElem?_eq_getElem _, rfl, c4⟩
        have e1 : j * (Kd.slice e d).sz + 0 = j := by show j * 1 + 0 = j; omega
        rw [e1] at this
        exact this
  obtain ⟨cs, hl, hcs⟩ := key n (Nat.le_refl _)
  refine ⟨cs, ⟨hl, fun e => (by cases e), fun ad' e j u hu => ?_, fun u hu => ?_⟩, fun j x hx => ?_⟩
  · cases e; exact (hcs j u hu).1
  · obtain ⟨j, hj⟩ := List.mem_iff_getElem?.1 hu
    obtain ⟨_, x, Aj, cj, _, rfl, _⟩ := hcs j u hj
    rfl
  · have hjl : j < cs.length := by have := (List.getElem?_eq_some_iff.1 hx).1; omega
    obtain ⟨_, x', Aj, cj, hx', hu, hC⟩ := hcs j _ (List.getElem?_eq_getElem hjl)
    rw [hx] at hx'
    cases hx'
    exact ⟨Aj, cj, by rw [List.getElem?_eq_getElem hjl, hu], hC⟩
theorem below_row {B g : Nat} {w w' : World} (h : w.grownBy w' (some g)) (hg : B ≤ g) (hB : B ≤ w.heap.size) : Below B w w' :=
  ⟨h.os, h.tape, h.output, h.size, fun i hi => h.block i (by omega) (fun e => by have := Option.some.inj e; omega)⟩
theorem own_block {w : World} {base e n : Nat} {v : Value} {cells : List Value} (h : w.ownsRow base e 1 v n cells) (hn : 0 < n) : ∃ g cap cur, v = .slice (some ⟨g, 0, none⟩) n cap ∧ base ≤ g ∧ w.heap[g]? = some (.cells cur e (0, 0)) ∧ n ≤ cap ∧ cap ≤ maxLen ∧ cur.size = cap * 1 ∧ cur.toList.take (n * 1) = cells := by
  rcases h.2 with ⟨_, h0⟩ | ⟨g, cap, cur, h1, h2, h3, h4, h5, h6, h7⟩
  · omega
  · exact ⟨g, cap, cur, h1, h2, h3, h4, h5, h6, h7⟩
theorem made_slices (n : Nat) : madeCells #[Value.slice none 0 0] n = (List.replicate n (Value.slice none 0 0)).toArray := by
  apply Array.ext'
  simp [madeCells]
  apply List.ext_getElem
  · simp
  · intro i h1 h2
    simp [Nat.mod_one]
theorem wordS_ok {st lp : List (List Bool)} {n : Int} (h : wordS st lp n = 0) : st.length ≤ 12 ∧ 1 ≤ lp.length ∧ lp.length ≤ 12 ∧ ∀ x ∈ st ++ lp, (x.length : Int) = n := by
  unfold wordS at h
  by_cases g1 : n < 0 ∨ 6 < n
  · rw [if_pos g1] at h; cases h
  rw [if_neg g1] at h
  by_cases g2 : 12 < st.length ∨ lp.length < 1 ∨ 12 < lp.length
  · rw [if_pos g2] at h; cases h
  rw [if_neg g2] at h
  by_cases g3 : (st ++ lp).all (fun x => decide ((x.length : Int) = n)) = true
  · rw [List.all_eq_true] at g3
    exact ⟨by omega, by omega, by omega, fun x hx => of_decide_eq_true (g3 x hx)⟩
  · rw [if_neg g3] at h; cases h
theorem made_arr (n : Nat) : madeCells #[Value.slice none 0 0] n = Array.replicate n (Value.slice none 0 0) := by
  rw [made_slices]
  simp
def openE (l : List S65) (st lp : List (List Bool)) (pn : Int) : Int := if Pure.checkS l pn = 0 then wordS st lp pn else Pure.checkS l pn
theorem tab_made {A0 : Option Addr} {c0 gE cE gt gL gr cL : Nat} {l : List S65} {st lp : List (List Bool)} {xs ys : List Value} {cur : Array Value} {w4 W : World} {A1 A2 : Option Addr} {b0 cb : Nat}
    (hC : Kd.C k65 w4 A0 l.length l) (hLd : LaidG w4) (hE : Kd.C (Kd.int .i64) w4 (some ⟨gE, 0, none⟩) l.length ((List.range l.length).map (endAt l)))
    (hx : RdC w4 A1 st.length xs) (hxc : ∀ (j : Nat) (x : List Bool), st[j]? = some x → ∃ Aj cj, xs[j]? = some (Value.slice Aj x.length cj) ∧ Kd.C Kd.bool w4 Aj x.length x)
    (hy : RdC w4 A2 lp.length ys) (hyc : ∀ (j : Nat) (x : List Bool), lp[j]? = some x → ∃ Aj cj, ys[j]? = some (Value.slice Aj x.length cj) ∧ Kd.C Kd.bool w4 Aj x.length x)
    (hB : Below w4.heap.size w4 W)
    (hT : W.heap[gt]? = some (.cells #[.slice A0 l.length c0, .slice (some ⟨gE, 0, none⟩) l.length cE, .slice (some ⟨gL, 0, none⟩) (st.length + lp.length) cL, .int .i64 (st.length : Int), .slice (some ⟨gr, 0, none⟩) l.length l.length] 59 (0, 0)))
    (hG : W.heap[gL]? = some (.cells cur 27 (0, 0))) (hcur : cur.toList.take ((st.length + lp.length) * 1) = xs ++ ys)
    (hR : W.heap[gr]? = some (.cells (Array.replicate l.length (Value.slice none 0 0)) 27 (0, 0))) (hne : gL ≠ gr) (hge : w4.heap.size ≤ gr) (hn : st.length ≤ 12 ∧ 1 ≤ lp.length ∧ lp.length ≤ 12) (hl : l.length ≤ 60) :
    TabS gt gL gr cL lp.length (st ++ lp).length A0 c0 gE cE l (st ++ lp) W ∧ TabD gt gr (st ++ lp).length l (Pure.rowsS (st ++ lp).length lp.length (st ++ lp) l) W l.length (List.replicate l.length (Value.slice none 0 0)) W := by
  have hlen : (st ++ lp).length = st.length + lp.length := List.length_append
  have hbel : ∀ W', W.grownBy W' (some gr) → Below w4.heap.size w4 W' := fun W' h => hB.trans (below_row h hge hB.size)
  refine ⟨⟨?_, fun W' h => ⟨Kd.C_below hC (hbel W' h), hLd.below (hbel W' h)⟩, fun W' h i hi => ?_, fun W' h j hj => ?_, ⟨_, hR⟩, rfl, ⟨by omega, by omega, by omega⟩, hl⟩, ⟨World.grownBy.refl W _, by rw [hR]; simp, by simp, fun k h1 h2 => absurd h2 (by omega)⟩⟩
  · rw [hT, hlen, Nat.add_sub_cancel]
  · obtain ⟨ad, e, h1⟩ := Kd.at_int (Kd.C_below hE (hbel W' h)) (i : Int) (by omega) (by omega)
    cases e
    have ea : (⟨gE, 0, none⟩ : Addr).add i = ⟨gE, i, none⟩ := by
      rcases Nat.eq_zero_or_pos i with h0 | h0
      · rw [h0]; rfl
      · simp [Addr.add, Nat.ne_of_gt h0]
    rw [Int.toNat_natCast, Base.rd_get _ _ (by simpa using hi), ea] at h1
    simpa using h1
  · have hj' : j < st.length + lp.length := by omega
    have hcell : ∃ Aj cj, (xs ++ ys)[j]? = some (.slice Aj ((st ++ lp).getD j []).length cj) ∧ Kd.C Kd.bool w4 Aj ((st ++ lp).getD j []).length ((st ++ lp).getD j []) := by
      rcases Nat.lt_or_ge j st.length with hlt | hge2
      · have e : (st ++ lp).getD j [] = st[j] := by rw [List.getD_eq_getElem?_getD, List.getElem?_append_left hlt, List.getElem?_eq_getElem hlt]; rfl
        rw [e, List.getElem?_append_left (by rw [hx.1]; exact hlt)]
        exact hxc j _ (List.getElem?_eq_getElem hlt)
      · have hlt : j - st.length < lp.length := by omega
        have e : (st ++ lp).getD j [] = lp[j - st.length] := by rw [List.getD_eq_getElem?_getD, List.getElem?_append_right hge2, List.getElem?_eq_getElem hlt]; rfl
        rw [e, List.getElem?_append_right (by rw [hx.1]; exact hge2), hx.1]
        exact hyc _ _ (List.getElem?_eq_getElem hlt)
    obtain ⟨Aj, cj, e1, e2⟩ := hcell
    refine ⟨Aj, cj, ?_, Kd.C_below e2 (hbel W' h)⟩
    rw [blk_cell (blk_grown hG h (fun e => hne (Option.some.inj e))) j]
    rw [← hcur, Nat.mul_one, List.getElem?_take, if_pos hj'] at e1
    simpa using e1
def OpenPost (A0 : Option Addr) (c0 : Nat) (l : List S65) (st lp : List (List Bool)) (pn : Int) (w : World) (e : Ending) (w' : World) : Prop :=
  Below w.heap.size w w' ∧ (if openE l st lp pn = 0 then ∃ gt gL gr cL gE cE vs w1, e = .returned (.tuple #[.pointer (some ⟨gt, 0, none⟩), .int .i64 0]) ∧ w.heap.size ≤ w1.heap.size ∧ TabS gt gL gr cL lp.length (st ++ lp).length A0 c0 gE cE l (st ++ lp) w1 ∧ TabD gt gr (st ++ lp).length l (Pure.rowsS (st ++ lp).length lp.length (st ++ lp) l) w1 0 vs w' else e = .returned (.tuple #[.pointer none, .int .i64 (openE l st lp pn)]))
set_option maxRecDepth 100000 in
set_option maxHeartbeats 4000000 in
theorem open_calls (k : Nat) (A0 : Option Addr) (c0 : Nat) (l : List S65) (A1 : Option Addr) (c1 : Nat) (st : List (List Bool)) (A2 : Option Addr) (c2 : Nat) (lp : List (List Bool)) (pn : Int) (w : World)
    (hr0 : Kd.C k65 w A0 l.length l) (hc0 : l.length ≤ c0) (hr1 : Kd.C (Kd.slice 4 Kd.bool) w A1 st.length st) (hc1 : st.length ≤ c1) (hr2 : Kd.C (Kd.slice 4 Kd.bool) w A2 lp.length lp) (hc2 : lp.length ≤ c2) (hL : LaidG w)
    (hck : logic_Check.f k l pn = some (Pure.checkS l pn)) :
    Calls Tryd.prog 23 #[.slice A0 l.length c0, .agg #[.slice A1 st.length c1, .slice A2 lp.length c2], .int .i64 pn] w (OpenPost A0 c0 l st lp pn w) := by
  have HR0 := Aside0.mk hr0
  have HC0 := Aside0.mk hc0
  have HR1 := Aside0.mk hr1
  have HC1 := Aside0.mk hc1
  have HR2 := Aside0.mk hr2
  have HC2 := Aside0.mk hc2
  have HLd := Aside0.mk hL
  have HCK := Aside0.mk hck
  have HWK := Aside0.mk (show word_Check.f st lp pn = some (wordS st lp pn) from rfl)
  have hu24 := Tryd.underlying25
  clear hr0 hc0 hr1 hc1 hr2 hc2 hL hck
  by_cases g1 : Pure.checkS l pn = 0
  case neg =>
    have q1 : (Pure.checkS l pn != 0) = true := bne_iff_ne.2 g1
    have HE := Aside0.mk (show openE l st lp pn = Pure.checkS l pn by unfold openE; rw [if_neg g1])
    have HG := Aside0.mk g1
    clear g1
    go_enter Tryd.func23, Tryd.ntmps23
    go_wp2_with (first | ((with_reducible refine gate_dst (N := 4) rfl ?_); refine box_event ?hg (N := 4) ?hd (cs := #[.slice A1 st.length c1, .slice A2 lp.length c2]) (t := 25) ?hr ?_; (case hd => rfl); (case hg => rfl); (case hr => first | (go_simp; done) | (go_simp; rfl)); intro gb hg w1 hbox hb; have HB := Aside0.mk hb; clear hb hbox hg) | (go_at_call 41; refine (logic_Check.calls k _ _ l _ _ _ (Kd.C_below HR0.out HB.out) HC0.out (HLd.out.below HB.out) HCK.out).mono ?_; rintro e w2 ⟨rfl, hb⟩; have HB2 := Aside0.mk (below_step HB.out hb); clear hb))
    go_ret2
    refine ⟨HB2.out, ?_⟩
    rw [HE.out, if_neg HG.out]
    rfl
  have q1 : (Pure.checkS l pn != 0) = false := bne_eq_false_iff_eq.2 g1
  by_cases g2 : wordS st lp pn = 0
  case neg =>
    have q2 : (wordS st lp pn != 0) = true := bne_iff_ne.2 g2
    have HE := Aside0.mk (show openE l st lp pn = wordS st lp pn by unfold openE; rw [if_pos g1])
    have HG := Aside0.mk g2
    clear g1 g2
    go_enter Tryd.func23, Tryd.ntmps23
    go_wp2_with (first | ((with_reducible refine gate_dst (N := 4) rfl ?_); refine box_event ?hg (N := 4) ?hd (cs := #[.slice A1 st.length c1, .slice A2 lp.length c2]) (t := 25) ?hr ?_; (case hd => rfl); (case hg => rfl); (case hr => first | (go_simp; done) | (go_simp; rfl)); intro gb hg w1 hbox hb; have HB := Aside0.mk hb; have HX := Aside0.mk hbox; clear hb hbox hg) | (go_at_call 41; refine (logic_Check.calls k _ _ l _ _ _ (Kd.C_below HR0.out HB.out) HC0.out (HLd.out.below HB.out) HCK.out).mono ?_; rintro e w2 ⟨rfl, hb⟩; have HB2 := Aside0.mk (below_step HB.out hb); have HX2 := Aside0.mk (blk_below HX.out hb); have k0 : w2.cell? ⟨gb, 0, none⟩ = some (.slice A1 st.length c1) := blk_cell HX2.out 0; have k1 : w2.cell? ⟨gb, 1, none⟩ = some (.slice A2 lp.length c2) := blk_cell HX2.out 1; clear hb) | (go_at_call 42; refine (word_Check.calls _ _ st _ _ lp _ _ _ (Kd.C_below HR1.out HB2.out) HC1.out (Kd.C_below HR2.out HB2.out) HC2.out HWK.out).mono ?_; rintro e w3 ⟨rfl, hb⟩; have HB3 := Aside0.mk (below_step HB2.out hb); clear hb))
    go_ret2
    refine ⟨HB3.out, ?_⟩
    rw [HE.out, if_neg HG.out]
    rfl
  have q2 : (wordS st lp pn != 0) = false := bne_eq_false_iff_eq.2 g2
  obtain ⟨h1, h2, h3, h4⟩ := Pure.checkS_ok g1
  obtain ⟨h5, h6⟩ := Pure.checkS_fit g1
  obtain ⟨v1, v2, v3, v4⟩ := wordS_ok g2
  have hpos := one_pos h2
  have HE := Aside0.mk (show openE l st lp pn = 0 by unfold openE; rw [if_pos g1]; exact g2)
  have HEnd := Aside0.mk (show polish_Ends.f l = some ((List.range l.length).map (endAt l), 0) from congrArg some h4)
  have HOne := Aside0.mk h2
  have HFit := Aside0.mk h6
  have HPn := Aside0.mk v4
  have HN := Aside0.mk (And.intro v1 (And.intro v2 v3))
  rw [g1] at HCK q1
  rw [g2] at HWK q2
  clear g1 g2 h2 h4 h5 h6 v1 v2 v3 v4 h1
  go_enter Tryd.func23, Tryd.ntmps23
  go_upto_region 8 with (first | ((with_reducible refine gate_dst (N := 4) rfl ?_); refine box_event ?hg (N := 4) ?hd (cs := #[.slice A1 st.length c1, .slice A2 lp.length c2]) (t := 25) ?hr ?_; (case hd => rfl); (case hg => rfl); (case hr => first | (go_simp; done) | (go_simp; rfl)); intro gb hg w1 hbox hb; have HB := Aside0.mk hb; have HX := Aside0.mk hbox; clear hb hbox hg) | (go_at_call 41; refine (logic_Check.calls k _ _ l _ _ _ (Kd.C_below HR0.out HB.out) HC0.out (HLd.out.below HB.out) HCK.out).mono ?_; rintro e w2 ⟨rfl, hb⟩; have HB2 := Aside0.mk (below_step HB.out hb); have HX2 := Aside0.mk (blk_below HX.out hb); have k0 : w2.cell? ⟨gb, 0, none⟩ = some (.slice A1 st.length c1) := blk_cell HX2.out 0; have k1 : w2.cell? ⟨gb, 1, none⟩ = some (.slice A2 lp.length c2) := blk_cell HX2.out 1; clear hb) | (go_at_call 42; refine (word_Check.calls _ _ st _ _ lp _ _ _ (Kd.C_below HR1.out HB2.out) HC1.out (Kd.C_below HR2.out HB2.out) HC2.out HWK.out).mono ?_; rintro e w3 ⟨rfl, hb⟩; have HB3 := Aside0.mk (below_step HB2.out hb); have HX3 := Aside0.mk (blk_below HX2.out hb); clear hb k0 k1) | (go_at_call 43; refine (polish_Ends.calls _ _ l _ _ _ (Kd.C_below HR0.out HB3.out) HC0.out (HLd.out.below HB3.out) HEnd.out).mono ?_; rintro e w4 ⟨v, rfl, ho, hb⟩; have HO4 := Aside0.mk ho; have HB4 := Aside0.mk (below_step HB3.out hb); have HX4 := Aside0.mk (blk_below HX3.out hb); have HZ4 := Aside0.mk hb.size; clear hb ho))
  obtain ⟨gE, cE, ev, hbE, hltE, cellsE, hclE⟩ := Kd.R_form HO4.out (by simp; omega)
  rw [List.length_map, List.length_range] at ev
  subst ev
  clear hbE hltE hclE
  obtain ⟨xs, hx1, hx2⟩ := cells_ofC (Kd.C_below HR1.out HB4.out)
  obtain ⟨ys, hy1, hy2⟩ := cells_ofC (Kd.C_below HR2.out HB4.out)
  obtain ⟨A, hA⟩ : ∃ A, A = Obj.cells #[Value.slice A1 st.length c1, Value.slice A2 lp.length c2] 23 := ⟨_, rfl⟩
  obtain ⟨Z, hZ⟩ : ∃ Z, Z = Obj.cells (Array.replicate l.length (Value.slice none 0 0)) 27 := ⟨_, rfl⟩
  have hmk := print_make_of (P := Tryd.prog) 23 27 (.slice none 0 0) 24 Tryd.underlying23 info27 rfl (by omega) l.length (by omega)
  rw [made_arr] at hmk
  subst hA hZ
  go_cut [12] (fun t12 wc => ∃ gt gL gr cL vs, t12 = .pointer (some ⟨gt, 0, none⟩) ∧ Aside0 (TabS gt gL gr cL lp.length (st ++ lp).length A0 c0 gE cE l (st ++ lp) wc) ∧ Aside0 (TabD gt gr (st ++ lp).length l (Pure.rowsS (st ++ lp).length lp.length (st ++ lp) l) wc l.length vs wc) ∧ Aside0 (Below w.heap.size w wc) ∧ Aside0 (w.heap.size ≤ gr))
  case first =>
    have k0 : w4.cell? ⟨gb, 0, none⟩ = some (.slice A1 st.length c1) := blk_cell HX4.out 0
    have k1 : w4.cell? ⟨gb, 1, none⟩ = some (.slice A2 lp.length c2) := blk_cell HX4.out 1
    have HW1 := Aside0.mk (show (w4.alloc (Obj.cells #[Value.slice A1 st.length c1, Value.slice A2 lp.length c2] 23)).heap[w4.heap.size]? = some (Obj.cells #[Value.slice A1 st.length c1, Value.slice A2 lp.length c2] 23) from heap_new _ _)
    have HW2 := Aside0.mk (show ((w4.alloc (Obj.cells #[Value.slice A1 st.length c1, Value.slice A2 lp.length c2] 23)).alloc (Obj.cells (Array.replicate l.length (Value.slice none 0 0)) 27)).heap[w4.heap.size]? = some (Obj.cells #[Value.slice A1 st.length c1, Value.slice A2 lp.length c2] 23) from blk_alloc (heap_new _ _) _)
    have HW3 := Aside0.mk (show ((w4.alloc (Obj.cells (Array.replicate l.length (Value.slice none 0 0)) 27)).alloc (Obj.cells #[Value.slice A1 st.length c1, Value.slice A2 lp.length c2] 23)).heap[w4.heap.size + 1]? = some (Obj.cells #[Value.slice A1 st.length c1, Value.slice A2 lp.length c2] 23) from by have := heap_new (w4.alloc (Obj.cells (Array.replicate l.length (Value.slice none 0 0)) 27)) (Obj.cells #[Value.slice A1 st.length c1, Value.slice A2 lp.length c2] 23); rw [size_alloc] at this; exact this)
    have HB1 := Aside0.mk (show Below w4.heap.size w4 (w4.alloc (Obj.cells #[Value.slice A1 st.length c1, Value.slice A2 lp.length c2] 23)) from below_alloc (Below.refl _ _) _)
    have HB2 := Aside0.mk (show Below w4.heap.size w4 ((w4.alloc (Obj.cells #[Value.slice A1 st.length c1, Value.slice A2 lp.length c2] 23)).alloc (Obj.cells (Array.replicate l.length (Value.slice none 0 0)) 27)) from below_alloc (below_alloc (Below.refl _ _) _) _)
    have HB3 := Aside0.mk (show Below w4.heap.size w4 ((w4.alloc (Obj.cells (Array.replicate l.length (Value.slice none 0 0)) 27)).alloc (Obj.cells #[Value.slice A1 st.length c1, Value.slice A2 lp.length c2] 23)) from below_alloc (below_alloc (Below.refl _ _) _) _)
    have HXX := Aside0.mk hx1
    have HYY := Aside0.mk hy1
    have HXC := Aside0.mk hx2
    have HYC := Aside0.mk hy2
    have HNs := Aside0.mk (show (st.length + lp.length) * 24 ≤ 140737488355328 by have := HN.out; omega)
    have HL60 := Aside0.mk h3
    have HCE := Aside0.mk (show Kd.C (Kd.int .i64) w4 (some ⟨gE, 0, none⟩) l.length ((List.range l.length).map (endAt l)) by have := (Kd.R_reads' HO4.out).2.2; simpa using this)
    have HTM := Aside0.mk (fun (gt gL gr cL : Nat) (cur : Array Value) (W : World) hB hT hG hcur hR hne hge => tab_made (gt := gt) (gL := gL) (gr := gr) (cL := cL) (cE := cE) (c0 := c0) (cur := cur) (W := W) (b0 := 0) (cb := 0) (Kd.C_below HR0.out HB4.out) (HLd.out.below HB4.out) HCE.out HXX.out HXC.out HYY.out HYC.out hB hT hG hcur hR hne hge HN.out HL60.out)
    clear hx1 hy1 hx2 hy2 q1 q2 h3 hpos
    go_region_held3 (fun w' => w'.cell? ⟨gb, 0, none⟩ = some (.slice A1 st.length c1) ∧ w'.cell? ⟨gb, 1, none⟩ = some (.slice A2 lp.length c2)) (go_keep) (first | (go_at_call 44; refine (concatG _ A1 A2 st.length c1 lp.length c2 xs ys _ ?hcb ?hcx ?hcy HNs.out).mono ?_; (case hcb => first | exact HW1.out | exact HW2.out | exact HW3.out); (case hcx => first | exact HXX.out.below HB1.out.drew | exact HXX.out.below HB2.out.drew | exact HXX.out.below HB3.out.drew); (case hcy => first | exact HYY.out.below HB1.out.drew | exact HYY.out.below HB2.out.drew | exact HYY.out.below HB3.out.drew); rintro e w9 ⟨v9, rfl, ho, hb⟩; obtain ⟨gL, cL, curL, rfl, hgL, hLh, hL1, hL2, hL3, hL4⟩ := own_block ho (by have := HN.out; omega); have HO9 := Aside0.mk (And.intro hgL (And.intro hLh hL4)); clear hgL hLh hL1 hL2 hL3 hL4; have HB9 := Aside0.mk (show Below w4.heap.size w4 w9 by first | exact below_step HB1.out.drew hb | exact below_step HB2.out.drew hb | exact below_step HB3.out.drew hb); have HBB := Aside0.mk hb; have u0 : w9.cell? ⟨gb, 0, none⟩ = some (.slice A1 st.length c1) := blk_cell (blk_below HX4.out HB9.out) 0; have u1 : w9.cell? ⟨gb, 1, none⟩ = some (.slice A2 lp.length c2) := blk_cell (blk_below HX4.out HB9.out) 1; clear ho hb))
    all_goals
      go_wp2_with fail
      go_meet
    case rel =>
      have hZ9 := heap_new w9 (Obj.cells (Array.replicate l.length (Value.slice none 0 0)) 27)
      have hlt : gL < w9.heap.size := blk_lt HO9.out.2.1
      have hT9 := heap_new (w9.alloc (Obj.cells (Array.replicate l.length (Value.slice none 0 0)) 27)) (Obj.cells #[.slice A0 l.length c0, .slice (some ⟨gE, 0, none⟩) l.length cE, .slice (some ⟨gL, 0, none⟩) (st.length + lp.length) cL, .int .i64 (st.length : Int), .slice (some ⟨w9.heap.size, 0, none⟩) l.length l.length] 59)
      rw [size_alloc] at hT9
      obtain ⟨t1, t2⟩ := HTM.out (w9.heap.size + 1) gL w9.heap.size cL curL _ (below_alloc (below_alloc HB9.out _) _) hT9 (blk_alloc (blk_alloc HO9.out.2.1 _) _) HO9.out.2.2 (blk_alloc hZ9 _) (by omega) HB9.out.size
      exact ⟨_, _, _, _, _, rfl, ⟨t1⟩, ⟨t2⟩, ⟨below_alloc (below_alloc (HB4.out.trans (HB9.out.mono HB4.out.size)) _) _⟩, ⟨by have := HB4.out.size; have := HB9.out.size; omega⟩⟩
    case rel =>
      have hs : ((w4.alloc (Obj.cells #[Value.slice A1 st.length c1, Value.slice A2 lp.length c2] 23)).alloc (Obj.cells (Array.replicate l.length (Value.slice none 0 0)) 27)).heap.size = w4.heap.size + 1 + 1 := by rw [size_alloc, size_alloc]
      have hZ1 := heap_new (w4.alloc (Obj.cells #[Value.slice A1 st.length c1, Value.slice A2 lp.length c2] 23)) (Obj.cells (Array.replicate l.length (Value.slice none 0 0)) 27)
      rw [size_alloc] at hZ1
      have hZ9 := blk_below (w := ((w4.alloc (Obj.cells #[Value.slice A1 st.length c1, Value.slice A2 lp.length c2] 23)).alloc (Obj.cells (Array.replicate l.length (Value.slice none 0 0)) 27)).drew) hZ1 HBB.out
      have hge : w4.heap.size + 1 + 1 ≤ gL := by have := HO9.out.1; rw [show (((w4.alloc (Obj.cells #[Value.slice A1 st.length c1, Value.slice A2 lp.length c2] 23)).alloc (Obj.cells (Array.replicate l.length (Value.slice none 0 0)) 27)).drew).heap.size = w4.heap.size + 1 + 1 from hs] at this; exact this
      have hT9 := heap_new w9 (Obj.cells #[.slice A0 l.length c0, .slice (some ⟨gE, 0, none⟩) l.length cE, .slice (some ⟨gL, 0, none⟩) (st.length + lp.length) cL, .int .i64 (st.length : Int), .slice (some ⟨w4.heap.size + 1, 0, none⟩) l.length l.length] 59)
      obtain ⟨t1, t2⟩ := HTM.out w9.heap.size gL (w4.heap.size + 1) cL curL _ (below_alloc HB9.out _) hT9 (blk_alloc HO9.out.2.1 _) HO9.out.2.2 (blk_alloc hZ9 _) (by omega) (by omega)
      exact ⟨_, _, _, _, _, rfl, ⟨t1⟩, ⟨t2⟩, ⟨below_alloc (HB4.out.trans (HB9.out.mono HB4.out.size)) _⟩, ⟨by have := HB4.out.size; omega⟩⟩
    case rel =>
      have hs : ((w4.alloc (Obj.cells (Array.replicate l.length (Value.slice none 0 0)) 27)).alloc (Obj.cells #[Value.slice A1 st.length c1, Value.slice A2 lp.length c2] 23)).heap.size = w4.heap.size + 1 + 1 := by rw [size_alloc, size_alloc]
      have hZ1 := blk_alloc (heap_new w4 (Obj.cells (Array.replicate l.length (Value.slice none 0 0)) 27)) (Obj.cells #[Value.slice A1 st.length c1, Value.slice A2 lp.length c2] 23)
      have hZ9 := blk_below (w := ((w4.alloc (Obj.cells (Array.replicate l.length (Value.slice none 0 0)) 27)).alloc (Obj.cells #[Value.slice A1 st.length c1, Value.slice A2 lp.length c2] 23)).drew) hZ1 HBB.out
      have hge : w4.heap.size + 1 + 1 ≤ gL := by have := HO9.out.1; rw [show (((w4.alloc (Obj.cells (Array.replicate l.length (Value.slice none 0 0)) 27)).alloc (Obj.cells #[Value.slice A1 st.length c1, Value.slice A2 lp.length c2] 23)).drew).heap.size = w4.heap.size + 1 + 1 from hs] at this; exact this
      have hT9 := heap_new w9 (Obj.cells #[.slice A0 l.length c0, .slice (some ⟨gE, 0, none⟩) l.length cE, .slice (some ⟨gL, 0, none⟩) (st.length + lp.length) cL, .int .i64 (st.length : Int), .slice (some ⟨w4.heap.size, 0, none⟩) l.length l.length] 59)
      obtain ⟨t1, t2⟩ := HTM.out w9.heap.size gL w4.heap.size cL curL _ (below_alloc HB9.out _) hT9 (blk_alloc HO9.out.2.1 _) HO9.out.2.2 (blk_alloc hZ9 _) (by omega) (by omega)
      exact ⟨_, _, _, _, _, rfl, ⟨t1⟩, ⟨t2⟩, ⟨below_alloc (HB4.out.trans (HB9.out.mono HB4.out.size)) _⟩, ⟨by have := HB4.out.size; omega⟩⟩
  case rest =>
    obtain ⟨gt, gL, gr, cL, vs0, rfl, HT, HD, HB, HGR⟩ := hcut
    obtain ⟨w5, hw5⟩ : ∃ w5, w5 = wc := ⟨_, rfl⟩
    rw [← hw5] at HT HD HB ⊢
    have HL60 := Aside0.mk h3
    have e1 : IntKind.i64.wrap ((l.length : Int) - 1) = (l.length : Int) - 1 := by rw [IntKind.wrap_i64]; omega
    clear hw5 hmk hx1 hx2 hy1 hy2 q1 q2 h3 hpos
    go_wp2_with fail
    go_loopg [13] (l.length + 1) (fun kq v13 w' => ∃ (i1 : Nat) (vs : List Value), v13 = .int .i64 ((i1 : Int) - 1) ∧ Aside0 (kq = i1 + 1 ∧ i1 ≤ l.length) ∧ Aside0 (TabD gt gr (st ++ lp).length l (Pure.rowsS (st ++ lp).length lp.length (st ++ lp) l) w5 i1 vs w'))
    case atStart => exact ⟨l.length, vs0, rfl, ⟨rfl, Nat.le_refl _⟩, HD⟩
    case round =>
      clear HD e1
      obtain ⟨i1, vs, rfl, HI, HD⟩ := hrel
      cases i1 with
      | zero =>
        have q1 : decide (((0 : Nat) : Int) - 1 ≥ 0) = false := by decide
        go_wp2_with fail
        go_ret2
        refine ⟨HB.out.trans (below_row HD.out.gb HGR.out HB.out.size), ?_⟩
        rw [if_pos HE.out]
        exact ⟨gt, gL, gr, cL, gE, cE, vs, w5, rfl, HB.out.size, HT.out, HD.out⟩
      | succ i =>
        rw [show ((i + 1 : Nat) : Int) - 1 = (i : Int) by omega]
        cases gk with
        | zero => exact absurd HI.out.1 (by omega)
        | succ k2 =>
        have hi := HI.out.2
        have q1 : decide ((i : Int) ≥ 0) = true := decide_eq_true (by omega)
        have e1 : IntKind.i64.wrap ((i : Int) - 1) = (i : Int) - 1 := by rw [IntKind.wrap_i64]; have := HL60.out; omega
        have hpn : ∃ m : Nat, pn = (m : Int) := by
          have h := HN.out
          cases hq : lp with
          | nil => rw [hq] at h; simp at h
          | cons x xs => exact ⟨x.length, (HPn.out x (by rw [hq]; simp)).symm⟩
        obtain ⟨m, hm⟩ := hpn
        have HF := Aside0.mk (fill_calls gt gL gr cL lp.length (st ++ lp).length A0 c0 gE cE l (st ++ lp) w5 wr i vs m HT.out HD.out hi HOne.out (by rw [← hm]; exact HFit.out _ (List.getElem_mem hi)) (fun x hx => by have := HPn.out x hx; omega))
        clear hm hi
        go_wp2_with (go_at_call 45; refine HF.out.mono ?_; rintro e w6 ⟨rfl, vs2, hd2⟩; have HD2 := Aside0.mk hd2; clear hd2)
        go_roundg k2
        case measure => have := HI.out; omega
        case rel => exact ⟨i, vs2, rfl, ⟨by have := HI.out; omega⟩, HD2⟩
end
end Go.Proofs.YthffpjkkmkjplaaDoor.Q
