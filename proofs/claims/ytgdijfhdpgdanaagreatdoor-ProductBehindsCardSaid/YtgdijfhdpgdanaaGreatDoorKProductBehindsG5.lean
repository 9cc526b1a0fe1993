import Derived.Test.YtgdijfhdpgdanaaGreatDoorRows
import Derived.ProofKit
import Derived.Lay
import Derived.LaidOnce
import Derived.Test.YtgdijfhdpgdanaaGreatDoorKProductBehindsG3
import Derived.Test.YtgdijfhdpgdanaaGreatDoorKProductBehindsG4
-- Cut by a program of this session (wip/prune.py) from a longer text: declarations that the law does not need are left out.
set_option maxRecDepth 100000
namespace Go.Proofs.YtgdijfhdpgdanaaGreatDoor
open Go.RowKit Go.ChangeShapes Go.WideShapes
theorem partsG : Tryz.prog.globalNamed "foretell/polish.parts" = some 0 := by kernel_rfl
theorem partsT : (Tryz.prog.globals[0]?).map (·.type) = some 176 := by kernel_rfl
theorem partsC : Tryz.prog.cellsOf 176 = 19 := by kernel_rfl
theorem intC : Tryz.prog.cellsOf 3 = 1 := by kernel_rfl
theorem int_of_trod {H : Type} {enc : TypeId × Value → H} {P : Program} {w : World} {base : Nat} {sp : Nat → Bool} {held : Bool} {fuel : Nat} {t : TypeId} {k : IntKind} {cs : List Value} {n : Int} {p : List MemPlace}
    (ht : P.underlying t = some (.int k)) (h : DataW.trod enc P w base sp held fuel t cs = some (.lit (.int k n), p)) : cs = [.int k n] := by
  cases fuel with
  | zero => simp [DataW.trod] at h
  | succ fuel =>
    unfold DataW.trod at h
    rw [ht] at h
    match cs, h with
    | [.int k' m], h =>
      simp only [] at h
      split at h
      · rename_i hk
        obtain ⟨rfl, _⟩ := hk
        simp only [Option.some.injEq, Prod.mk.injEq, DataW.lit.injEq, Lit.int.injEq] at h
        rw [h.1.2]
      · cases h
theorem laid_of {W : World} (h : laidMet Tryz.prog [("foretell/polish.parts", Rows.laid_foretell_polish_parts)] W) : LaidG W := by
  obtain ⟨ps, ⟨g, t, cs, fuel, p, q, hg, ht, hvar, hd, _, _⟩, _⟩ := h
  obtain rfl := Option.some.inj (partsG.symm.trans hg)
  obtain rfl := Option.some.inj (partsT.symm.trans ht)
  cases fuel with
  | zero => simp [DataW.trod] at hd
  | succ fuel =>
    unfold DataW.trod at hd
    rw [Tryz.underlying176] at hd
    have hd2 : (if cs.toList.length = Tryz.prog.cellsOf 176 then ((List.range 19).mapM fun i => DataW.trod (fun _ => ()) Tryz.prog W 0 (fun _ => true) false fuel 3 ((cs.toList.drop (i * Tryz.prog.cellsOf 3)).take (Tryz.prog.cellsOf 3))).map fun xs => (DataW.agg (xs.map (·.1)), xs.flatMap (·.2)) else none) = some (Rows.laid_foretell_polish_parts, p) := by
      match hcs : cs.toList, hd with
      | [], hd => exact hd
      | [x], hd => cases x <;> exact hd
      | x :: y :: l, hd => exact hd
    rw [partsC, intC] at hd2
    split at hd2
    · rename_i hl
      obtain ⟨xs, hx, he⟩ := Option.map_eq_some_iff.1 hd2
      simp only [Prod.mk.injEq] at he
      obtain ⟨hxs, _⟩ := he
      obtain ⟨h1, h2⟩ := Opens.mapM_get _ _ _ hx
      intro i hi
      obtain ⟨b, hb, hbt⟩ := h2 i i (by rw [List.getElem?_range hi])
      have hc := World.var?_cell hg hvar i
      rw [hc]
      have hmap : (xs.map (·.1))[i]? = some (DataW.lit (.int .i64 (polishTab.getD i 0))) := by
        have : xs.map (·.1) = polishTab.map fun n => DataW.lit (.int .i64 n) := by
          unfold Rows.laid_foretell_polish_parts at hxs
          injection hxs with hxs
        rw [this, List.getElem?_map, List.getElem?_eq_getElem (show i < polishTab.length from hi)]
        simp [List.getD_eq_getElem?_getD, List.getElem?_eq_getElem (show i < polishTab.length from hi)]
      rw [List.getElem?_map, hb] at hmap
      simp only [Option.map_some, Option.some.injEq] at hmap
      obtain ⟨b1, b2⟩ := b
      simp only at hmap
      subst hmap
      have := int_of_trod Tryz.underlying3 hbt
      have hlt : i < cs.toList.length := by omega
      rw [Nat.mul_one, List.drop_eq_getElem_cons hlt, List.take_succ_cons, List.take_zero] at this
      injection this with this _
      rw [Array.getElem?_eq_getElem (by simpa using hlt)]
      simpa using this
    · cases hd2
end Go.Proofs.YtgdijfhdpgdanaaGreatDoor
