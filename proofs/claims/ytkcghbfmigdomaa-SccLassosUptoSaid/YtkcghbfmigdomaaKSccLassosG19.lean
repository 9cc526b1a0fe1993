import Derived.Test.YtkcghbfmigdomaaKSccLassosG8
import Derived.Test.YtkcghbfmigdomaaKSccLassosG14
import Derived.Test.YtkcghbfmigdomaaKSccLassosG2
namespace Go.Proofs.Ytkcghbfmigdomaa.Q
open Go.RowKit Go.Proofs.YtkcghbfmigdomaaW.PrintWords Go.Proofs.YtkcghbfmigdomaaW.PrintLast Go.Proofs.YtkcghbfmigdomaaW.PrintMore
attribute [local go_sem] max2_int min2_int max_two min_two max_three min_three max_four min_four
set_option linter.unusedVariables false
set_option linter.unusedSimpArgs false
section
open Go.Proofs.Ytkcghbfmigdomaa.Hand Go.Proofs.Ytkcghbfmigdomaa.Pure
def kvs (b : List (Int × Int)) : List (Value × Value) := b.map fun p => (.int .i64 p.1, .int .i64 p.2)
theorem kvs_append (a b : List (Int × Int)) : kvs (a ++ b) = kvs a ++ kvs b := List.map_append
theorem wf_small {k : Int} (h0 : -1 ≤ k) (h1 : k < 1000000) : (Lit.int .i64 k).wf = true := by simp [Lit.wf, IntKind.min, IntKind.max, IntKind.signed, IntKind.bits]; omega
theorem kvs_ok {b : List (Int × Int)} (h : ∀ x ∈ keysW b, 0 ≤ x ∧ x < 1000000) : ∀ p ∈ kvs b, ∃ l, keyOf Try.prog 3 p.1 = some l := fun p hp => by
 obtain ⟨s, hs, rfl⟩ := List.mem_map.1 hp
 have := h s.1 (List.mem_map.2 ⟨s, hs, rfl⟩)
 exact ⟨_, Go.Maps.keyOf_int_mk Try.underlying3 (wf_small (by omega) this.2)⟩
theorem kvs_new {b : List (Int × Int)} {k : Int} (h : k ∉ keysW b) : ∀ p ∈ kvs b, p.1 ≠ .int .i64 k := fun p hp e => by
 obtain ⟨s, hs, rfl⟩ := List.mem_map.1 hp
 injection e with _ e
 exact h (List.mem_map.2 ⟨s, hs, e⟩)
theorem backW_mem : ∀ {b : List (Int × Int)}, (keysW b).Nodup → ∀ p ∈ b, backW b p.1 = p.2
 | [], _, p, hp => by cases hp
 | q :: r, hn, p, hp => by
  unfold keysW at hn
  rw [List.map_cons, List.nodup_cons] at hn
  unfold backW
  by_cases e : q.1 = p.1
  ·rw [List.find?_cons, show (q.1 == p.1) = true from by simp [e]]
   rcases List.mem_cons.1 hp with h | h
   ·rw [h]
   ·exact absurd (List.mem_map.2 ⟨p, h, e.symm⟩) hn.1
  ·rw [List.find?_cons, show (q.1 == p.1) = false from by simp [e]]
   rcases List.mem_cons.1 hp with h | h
   ·exact absurd (by rw [h]) e
   ·exact backW_mem hn.2 p h
theorem kvs_val {b : List (Int × Int)} (hn : (keysW b).Nodup) {k : Int} : ∀ p ∈ kvs b, p.1 = .int .i64 k → p.2 = .int .i64 (backW b k) := fun p hp e => by
 obtain ⟨s, hs, rfl⟩ := List.mem_map.1 hp
 injection e with _ e
 subst e
 rw [backW_mem hn s hs]
theorem kvs_in {b : List (Int × Int)} {k : Int} (h : k ∈ keysW b) : ∃ p ∈ kvs b, p.1 = .int .i64 k := by
 obtain ⟨s, hs, rfl⟩ := List.mem_map.1 h
 exact ⟨_, List.mem_map.2 ⟨s, hs, rfl⟩, rfl⟩
theorem zeroI (w : World) : (zeroValue 3).run Try.prog w = .ok (.int .i64 0) w := by kernel_rfl
theorem map_ne {base gm : Nat} {ps : List (Value × Value)} {ok : Nat → Prop} {v : Value} {l : List Int} {w : World} (m : MapIs w gm ps) (o : Kd.R (Kd.int .i64) 3 w base ok v l) : some gm ≠ v.ownBlock := by
 intro e
 obtain ⟨es, clock, h1, _⟩ := m
 obtain ⟨cells, h2⟩ := Kd.R_typed o gm e.symm
 rw [h1] at h2
 cases h2
theorem back_split {nx : Int → List Int} {inside : Int → Bool} {frm : Int → Prop} {b : List (Int × Int)} (h : BackOK nx inside frm b) : ∀ k, k ∈ keysW b → ∃ b1 i c, b = b1 ++ (k, i) :: c ∧ BackOK nx inside frm b1 ∧ backW b k = i ∧ (i = -1 ∨ i ∈ keysW b1) := by
 induction h with
 | nil => intro k hk; simp [keysW] at hk
 | src b x hb hf hx hn ih =>
  intro k hk
  rw [keysW_append, List.mem_append] at hk
  rcases hk with hk | hk
  ·obtain ⟨b1, i, c, e, h1, h2, h3⟩ := ih k hk
   exact ⟨b1, i, c ++ [(x, -1)], by rw [e]; simp, h1, by rw [backW_append _ _ _ hk]; exact h2, h3⟩
  ·have e : k = x := by simpa [keysW] using hk
   subst e
   exact ⟨b, -1, [], rfl, hb, backW_last _ _ _ hn, .inl rfl⟩
 | step b x i hb hi hnx hin hx hn ih =>
  intro k hk
  rw [keysW_append, List.mem_append] at hk
  rcases hk with hk | hk
  ·obtain ⟨b1, i', c, e, h1, h2, h3⟩ := ih k hk
   exact ⟨b1, i', c ++ [(x, i)], by rw [e]; simp, h1, by rw [backW_append _ _ _ hk]; exact h2, h3⟩
  ·have e : k = x := by simpa [keysW] using hk
   subst e
   exact ⟨b, i, [], rfl, hb, backW_last _ _ _ hn, .inr hi⟩
def fromThen (nx : Int → List Int) (inside wanted : Int → Bool) (n : Nat) (frm l : List Int) (b : List (Int × Int)) : Option (List Int) := match fromW wanted l b with
 | (_, some k) => some [k]
 | (b', none) => goW nx inside wanted n b' frm
def rowThen (nx : Int → List Int) (inside wanted : Int → Bool) (n : Nat) (i : Int) (l : List Int) (b : List (Int × Int)) (t : List Int) : Option (List Int) := match rowW inside wanted i l b t with
 | ((b', t'), some k) => some (pathW b' (b'.length + 1) k [])
 | ((b', t'), none) => goW nx inside wanted n b' t'
theorem fromThen_cons (nx : Int → List Int) (inside wanted : Int → Bool) (n : Nat) (frm l : List Int) (b : List (Int × Int)) (k : Int) : fromThen nx inside wanted n frm (k :: l) b = if wanted k = true then some [k] else fromThen nx inside wanted n frm l (b ++ [(k, -1)]) := by
 unfold fromThen
 rw [fromW]
 by_cases c : wanted k = true
 ·rw [if_pos c, if_pos c]
 ·rw [if_neg c, if_neg c]
theorem rowThen_cons (nx : Int → List Int) (inside wanted : Int → Bool) (n : Nat) (i : Int) (l : List Int) (b : List (Int × Int)) (t : List Int) (k : Int) : rowThen nx inside wanted n i (k :: l) b t = if hasW b k = true ∨ inside k = false then rowThen nx inside wanted n i l b t else if wanted k = true then some (pathW (b ++ [(k, i)]) ((b ++ [(k, i)]).length + 1) k []) else rowThen nx inside wanted n i l (b ++ [(k, i)]) (t ++ [k]) := by
 unfold rowThen
 rw [rowW]
 by_cases c : hasW b k = true ∨ inside k = false
 ·rw [if_pos c, if_pos c]
 ·rw [if_neg c, if_neg c]
  by_cases d : wanted k = true
  ·rw [if_pos d, if_pos d]
  ·rw [if_neg d, if_neg d]
structure WIn (nx : Int → List Int) (inside : Int → Bool) (frm : List Int) (base gb gm : Nat) (cs : Array Value) (tv : Value) (b : List (Int × Int)) (t : List Int) (w : World) : Prop where
 bx : w.heap[gb]? = some (.cells cs 43 (0, 0))
 m : MapIs w gm (kvs b)
 o : Win w base tv t
 ok : BackOK nx inside (· ∈ frm) b
theorem WIn.alloc {nx : Int → List Int} {inside : Int → Bool} {frm : List Int} {base gb gm : Nat} {cs : Array Value} {tv : Value} {b : List (Int × Int)} {t : List Int} {w : World} (h : WIn nx inside frm base gb gm cs tv b t w) (o : Obj) : WIn nx inside frm base gb gm cs tv b t (w.alloc o) :=
 ⟨blk_alloc h.bx _, h.m.alloc _, h.o.grown (World.grownBy_alloc w o none) (fun g hg => by simp), h.ok⟩
theorem WIn.below {nx : Int → List Int} {inside : Int → Bool} {frm : List Int} {base gb gm : Nat} {cs : Array Value} {tv : Value} {b : List (Int × Int)} {t : List Int} {w w' : World} (h : WIn nx inside frm base gb gm cs tv b t w) (hb : Below w.heap.size w w') : WIn nx inside frm base gb gm cs tv b t w' :=
 ⟨blk_below h.bx hb, h.m.below hb h.m.lt, h.o.below hb, h.ok⟩
theorem WIn.put {nx : Int → List Int} {inside : Int → Bool} {frm : List Int} {base gb gm : Nat} {cs : Array Value} {tv : Value} {b : List (Int × Int)} {t : List Int} {w w' : World} (h : WIn nx inside frm base gb gm cs tv b t w) (p : Int × Int) (hok : BackOK nx inside (· ∈ frm) (b ++ [p])) (hm : MapIs w' gm (kvs b ++ [(.int .i64 p.1, .int .i64 p.2)])) (hg : w.grownBy w' (some gm)) :
  WIn nx inside frm base gb gm cs tv (b ++ [p]) t w' := by
 refine ⟨blk_grown h.bx hg ?_, by rw [kvs_append]; exact hm, h.o.grown hg ?_, hok⟩
 ·intro e
  injection e with e
  obtain ⟨es, clock, h1, _⟩ := h.m
  have h2 := h.bx
  rw [e, h1] at h2
  cases h2
 ·intro g hg e
  injection e with e
  obtain ⟨es, clock, h1, _⟩ := h.m
  obtain ⟨_, _, cur, h2⟩ := h.o.lt g hg
  rw [e, h1] at h2
  cases h2
theorem WIn.more {nx : Int → List Int} {inside : Int → Bool} {frm : List Int} {base gb gm : Nat} {cs : Array Value} {tv tv' : Value} {b : List (Int × Int)} {t t' : List Int} {w w' : World} (h : WIn nx inside frm base gb gm cs tv b t w) (ho : Win w' base tv' t') (hg : w.grownBy w' tv.ownBlock) : WIn nx inside frm base gb gm cs tv' b t' w' := by
 refine ⟨blk_grown h.bx hg ?_, h.m.kept hg ?_, ho, h.ok⟩
 ·intro e
  obtain ⟨_, _, cur, h2⟩ := h.o.lt gb e.symm
  rw [h.bx] at h2
  injection h2 with h2
  injection h2 with _ h2
  exact absurd h2 (by decide)
 ·intro e
  obtain ⟨es, clock, h1, _⟩ := h.m
  obtain ⟨_, _, cur, h2⟩ := h.o.lt gm e.symm
  rw [h1] at h2
  cases h2
set_option maxHeartbeats 4000000 in
set_option maxRecDepth 100000 in
theorem way_calls (KI KW : Nat) (capI capW : Array Value) (inside wanted : Int → Bool) (n : Nat) (A0 A2 A3 AF : Option Addr) (n0 c0 c2 n3 c3 cF : Nat) (a1 a4 : Int) (next : List (List Int)) (frm r : List Int) (w : World)
  (hKI : ∀ args W, (callFunc KI args).run Try.prog W = .ok (.enter KI args) W) (hKW : ∀ args W, (callFunc KW args).run Try.prog W = .ok (.enter KW args) W)
  (hI : ∀ W, Below w.heap.size w W → ∀ i : Int, 0 ≤ i → i < (n : Int) → Calls Try.prog KI (#[.int .i64 i] ++ capI) W fun e W' => e = .returned (.bool (inside i)) ∧ Below W.heap.size W W')
  (hW : ∀ W, Below w.heap.size w W → ∀ i : Int, 0 ≤ i → i < (n : Int) → Calls Try.prog KW (#[.int .i64 i] ++ capW) W fun e W' => e = .returned (.bool (wanted i)) ∧ Below W.heap.size W W')
  (hC : Kd.C (Kd.slice 3 (Kd.int .i64)) w A2 next.length next) (hc2 : next.length ≤ c2) (hF : Kd.C (Kd.int .i64) w AF frm.length frm) (hcF : frm.length ≤ cF)
  (hn : next.length = n) (hn2 : n ≤ 1000000) (hx : ∀ a, 0 ≤ a → a < (n : Int) → ∀ k ∈ zAE next a, 0 ≤ k ∧ k < (n : Int)) (hf : ∀ x ∈ frm, 0 ≤ x ∧ x < (n : Int)) (hd : frm.Nodup)
  (h : wayW (fun i => zAE next i) inside wanted (n + 1) frm = some r) :
  Calls Try.prog 13 #[.agg #[.slice A0 n0 c0, .int .i64 a1, .slice A2 next.length c2, .slice A3 n3 c3, .int .i64 a4], .slice AF frm.length cF, .func (.func KI) #[] capI, .func (.func KW) #[] capW] w fun e w' => ∃ v, e = .returned v ∧ Kd.R (Kd.int .i64) 3 w' w.heap.size (fun _ => True) v r ∧ r.length ≤ n + 1 ∧ Below w.heap.size w w' := by
 have HKI := Aside0.mk hKI
 have HKW := Aside0.mk hKW
 have HI := Aside0.mk hI
 have HW := Aside0.mk hW
 have HC := Aside0.mk hC
 have HC2 := Aside0.mk hc2
 have HF := Aside0.mk hF
 have HCF := Aside0.mk hcF
 have HN := Aside0.mk (And.intro hn hn2)
 have HX := Aside0.mk hx
 have HFr := Aside0.mk (And.intro hf hd)
 have HFl := Aside0.mk (show frm.length ≤ n from nodup_len hd hf)
 have hu1 := Try.underlying43
 have hu2 := Try.underlying26
 have HB := Aside0.mk (Below.refl w.heap.size w)
 have HH := Aside0.mk (show fromThen (fun i => zAE next i) inside wanted (n + 1) frm frm [] = some r from h)
 clear hKI hKW hI hW hC hc2 hF hcF hn hn2 hx hf hd h
 go_enter Try.func13, Try.ntmps13
 go_wp2_with (first | ((with_reducible refine gate_dst (N := 4) rfl ?_); refine box_event ?hg (N := 4) ?hd (cs := #[.slice A0 n0 c0, .int .i64 a1, .slice A2 next.length c2, .slice A3 n3 c3, .int .i64 a4]) (t := 43) ?hr ?_; (case hd => rfl); (case hg => rfl); (case hr => first | (go_simp; done) | (go_simp; rfl)); intro gb hg w3 hbox hb; have BK := Aside0.mk hbox; replace HB := Aside0.mk (below_step HB.out hb); clear hb hbox hg))
 rw [run_makeMap]
 go_simp
 have HM := Aside0.mk (MapIs.made w3)
 have HGM := Aside0.mk HB.out.size
 replace BK := Aside0.mk (blk_alloc BK.out (.map #[] 0))
 replace HB := Aside0.mk (below_alloc HB.out (.map #[] 0))
 obtain ⟨w5, hw5⟩ : ∃ w5, w5 = w3.alloc (.map #[] 0) := ⟨_, rfl⟩
 obtain ⟨gm, hgm⟩ : ∃ gm, gm = w3.heap.size := ⟨_, rfl⟩
 rw [← hw5] at HM BK HB ⊢
 rw [← hgm] at HM HGM ⊢
 clear hw5 hgm
 go_wp2_with ((with_reducible refine gate_builtin (b := .append) (xs := #[.const (.slice none 0 0), .tmp 20]) rfl ?_); at_builtin; refine Kd.R_append_rows (Kd.int .i64) (w0 := w) w.heap.size rfl (.const (.slice none 0 0)) (.tmp 20) 24 3 (.int .i64 0) 8 rfl Try.underlying24 info3 rfl (by decide) (by omega) (.slice none 0 0) ([] : List Int) frm _ _ _ (fun _ => True) (fun _ => False) rfl rfl ?aO ?aR (fun _ _ h => h) (fun _ h => h.elim) ?aF ?aB ?aS ?aL ?_; (case aR => exact Kd.C_below HF.out HB.out); (case aB => exact HB.out); (case aF => exact (fun _ _ => trivial)); (case aO => exact (Kd.R_nil _ _ _ _ (fun _ => True))); (case aS => exact HB.out.size); (case aL => have := HFl.out; have := HN.out; simp only [List.length_nil]; omega); intro tv w6 ho hb hg hat; rw [List.nil_append] at ho; have HO := Aside0.mk ho; replace BK := Aside0.mk (blk_grown BK.out hg (by simp [Value.ownBlock])); replace HM := Aside0.mk (HM.out.kept hg (by simp [Value.ownBlock])); replace HB := Aside0.mk hb; clear ho hb hg hat)
 have HR := Aside0.mk (show WIn (fun i => zAE next i) inside frm w.heap.size gb gm _ tv [] frm w6 from ⟨BK.out, HM.out, Win.of_R HO.out, .nil⟩)
 clear HM BK HO
 go_loopg [24] (frm.length + 1) (fun kq v24 w' => ∃ (j : Nat) (b : List (Int × Int)), v24 = .int .i64 (j : Int) ∧ Aside0 (kq + j = frm.length + 1 ∧ j ≤ frm.length) ∧ Aside0 (fromThen (fun i => zAE next i) inside wanted (n + 1) frm (frm.drop j) b = some r) ∧ Aside0 (keysW b = frm.take j) ∧ Aside0 (WIn (fun i => zAE next i) inside frm w.heap.size gb gm #[.slice A0 n0 c0, .int .i64 a1, .slice A2 next.length c2, .slice A3 n3 c3, .int .i64 a4] tv b frm w') ∧ Aside0 (Below w.heap.size w w'))
 case atStart => exact ⟨0, [], rfl, ⟨by omega⟩, HH, ⟨by simp [keysW]⟩, HR, HB⟩
 case round =>
  clear HR HB HH
  obtain ⟨j, b, rfl, HJ, HH, HK, HR, HB⟩ := hrel
  cases gk with
  | zero => exact absurd HJ.out (by omega)
  | succ k1 =>
  by_cases hlt : j < frm.length
  ·have hd : decide ((j : Int) < (frm.length : Int)) = true := decide_eq_true (by omega)
   have hd2 : decide (j < frm.length) = true := decide_eq_true hlt
   have hq : ((j : Int) < (frm.length : Int)) = True := eq_true (by omega)
   have hq2 : (j < frm.length) = True := eq_true hlt
   have hp : (0 ≤ (j : Int)) = True := eq_true (by omega)
   have e1 : IntKind.i64.wrap ((j : Int) + 1) = ((j + 1 : Nat) : Int) := by rw [IntKind.wrap_i64]; have := HFl.out; have := HN.out; omega
   obtain ⟨ad, ead, hx⟩ := Kd.at_int (Kd.C_below HF.out HB.out) (j : Int) (by omega) (by omega)
   subst ead
   rw [Int.toNat_natCast] at hx
   have hX : rd frm (j : Int) = frm[j] := by unfold rd; simp [hlt]
   have hh := HH.out
   rw [List.drop_eq_getElem_cons hlt, fromThen_cons, ← hX] at hh
   have hXm : rd frm (j : Int) ∈ frm := by rw [hX]; exact List.getElem_mem hlt
   have hXr := HFr.out.1 _ hXm
   have hnew : rd frm (j : Int) ∉ keysW b := by
    rw [HK.out, hX]
    intro hm
    obtain ⟨i, hi, e⟩ := List.mem_take_iff_getElem.1 hm
    exact (List.pairwise_iff_getElem.1 HFr.out.2 i j (by omega) hlt (by omega)) e
   have HXm := Aside0.mk (And.intro hXm (And.intro hXr hnew))
   have HK2 := Aside0.mk (show keysW (b ++ [(rd frm (j : Int), -1)]) = frm.take (j + 1) by rw [keysW_append, HK.out, List.take_succ_eq_append_getElem hlt, hX]; rfl)
   have HLT := Aside0.mk hlt
   clear hX hXm hXr hnew hlt HH HK
   generalize hXX : rd frm (j : Int) = X at hh hx HXm HK2
   have HWX := Aside0.mk (wf_small (k := X) (by have := HXm.out.2.1.1; omega) (by have := HXm.out.2.1; have := HN.out; omega))
   have HR6 := Aside0.mk (kvs_ok (b := b) fun x hx => by have := BackOK.range HFr.out.1 HX.out HR.out.ok x hx; have := HN.out; omega)
   go_upto_region 7 with (refine wpList_mapPut_is _ rfl (.tmp 28) (.tmp 29) (.const (.int .i64 (-1))) 60 rfl 3 3 (Go.Maps.int_keyed Try.underlying3) Try.underlying60 gm _ rfl HR.out.m (.int .i64 X) (.int .i64 (-1)) (.int .i64 X) rfl rfl (Go.Maps.keyOf_int_mk Try.underlying3 HWX.out) HR6.out (kvs_new HXm.out.2.2) ?_; intro w4 hm4 hg4; replace HR := Aside0.mk (HR.out.put (X, -1) (.src b X HR.out.ok HXm.out.1 HXm.out.2.1.1 HXm.out.2.2) hm4 hg4); replace HB := Aside0.mk (HB.out.grown hg4 HB.out.size (fun k hk => by injection hk with hk; rw [← hk]; exact HGM.out)); clear hm4 hg4)
   have HHI := Aside0.mk (HW.out w4 HB.out X HXm.out.2.1.1 HXm.out.2.1.2)
   clear hd hd2 hq hq2 hp hx HR6
   go_wp2_with fail
   rw [HKW.out, Oper.upon_enter]
   refine HHI.out.mono ?_
   rintro e w5 ⟨rfl, hbe⟩
   replace HR := Aside0.mk (HR.out.below hbe)
   replace HB := Aside0.mk (below_step HB.out hbe)
   clear hbe
   clear HHI
   by_cases hw : wanted X = true
   ·rw [if_pos hw] at hh
    injection hh with hh
    subst hh
    rw [hw]
    go_wp2_with ((with_reducible refine gate_dst (N := 34) rfl ?_); refine Kd.R_lit (Kd.int .i64) _ 3 ?hg (N := 34) ?hd (xs := ([X] : List Int)) (inner := [.int .i64 X]) (ok := fun _ => True) (okp := fun _ => True) ?hr ?hp (fun _ hk => hk) trivial (Below.refl _ _) (Nat.le_refl _) (by simp) ?_; (case hd => rfl); (case hg => rfl); (case hr => first | (go_simp; done) | (go_simp; rfl)); (case hp => exact (Reps.one (show Kd.M (Kd.int .i64) _ _ _ X [.int .i64 X] from rfl) (Reps.none _ _))); intro v7 w7 ho7 hb7 hg7 hn7; have HO := Aside0.mk (Kd.R_lower ho7 HB.out.size); replace HB := Aside0.mk (below_step HB.out hb7); clear ho7 hb7 hg7 hn7)
    go_ret
    exact ⟨_, rfl, HO.out, by simp, HB.out⟩
   ·rw [if_neg hw] at hh
    have hwf : wanted X = false := Bool.eq_false_iff.2 hw
    rw [hwf]
    go_wp2_with fail
    go_roundg k1
    case measure => have := HJ.out; have := HLT.out; omega
    case rel => exact ⟨j + 1, b ++ [(X, -1)], rfl, ⟨by have := HJ.out; have := HLT.out; omega⟩, ⟨hh⟩, HK2, HR, HB⟩
  ·have hd : decide ((j : Int) < (frm.length : Int)) = false := decide_eq_false (by omega)
   have hd2 : decide (j < frm.length) = false := decide_eq_false hlt
   have hh := HH.out
   have hk := HK.out
   rw [List.drop_of_length_le (by omega)] at hh
   rw [List.take_of_length_le (by omega)] at hk
   have HG := Aside0.mk (show goW (fun i => zAE next i) inside wanted (n + 1) b frm = some r from hh)
   have HK0 := Aside0.mk (show (∀ x ∈ frm, x ∈ keysW b) ∧ frm.length ≤ b.length from ⟨fun x hx => by rw [hk]; exact hx, by rw [← hk]; unfold keysW; rw [List.length_map]; exact Nat.le_refl _⟩)
   clear hh hk hlt HH HK HJ
   go_wp2_with fail
   go_loopg [10] (n + 1) (fun kq tv w' => ∃ (b : List (Int × Int)) (t : List Int), Aside0 (goW (fun i => zAE next i) inside wanted kq b t = some r) ∧ Aside0 ((∀ x ∈ t, x ∈ keysW b) ∧ t.length ≤ b.length) ∧ Aside0 (WIn (fun i => zAE next i) inside frm w.heap.size gb gm #[.slice A0 n0 c0, .int .i64 a1, .slice A2 next.length c2, .slice A3 n3 c3, .int .i64 a4] tv b t w') ∧ Aside0 (Below w.heap.size w w'))
   case atStart => exact ⟨b, frm, HG, HK0, HR, HB⟩
   case round =>
    clear HR HB HG HK0
    obtain ⟨b, t, HG, HT, HR, HB⟩ := hrel
    cases gk with
    | zero => exact absurd HG.out (by simp [goW])
    | succ k2 =>
    cases t with
    | nil =>
     have hh := HG.out
     rw [goW] at hh
     injection hh with hh
     subst hh
     rcases HR.out.o with ⟨_, e⟩ | ⟨g, off, cap, cur, e, _⟩
     ·subst e
      clear hd hd2 HG HT HR
      go_wp2_with fail
      go_ret
      first | exact ⟨_, rfl, Kd.R_nil _ _ _ _ _, HB.out⟩ | exact ⟨_, rfl, Kd.R_nil _ _ _ _ _, by simp, HB.out⟩
     ·subst e
      clear hd hd2 HG HT HR
      go_wp2_with fail
      go_ret
      first | exact ⟨_, rfl, Kd.R_nil _ _ _ _ _, HB.out⟩ | exact ⟨_, rfl, Kd.R_nil _ _ _ _ _, by simp, HB.out⟩
    | cons i t =>
     obtain ⟨g, off, cap, v2, e, hx, hcut, ho2⟩ := HR.out.o.head
     subst e
     have hib := HT.out.1 i (by simp)
     have hir := BackOK.range HFr.out.1 HX.out HR.out.ok i hib
     have hq : decide (((t.length + 1 : Nat) : Int) > 0) = true := decide_eq_true (by omega)
     have hq1 : decide (((t.length : Int) + 1) > 0) = true := decide_eq_true (by omega)
     have hq2 : decide (t.length + 1 > 0) = true := decide_eq_true (by omega)
     have p0 : (0 ≤ i) = True := eq_true hir.1
     have q0 : (i < (next.length : Int)) = True := eq_true (by have := HN.out.1; omega)
     obtain ⟨adN, AN, cN, eN, hxN, hlN, hiN⟩ := zAW HC.out i hir.1 (by have := HN.out.1; omega)
     subst eN
     replace hxN := (HB.out.cell (World.block_lt_of_cell? w _ hxN)).trans hxN
     have z2 : wr.cell? ⟨gb, 2, none⟩ = some (.slice (some adN) next.length c2) := (blk_cell HR.out.bx 2).trans rfl
     have HH2 := Aside0.mk (show rowThen (fun i => zAE next i) inside wanted k2 i (zAE next i) b t = some r from HG.out)
     have HT2 := Aside0.mk (show (∀ x ∈ t, x ∈ keysW b) ∧ t.length ≤ b.length from ⟨fun x hx => HT.out.1 x (by simp [hx]), by have := HT.out.2; rw [List.length_cons] at this; omega⟩)
     have HIB := Aside0.mk hib
     have HLN := Aside0.mk hlN
     have HIN := Aside0.mk hiN
     have HR2 := Aside0.mk (show WIn (fun i => zAE next i) inside frm w.heap.size gb gm #[.slice A0 n0 c0, .int .i64 a1, .slice (some adN) next.length c2, .slice A3 n3 c3, .int .i64 a4] v2 b t wr from ⟨HR.out.bx, HR.out.m, ho2, HR.out.ok⟩)
     clear hd hd2 HG HT HR ho2 hib hir hlN hiN
     go_wp2_with fail
     clear hx hcut hq hq1 hq2 p0 q0 hxN z2
     obtain ⟨row, hrow⟩ : ∃ row, row = zAE next i := ⟨_, rfl⟩
     have HRow := Aside0.mk (show ∀ k ∈ row, (0 ≤ k ∧ k < (n : Int)) ∧ k ∈ zAE next i from fun k hk => by
      rw [hrow] at hk
      have hir := BackOK.range HFr.out.1 HX.out HR2.out.ok i HIB.out
      exact ⟨HX.out i hir.1 hir.2 k hk, hk⟩)
     rw [← hrow] at HH2 HLN HIN ⊢
     clear hrow
     have HRL := Aside0.mk (Kd.C_max HIN.out)
     go_loopg [10, 51] (row.length + 1) (fun kq tv v51 w' => ∃ (j : Nat) (b : List (Int × Int)) (t : List Int), v51 = .int .i64 (j : Int) ∧ Aside0 (kq + j = row.length + 1 ∧ j ≤ row.length) ∧ Aside0 (rowThen (fun i => zAE next i) inside wanted k2 i (row.drop j) b t = some r) ∧ Aside0 (i ∈ keysW b) ∧ Aside0 ((∀ x ∈ t, x ∈ keysW b) ∧ t.length ≤ b.length) ∧ Aside0 (WIn (fun i => zAE next i) inside frm w.heap.size gb gm #[.slice A0 n0 c0, .int .i64 a1, .slice (some adN) next.length c2, .slice A3 n3 c3, .int .i64 a4] tv b t w') ∧ Aside0 (Below w.heap.size w w'))
     case atStart => exact ⟨0, b, t, rfl, ⟨by omega⟩, HH2, HIB, HT2, HR2, HB⟩
     case round =>
      clear HH2 HIB HT2 HR2 HB
      obtain ⟨j, b, t, rfl, HJ, HH, HIB, HT, HR, HB⟩ := hrel
      cases gk with
      | zero => exact absurd HJ.out (by omega)
      | succ k3 =>
      by_cases hlt : j < row.length
      case neg =>
       have hd : decide ((j : Int) < (row.length : Int)) = false := decide_eq_false (by omega)
       have hd2 : decide (j < row.length) = false := decide_eq_false hlt
       have hh := HH.out
       rw [List.drop_of_length_le (by omega)] at hh
       have HG := Aside0.mk (show goW (fun i => zAE next i) inside wanted k2 b t = some r from hh)
       clear hh hlt HH HJ HIB
       go_wp2_with fail
       go_roundg k2
       case measure => omega
       case rel => exact ⟨b, t, HG, HT, HR, HB⟩
      have hd : decide ((j : Int) < (row.length : Int)) = true := decide_eq_true (by omega)
      have hd2 : decide (j < row.length) = true := decide_eq_true hlt
      have hq : ((j : Int) < (row.length : Int)) = True := eq_true (by omega)
      have hq2 : (j < row.length) = True := eq_true hlt
      have hp : (0 ≤ (j : Int)) = True := eq_true (by omega)
      have e1 : IntKind.i64.wrap ((j : Int) + 1) = ((j + 1 : Nat) : Int) := by rw [IntKind.wrap_i64]; have := HRL.out; omega
      obtain ⟨adR, eR, hx⟩ := Kd.at_int (Kd.C_below HIN.out HB.out) (j : Int) (by omega) (by omega)
      subst eR
      rw [Int.toNat_natCast] at hx
      have hX : rd row (j : Int) = row[j] := by unfold rd; simp [hlt]
      have hh := HH.out
      rw [List.drop_eq_getElem_cons hlt, rowThen_cons, ← hX] at hh
      have HXm := Aside0.mk (show (0 ≤ rd row (j : Int) ∧ rd row (j : Int) < (n : Int)) ∧ rd row (j : Int) ∈ zAE next i by rw [hX]; exact HRow.out _ (List.getElem_mem hlt))
      have HLT := Aside0.mk hlt
      clear hX hlt HH
      generalize hXX : rd row (j : Int) = X at hh hx HXm
      clear hXX
      have HWX := Aside0.mk (wf_small (k := X) (by have := HXm.out.1.1; omega) (by have := HXm.out.1; have := HN.out; omega))
      have HR6 := Aside0.mk (kvs_ok (b := b) fun x hx => by have := BackOK.range HFr.out.1 HX.out HR.out.ok x hx; have := HN.out; omega)
      have HJ2 := Aside0.mk (show k3 + (j + 1) = row.length + 1 ∧ j + 1 ≤ row.length by have := HJ.out; have := HLT.out; omega)
      clear HJ
      by_cases hin : hasW b X = true
      ·rw [if_pos (.inl hin)] at hh
       have hk := (hasW_iff b X).1 hin
       have hlook := MapIs.look_some HR.out.m (Go.Maps.int_keyed Try.underlying3) Try.underlying60 HR6.out (key := .int .i64 X) (v := .int .i64 (backW b X)) (Go.Maps.keyOf_int_mk Try.underlying3 HWX.out) true (kvs_val HR.out.ok.nodup) (kvs_in hk)
       simp only [if_true] at hlook
       have HH := Aside0.mk hh
       clear hk hin hh
       go_wp2_with fail
       go_roundg k3
       case measure => have := HJ2.out; omega
       case rel => exact ⟨j + 1, b, t, rfl, HJ2, HH, HIB, HT, HR, HB⟩
      have hnk : X ∉ keysW b := fun h => hin ((hasW_iff b X).2 h)
      have hlook := MapIs.look_none HR.out.m (Go.Maps.int_keyed Try.underlying3) Try.underlying60 HR6.out (zeroI wr) (key := .int .i64 X) (Go.Maps.keyOf_int_mk Try.underlying3 HWX.out) true (kvs_new hnk)
      simp only [if_true] at hlook
      have HHI := Aside0.mk (HI.out wr HB.out X HXm.out.1.1 HXm.out.1.2)
      go_wp2_with fail
      rw [HKI.out, Oper.upon_enter]
      refine HHI.out.mono ?_
      rintro e w5 ⟨rfl, hbe⟩
      replace HR := Aside0.mk (HR.out.below hbe)
      replace HB := Aside0.mk (below_step HB.out hbe)
      clear hbe
      clear HHI hlook
      by_cases hi : inside X = false
      ·rw [if_pos (.inr hi)] at hh
       have HH := Aside0.mk hh
       rw [hi]
       clear hin hnk hh hx
       go_wp2_with fail
       go_roundg k3
       case measure => have := HJ2.out; omega
       case rel => exact ⟨j + 1, b, t, rfl, HJ2, HH, HIB, HT, HR, HB⟩
      have hit : inside X = true := by cases hk : inside X with
       | true => rfl
       | false => exact absurd hk hi
      rw [if_neg (fun h => h.elim hin hi)] at hh
      rw [hit]
      have HBK := Aside0.mk (BackOK.step b X i HR.out.ok HIB.out HXm.out.2 hit HXm.out.1.1 hnk)
      have HNK := Aside0.mk hnk
      have HLen := Aside0.mk (show b.length ≤ n by
       have := nodup_len HR.out.ok.nodup (BackOK.range HFr.out.1 HX.out HR.out.ok)
       unfold keysW at this
       rwa [List.length_map] at this)
      clear hin hnk hi hx
      go_upto_region 18 with fail
      go_upto_region 19 with (refine wpList_mapPut_is _ rfl (.tmp 68) (.tmp 69) (.tmp 70) 60 rfl 3 3 (Go.Maps.int_keyed Try.underlying3) Try.underlying60 gm _ rfl HR.out.m (.int .i64 X) (.int .i64 i) (.int .i64 X) rfl rfl (Go.Maps.keyOf_int_mk Try.underlying3 HWX.out) HR6.out (kvs_new HNK.out) ?_; intro w4 hm4 hg4; replace HR := Aside0.mk (HR.out.put (X, i) HBK.out hm4 hg4); replace HB := Aside0.mk (HB.out.grown hg4 HB.out.size (fun k hk => by injection hk with hk; rw [← hk]; exact HGM.out)); clear hm4 hg4)
      go_upto_region 20 with ((with_reducible refine gate_builtin (b := .append) (xs := #[.tmp 71, .tmp 73]) rfl ?_); at_builtin; refine wpList_append_win rfl (.tmp 71) (.tmp 73) rfl w.heap.size _ t X rfl rfl HR.out.o HB.out.size ?hl ?_; (case hl => have := HLen.out; have := HT.out.2; have := HN.out; omega); intro tv2 w6 ho hg hat; replace HB := Aside0.mk (HB.out.grown hg HB.out.size (fun k hk => (HR.out.o.lt k hk).1)); replace HR := Aside0.mk (HR.out.more ho hg); clear ho hg hat)
      have HT2 := Aside0.mk (show (∀ x ∈ t ++ [X], x ∈ keysW (b ++ [(X, i)])) ∧ (t ++ [X]).length ≤ (b ++ [(X, i)]).length from ⟨fun x hx => by
       rw [keysW_append, List.mem_append]
       rcases List.mem_append.1 hx with h | h
       ·exact .inl (HT.out.1 x h)
       ·exact .inr (by simpa [keysW] using h), by have := HT.out.2; simp only [List.length_append, List.length_singleton]; omega⟩)
      have HIB2 := Aside0.mk (show i ∈ keysW (b ++ [(X, i)]) by rw [keysW_append]; exact List.mem_append.2 (.inl HIB.out))
      have HK2 := Aside0.mk (show X ∈ keysW (b ++ [(X, i)]) by rw [keysW_append]; exact List.mem_append.2 (.inr (by simp [keysW])))
      have HLen2 := Aside0.mk (show (b ++ [(X, i)]).length ≤ n by
       have := nodup_len HR.out.ok.nodup (BackOK.range HFr.out.1 HX.out HR.out.ok)
       unfold keysW at this
       rwa [List.length_map] at this)
      clear HT HIB HBK HNK HLen HR6
      have HHI := Aside0.mk (HW.out w6 HB.out X HXm.out.1.1 HXm.out.1.2)
      go_wp2_with fail
      rw [HKW.out, Oper.upon_enter]
      refine HHI.out.mono ?_
      rintro e w5 ⟨rfl, hbe⟩
      replace HR := Aside0.mk (HR.out.below hbe)
      replace HB := Aside0.mk (below_step HB.out hbe)
      clear hbe
      clear HHI
      by_cases hw : wanted X = true
      case neg =>
       rw [if_neg hw] at hh
       have hwf : wanted X = false := Bool.eq_false_iff.2 hw
       rw [hwf]
       have HH := Aside0.mk hh
       clear hh hw
       go_wp2_with fail
       go_roundg k3
       case measure => have := HJ2.out; omega
       case rel => exact ⟨j + 1, b ++ [(X, i)], t ++ [X], rfl, HJ2, HH, HIB2, HT2, HR, HB⟩
      rw [if_pos hw] at hh
      injection hh with hh
      rw [hw]
      generalize b ++ [(X, i)] = b at hh HIB2 HT2 HK2 HLen2 HR
      have HH := Aside0.mk hh
      have HM := Aside0.mk HR.out.m
      have HOK := Aside0.mk HR.out.ok
      clear hh hw HIB2 HT2 HR
      go_wp2_with fail
      go_loopg [15, 18] (b.length + 1) (fun kq v15 v18 w' => ∃ (k : Int) (l : List Int), v15 = .int .i64 k ∧ Aside0 (pathW b kq k l = r) ∧ Aside0 (-1 ≤ k ∧ k < (n : Int)) ∧ Aside0 (0 ≤ k → ∃ b1 c, b = b1 ++ c ∧ BackOK (fun i => zAE next i) inside (· ∈ frm) b1 ∧ k ∈ keysW b1 ∧ b1.length + 1 ≤ kq) ∧ Aside0 (l.length + kq ≤ b.length + 1) ∧ Aside0 (Kd.R (Kd.int .i64) 3 w' w.heap.size (fun _ => True) v18 l) ∧ Aside0 (MapIs w' gm (kvs b)) ∧ Aside0 (Below w.heap.size w w'))
      case atStart => exact ⟨X, [], rfl, HH, ⟨by have := HXm.out.1; omega⟩, ⟨fun _ => ⟨b, [], by simp, HOK.out, HK2.out, Nat.le_refl _⟩⟩, ⟨by simp⟩, ⟨Kd.R_nil _ _ _ _ _⟩, HM, HB⟩
      case round =>
       clear HH HM HB HK2 HXm HWX HJ2
       obtain ⟨k, l, rfl, HH, HKr, HS, HLl, HO, HM, HB⟩ := hrel
       by_cases hk : 0 ≤ k
       case neg =>
        have hd : decide (k ≥ 0) = false := decide_eq_false (by omega)
        have hr : l = r := by
         have := HH.out
         cases gk with
         | zero => exact this
         | succ m => rw [pathW, if_neg hk] at this; exact this
        subst hr
        clear hk
        go_wp2_with fail
        go_ret
        exact ⟨_, rfl, HO.out, by have := HLl.out; have := HLen2.out; omega, HB.out⟩
       have hd : decide (k ≥ 0) = true := decide_eq_true hk
       obtain ⟨b1, c, hb1, ok1, hk1, hl1⟩ := HS.out hk
       cases gk with
       | zero => omega
       | succ k4 =>
       obtain ⟨b2, i2, c2', e2, ok2, hv2, hi2⟩ := back_split ok1 k hk1
       have hkb : k ∈ keysW b := by rw [hb1, keysW_append]; exact List.mem_append.2 (.inl hk1)
       have hbw : backW b k = i2 := by rw [hb1, backW_append _ _ _ hk1]; exact hv2
       have hh := HH.out
       rw [pathW, if_pos hk, hbw] at hh
       have HH2 := Aside0.mk hh
       have HLook := Aside0.mk (fun (W : World) (hm : MapIs W gm (kvs b)) => MapIs.look_some hm (Go.Maps.int_keyed Try.underlying3) Try.underlying60 (kvs_ok (b := b) fun x hx => by have := BackOK.range HFr.out.1 HX.out HOK.out x hx; have := HN.out; omega) (key := .int .i64 k) (v := .int .i64 i2) (Go.Maps.keyOf_int_mk Try.underlying3 (wf_small (by omega) (by have := HKr.out; have := HN.out; omega))) false (by rw [← hbw]; exact kvs_val HOK.out.nodup) (kvs_in hkb))
       have HKr2 := Aside0.mk (show -1 ≤ i2 ∧ i2 < (n : Int) from by
        rcases hi2 with h | h
        ·omega
        ·have := BackOK.range HFr.out.1 HX.out ok2 i2 h; omega)
       have HS2 := Aside0.mk (show 0 ≤ i2 → ∃ b1 c, b = b1 ++ c ∧ BackOK (fun i => zAE next i) inside (· ∈ frm) b1 ∧ i2 ∈ keysW b1 ∧ b1.length + 1 ≤ k4 from fun h0 => by
        refine ⟨b2, (k, i2) :: c2' ++ c, by rw [hb1, e2, List.append_assoc], ok2, hi2.resolve_left (by omega), ?_⟩
        rw [e2, List.length_append, List.length_cons] at hl1
        omega)
       have HLl2 := Aside0.mk (show (k :: l).length + k4 ≤ b.length + 1 by have := HLl.out; rw [List.length_cons]; omega)
       obtain ⟨A8, c8, e8⟩ := Kd.R_slice HO.out
       subst e8
       clear hb1 ok1 hk1 hl1 e2 ok2 hv2 hi2 hkb hbw hh hk HH HKr HS HLl
       go_upto_region 23 with (first | ((with_reducible refine gate_dst (N := 84) rfl ?_); refine Kd.R_lit (Kd.int .i64) _ 3 ?hg (N := 84) ?hd (xs := ([k] : List Int)) (inner := [.int .i64 k]) (ok := fun _ => True) (okp := fun _ => True) ?hr ?hp (fun _ hk => hk) trivial (Below.refl _ _) (Nat.le_refl _) (by simp) ?_; (case hd => rfl); (case hg => rfl); (case hr => first | (go_simp; done) | (go_simp; rfl)); (case hp => exact (Reps.one (show Kd.M (Kd.int .i64) _ _ _ k [.int .i64 k] from rfl) (Reps.none _ _))); intro v7 w7 ho7 hb7 hg7 hn7; replace HO := Aside0.mk (Kd.R_below HO.out hb7); have HO7 := Aside0.mk (Kd.R_lower ho7 HB.out.size); replace HM := Aside0.mk (HM.out.below hb7 HM.out.lt); replace HB := Aside0.mk (below_step HB.out hb7); clear ho7 hb7 hg7 hn7) | ((with_reducible refine gate_builtin (b := .append) (xs := #[.tmp 84, .tmp 85]) rfl ?_); at_builtin; refine Kd.R_append_rows (Kd.int .i64) (w0 := w) w.heap.size rfl (.tmp 84) (.tmp 85) 24 3 (.int .i64 0) 8 rfl Try.underlying24 info3 rfl (by decide) (by omega) v7 ([k] : List Int) l _ _ _ (fun _ => True) (fun _ => False) rfl rfl ?aO ?aR (fun _ _ h => h) (fun _ h => h.elim) ?aF ?aB ?aS ?aL ?_; (case aR => have h := (Kd.R_reads' HO.out).2.2; exact h); (case aB => exact HB.out); (case aF => exact (fun _ _ => trivial)); (case aO => exact HO7.out); (case aS => exact HB.out.size); (case aL => have h1 := HLl2.out; rw [List.length_cons] at h1; have := HLen2.out; have := HN.out; simp only [List.length_singleton]; omega); intro v9 w9 ho hb hg hat; have HO9 := Aside0.mk ho; replace HM := Aside0.mk (HM.out.kept hg (map_ne HM.out HO7.out)); replace HB := Aside0.mk hb; clear ho hb hg hat HO HO7))
       have hlook := HLook.out w9 HM.out
       simp only [if_false, Bool.false_eq_true] at hlook
       go_wp2_with fail
       go_roundg k4
       case measure => omega
       case rel => exact ⟨i2, k :: l, rfl, HH2, HKr2, HS2, HLl2, HO9, HM, HB⟩
end
end Go.Proofs.Ytkcghbfmigdomaa.Q
