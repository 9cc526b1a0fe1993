import Derived.Test.YtkcghbfmigdomaaKSccLassosG6
-- Cut by a program of this session (wip/prune.py) from a longer text: declarations that the law does not need are left out.
namespace Go.Proofs.Ytkcghbfmigdomaa.Pure
set_option linter.unusedVariables false
def keysW (b : List (Int × Int)) : List Int := b.map (·.1)
def backW (b : List (Int × Int)) (k : Int) : Int := match b.find? (fun p => p.1 == k) with | some p => p.2 | none => 0
def hasW (b : List (Int × Int)) (k : Int) : Bool := b.any (fun p => p.1 == k)
def rowW (inside wanted : Int → Bool) (i : Int) : List Int → List (Int × Int) → List Int → (List (Int × Int) × List Int) × Option Int
 | [], b, t => ((b, t), none)
 | k :: r, b, t => if hasW b k = true ∨ inside k = false then rowW inside wanted i r b t else if wanted k = true then ((b ++ [(k, i)], t ++ [k]), some k) else rowW inside wanted i r (b ++ [(k, i)]) (t ++ [k])
def pathW (b : List (Int × Int)) : Nat → Int → List Int → List Int
 | 0, _, l => l
 | n + 1, k, l => if 0 ≤ k then pathW b n (backW b k) (k :: l) else l
def goW (nx : Int → List Int) (inside wanted : Int → Bool) : Nat → List (Int × Int) → List Int → Option (List Int)
 | 0, _, _ => none
 | n + 1, b, [] => some []
 | n + 1, b, i :: t => match rowW inside wanted i (nx i) b t with
  | ((b', t'), some k) => some (pathW b' (b'.length + 1) k [])
  | ((b', t'), none) => goW nx inside wanted n b' t'
def fromW (wanted : Int → Bool) : List Int → List (Int × Int) → List (Int × Int) × Option Int
 | [], b => (b, none)
 | k :: r, b => if wanted k = true then (b ++ [(k, -1)], some k) else fromW wanted r (b ++ [(k, -1)])
def wayW (nx : Int → List Int) (inside wanted : Int → Bool) (n : Nat) (frm : List Int) : Option (List Int) := match fromW wanted frm [] with
 | (_, some k) => some [k]
 | (b, none) => goW nx inside wanted n b frm
inductive BackOK (nx : Int → List Int) (inside : Int → Bool) (frm : Int → Prop) : List (Int × Int) → Prop
 | nil : BackOK nx inside frm []
 | src (b : List (Int × Int)) (k : Int) : BackOK nx inside frm b → frm k → 0 ≤ k → k ∉ keysW b → BackOK nx inside frm (b ++ [(k, -1)])
 | step (b : List (Int × Int)) (k i : Int) : BackOK nx inside frm b → i ∈ keysW b → k ∈ nx i → inside k = true → 0 ≤ k → k ∉ keysW b → BackOK nx inside frm (b ++ [(k, i)])
inductive WayW (nx : Int → List Int) (inside : Int → Bool) (frm : Int → Prop) : List Int → Int → Prop
 | one (k : Int) : frm k → WayW nx inside frm [k] k
 | more (l : List Int) (i k : Int) : WayW nx inside frm l i → k ∈ nx i → inside k = true → WayW nx inside frm (l ++ [k]) k
theorem keysW_append (a b : List (Int × Int)) : keysW (a ++ b) = keysW a ++ keysW b := List.map_append
theorem hasW_iff (b : List (Int × Int)) (k : Int) : hasW b k = true ↔ k ∈ keysW b := by
 unfold hasW keysW
 rw [List.any_eq_true, List.mem_map]
 exact ⟨fun ⟨p, h, e⟩ => ⟨p, h, by simpa using e⟩, fun ⟨p, h, e⟩ => ⟨p, h, by simpa using e⟩⟩
theorem backW_append (b c : List (Int × Int)) (k : Int) (h : k ∈ keysW b) : backW (b ++ c) k = backW b k := by
 unfold backW
 rw [List.find?_append]
 have : ∃ p, b.find? (fun p => p.1 == k) = some p := by
  rw [← Option.isSome_iff_exists, List.find?_isSome]
  obtain ⟨p, hp, e⟩ := List.mem_map.1 h
  exact ⟨p, hp, by simpa using e⟩
 obtain ⟨p, hp⟩ := this
 rw [hp]; rfl
theorem backW_last (b : List (Int × Int)) (k i : Int) (h : k ∉ keysW b) : backW (b ++ [(k, i)]) k = i := by
 unfold backW
 rw [List.find?_append]
 have : b.find? (fun p => p.1 == k) = none := by
  rw [List.find?_eq_none]
  intro p hp e
  exact h (List.mem_map.2 ⟨p, hp, by simpa using e⟩)
 rw [this]
 simp
theorem pathW_way {nx : Int → List Int} {inside : Int → Bool} {frm : Int → Prop} {b : List (Int × Int)} (h : BackOK nx inside frm b) : ∀ (c : List (Int × Int)) (k : Int) (n : Nat) (l : List Int), k ∈ keysW b → b.length + 1 ≤ n → ∃ p, WayW nx inside frm p k ∧ p.length ≤ b.length ∧ pathW (b ++ c) n k l = p ++ l := by
 induction h with
 | nil => intro c k n l hk; simp [keysW] at hk
 | src b x hb hf hx hn ih =>
  intro c k n l hk hlen
  rw [List.length_append, List.length_singleton] at hlen
  rw [keysW_append, List.mem_append] at hk
  rcases hk with hk | hk
  ·obtain ⟨p, h1, h2, h3⟩ := ih ([(x, -1)] ++ c) k n l hk (by omega)
   exact ⟨p, h1, by rw [List.length_append, List.length_singleton]; omega, by rw [List.append_assoc]; exact h3⟩
  ·have e : k = x := by simpa [keysW] using hk
   subst e
   obtain ⟨m, rfl⟩ : ∃ m, n = m + 1 := ⟨n - 1, by omega⟩
   obtain ⟨m, rfl⟩ : ∃ q, m = q + 1 := ⟨m - 1, by omega⟩
   refine ⟨[k], .one k hf, by rw [List.length_append]; simp, ?_⟩
   rw [pathW, if_pos hx, backW_append _ _ _ (by rw [keysW_append]; simp [keysW]), backW_last _ _ _ hn, pathW, if_neg (by omega)]
   rfl
 | step b x i hb hi hnx hin hx hn ih =>
  intro c k n l hk hlen
  rw [List.length_append, List.length_singleton] at hlen
  rw [keysW_append, List.mem_append] at hk
  rcases hk with hk | hk
  ·obtain ⟨p, h1, h2, h3⟩ := ih ([(x, i)] ++ c) k n l hk (by omega)
   exact ⟨p, h1, by rw [List.length_append, List.length_singleton]; omega, by rw [List.append_assoc]; exact h3⟩
  ·have e : k = x := by simpa [keysW] using hk
   subst e
   obtain ⟨m, rfl⟩ : ∃ m, n = m + 1 := ⟨n - 1, by omega⟩
   obtain ⟨p, h1, h2, h3⟩ := ih ([(k, i)] ++ c) i m (k :: l) hi (by omega)
   refine ⟨p ++ [k], .more p i k h1 hnx hin, by rw [List.length_append, List.length_append, List.length_singleton, List.length_singleton]; omega, ?_⟩
   rw [pathW, if_pos hx, backW_append _ _ _ (by rw [keysW_append]; simp [keysW]), backW_last _ _ _ hn, List.append_assoc, h3, List.append_assoc]
   rfl
structure SrchW (nx : Int → List Int) (inside wanted : Int → Bool) (frm : Int → Prop) (cur : Option (Int × List Int)) (b : List (Int × Int)) (t : List Int) : Prop where
 ok : BackOK nx inside frm b
 fr : ∀ x, frm x → x ∈ keysW b
 td : ∀ x ∈ t, x ∈ keysW b
 no : ∀ x ∈ keysW b, wanted x = false
 cl : ∀ a ∈ keysW b, a ∈ t ∨ (∃ r, cur = some (a, r) ∧ ∀ k ∈ nx a, inside k = true → k ∈ keysW b ∨ k ∈ r) ∨ ∀ k ∈ nx a, inside k = true → k ∈ keysW b
theorem nodup_snoc {l : List Int} {k : Int} (h : l.Nodup) (hn : k ∉ l) : (l ++ [k]).Nodup := by
 rw [List.nodup_append]
 refine ⟨h, by simp, fun x hx y hy e => hn ?_⟩
 rw [List.mem_singleton] at hy
 rw [← hy, ← e]
 exact hx
theorem BackOK.nodup {nx : Int → List Int} {inside : Int → Bool} {frm : Int → Prop} {b : List (Int × Int)} (h : BackOK nx inside frm b) : (keysW b).Nodup := by
 induction h with
 | nil => simp [keysW]
 | src b k _ _ _ hn ih => rw [keysW_append]; exact nodup_snoc ih hn
 | step b k i _ _ _ _ _ hn ih => rw [keysW_append]; exact nodup_snoc ih hn
theorem BackOK.range {nx : Int → List Int} {inside : Int → Bool} {frm : Int → Prop} {N : Nat} (hf : ∀ x, frm x → 0 ≤ x ∧ x < (N : Int)) (hx : ∀ a, 0 ≤ a → a < (N : Int) → ∀ k ∈ nx a, 0 ≤ k ∧ k < (N : Int)) {b : List (Int × Int)} (h : BackOK nx inside frm b) : ∀ x ∈ keysW b, 0 ≤ x ∧ x < (N : Int) := by
 induction h with
 | nil => intro x h; simp [keysW] at h
 | src b k _ hk _ _ ih =>
  intro x h
  rw [keysW_append, List.mem_append] at h
  rcases h with h | h
  ·exact ih x h
  ·have : x = k := by simpa [keysW] using h
   rw [this]; exact hf k hk
 | step b k i _ hi hk _ _ _ ih =>
  intro x h
  rw [keysW_append, List.mem_append] at h
  rcases h with h | h
  ·exact ih x h
  ·have : x = k := by simpa [keysW] using h
   rw [this]; exact hx i (ih i hi).1 (ih i hi).2 k hk
theorem nodup_len {N : Nat} {l : List Int} (hn : l.Nodup) (hl : ∀ x ∈ l, 0 ≤ x ∧ x < (N : Int)) : l.length ≤ N := by
 have hs : l.Subset ((List.range N).map fun (i : Nat) => (i : Int)) := fun x hx => by
  have := hl x hx
  exact List.mem_map.2 ⟨x.toNat, List.mem_range.2 (by omega), by omega⟩
 have := hn.length_le_of_subset hs
 simpa using this
theorem rowW_ok {nx : Int → List Int} {inside wanted : Int → Bool} {frm : Int → Prop} (i : Int) (hp : ∀ k ∈ nx i, 0 ≤ k) : ∀ (r : List Int) (b : List (Int × Int)) (t : List Int), (∀ k ∈ r, k ∈ nx i) → i ∈ keysW b → SrchW nx inside wanted frm (some (i, r)) b t →
  (∃ b' t', rowW inside wanted i r b t = ((b', t'), none) ∧ SrchW nx inside wanted frm none b' t' ∧ b'.length + t.length = b.length + t'.length) ∨ (∃ b' t' k, rowW inside wanted i r b t = ((b', t'), some k) ∧ BackOK nx inside frm b' ∧ k ∈ keysW b' ∧ wanted k = true)
 | [], b, t, _, hi, h => .inl ⟨b, t, rfl, ⟨h.ok, h.fr, h.td, h.no, fun a ha => by
   rcases h.cl a ha with c | ⟨r, e, c⟩ | c
   ·exact .inl c
   ·injection e with e
    injection e with e1 e2
    subst e2
    exact .inr (.inr fun k hk hin => (c k hk hin).elim id fun x => (nomatch x))
   ·exact .inr (.inr c)⟩, by omega⟩
 | k :: r, b, t, hr, hi, h => by
  rw [rowW]
  by_cases c1 : hasW b k = true ∨ inside k = false
  ·rw [if_pos c1]
   refine rowW_ok i hp r b t (fun x hx => hr x (by simp [hx])) hi ⟨h.ok, h.fr, h.td, h.no, fun a ha => ?_⟩
   rcases h.cl a ha with c | ⟨r', e, c⟩ | c
   ·exact .inl c
   ·injection e with e
    injection e with e1 e2
    subst e2
    refine .inr (.inl ⟨r, by rw [e1], fun x hx hin => ?_⟩)
    rcases c x hx hin with y | y
    ·exact .inl y
    ·rcases List.mem_cons.1 y with y | y
     ·subst y
      rcases c1 with c1 | c1
      ·exact .inl ((hasW_iff b x).1 c1)
      ·rw [hin] at c1; cases c1
     ·exact .inr y
   ·exact .inr (.inr c)
  ·rw [if_neg c1]
   have hin : inside k = true := by cases hk : inside k with
    | true => rfl
    | false => exact absurd (.inr hk) c1
   have hnk : k ∉ keysW b := fun hk => c1 (.inl ((hasW_iff b k).2 hk))
   have hok := BackOK.step b k i h.ok hi (hr k (by simp)) hin (hp k (hr k (by simp))) hnk
   have hmem : ∀ x, x ∈ keysW b → x ∈ keysW (b ++ [(k, i)]) := fun x hx => by rw [keysW_append]; exact List.mem_append.2 (.inl hx)
   have hk : k ∈ keysW (b ++ [(k, i)]) := by rw [keysW_append]; simp [keysW]
   by_cases c2 : wanted k = true
   ·rw [if_pos c2]
    exact .inr ⟨_, _, k, rfl, hok, hk, c2⟩
   ·rw [if_neg c2]
    have h2 : SrchW nx inside wanted frm (some (i, r)) (b ++ [(k, i)]) (t ++ [k]) := by
     refine ⟨hok, fun x hx => hmem x (h.fr x hx), fun x hx => ?_, fun x hx => ?_, fun a ha => ?_⟩
     ·rcases List.mem_append.1 hx with hx | hx
      ·exact hmem x (h.td x hx)
      ·rw [List.mem_singleton.1 hx]; exact hk
     ·rw [keysW_append, List.mem_append] at hx
      rcases hx with hx | hx
      ·exact h.no x hx
      ·have : x = k := by simpa [keysW] using hx
       rw [this]; exact Bool.eq_false_iff.2 c2
     ·rw [keysW_append, List.mem_append] at ha
      rcases ha with ha | ha
      ·rcases h.cl a ha with c | ⟨r', e, c⟩ | c
       ·exact .inl (List.mem_append.2 (.inl c))
       ·injection e with e
        injection e with e1 e2
        subst e2
        refine .inr (.inl ⟨r, by rw [e1], fun x hx hin => ?_⟩)
        rcases c x hx hin with y | y
        ·exact .inl (hmem x y)
        ·rcases List.mem_cons.1 y with y | y
         ·subst y; exact .inl hk
         ·exact .inr y
       ·exact .inr (.inr fun x hx hin => hmem x (c x hx hin))
      ·have : a = k := by simpa [keysW] using ha
       exact .inl (List.mem_append.2 (.inr (by simp [this])))
    rcases rowW_ok i hp r (b ++ [(k, i)]) (t ++ [k]) (fun x hx => hr x (by simp [hx])) (hmem i hi) h2 with ⟨b', t', e, s, hl⟩ | q
    ·exact .inl ⟨b', t', e, s, by simp only [List.length_append, List.length_singleton] at hl; omega⟩
    ·exact .inr q
section
variable {nx : Int → List Int} {inside wanted : Int → Bool} {frm : Int → Prop} {N : Nat} (hf : ∀ x, frm x → 0 ≤ x ∧ x < (N : Int)) (hx : ∀ a, 0 ≤ a → a < (N : Int) → ∀ k ∈ nx a, 0 ≤ k ∧ k < (N : Int))
include hf hx
theorem goW_ok' : ∀ (n : Nat) (b : List (Int × Int)) (t : List Int), SrchW nx inside wanted frm none b t → N + 1 + t.length ≤ n + b.length →
  (∃ p k, goW nx inside wanted n b t = some p ∧ WayW nx inside frm p k ∧ wanted k = true ∧ p.length ≤ N + 1) ∨ (goW nx inside wanted n b t = some [] ∧ ∀ p k, WayW nx inside frm p k → wanted k = false)
 | 0, b, t, h, hn => by
  have h1 := nodup_len h.ok.nodup (h.ok.range hf hx)
  unfold keysW at h1
  rw [List.length_map] at h1
  omega
 | n + 1, b, [], h, hn => by
  refine .inr ⟨rfl, fun p k hp => h.no k ?_⟩
  induction hp with
  | one k hk => exact h.fr k hk
  | more l i k _ hk hin ih =>
   rcases h.cl i ih with c | ⟨r, e, _⟩ | c
   ·cases c
   ·cases e
   ·exact c k hk hin
 | n + 1, b, i :: t, h, hn => by
  have hi := h.td i (by simp)
  obtain ⟨i0, i1⟩ := h.ok.range hf hx i hi
  have h2 : SrchW nx inside wanted frm (some (i, nx i)) b t := ⟨h.ok, h.fr, fun x hx => h.td x (by simp [hx]), h.no, fun a ha => by
   rcases h.cl a ha with c | ⟨r, e, _⟩ | c
   ·rcases List.mem_cons.1 c with c | c
    ·subst c
     exact .inr (.inl ⟨nx a, rfl, fun k hk _ => .inr hk⟩)
    ·exact .inl c
   ·cases e
   ·exact .inr (.inr c)⟩
  rw [goW]
  rcases rowW_ok i (fun k hk => (hx i i0 i1 k hk).1) (nx i) b t (fun _ h => h) hi h2 with ⟨b', t', e, s, hl⟩ | ⟨b', t', k, e, s, hk, hw⟩
  ·rw [e]
   exact goW_ok' n b' t' s (by rw [List.length_cons] at hn; omega)
  ·rw [e]
   obtain ⟨p, h1, h4, h3⟩ := pathW_way s [] k (b'.length + 1) [] hk (Nat.le_refl _)
   rw [List.append_nil, List.append_nil] at h3
   have h5 := nodup_len s.nodup (s.range hf hx)
   unfold keysW at h5
   rw [List.length_map] at h5
   exact .inl ⟨p, k, by simp only [h3], h1, hw, by omega⟩
end
theorem fromW_ok {nx : Int → List Int} {inside wanted : Int → Bool} {frm : Int → Prop} : ∀ (l : List Int) (b : List (Int × Int)), BackOK nx inside frm b → (∀ x ∈ l, frm x ∧ 0 ≤ x ∧ x ∉ keysW b) → l.Nodup → (∀ x ∈ keysW b, wanted x = false) →
  (∃ b', fromW wanted l b = (b', none) ∧ BackOK nx inside frm b' ∧ keysW b' = keysW b ++ l ∧ ∀ x ∈ keysW b', wanted x = false) ∨ (∃ b' k, fromW wanted l b = (b', some k) ∧ k ∈ l ∧ wanted k = true)
 | [], b, h, _, _, hw => .inl ⟨b, rfl, h, by simp, hw⟩
 | k :: r, b, h, hl, hd, hw => by
  rw [fromW]
  obtain ⟨h1, h2, h3⟩ := hl k (by simp)
  by_cases c : wanted k = true
  ·rw [if_pos c]; exact .inr ⟨_, k, rfl, by simp, c⟩
  ·rw [if_neg c]
   rw [List.nodup_cons] at hd
   rcases fromW_ok (nx := nx) (inside := inside) (wanted := wanted) (frm := frm) r (b ++ [(k, -1)]) (.src b k h h1 h2 h3) (fun x hx => ⟨(hl x (by simp [hx])).1, (hl x (by simp [hx])).2.1, fun hk => by
     rw [keysW_append, List.mem_append] at hk
     rcases hk with hk | hk
     ·exact (hl x (by simp [hx])).2.2 hk
     ·have : x = k := by simpa [keysW] using hk
      rw [this] at hx; exact hd.1 hx⟩) hd.2 (fun x hk => by
     rw [keysW_append, List.mem_append] at hk
     rcases hk with hk | hk
     ·exact hw x hk
     ·have : x = k := by simpa [keysW] using hk
      rw [this]; exact Bool.eq_false_iff.2 c) with ⟨b', e, s, hb, w⟩ | ⟨b', q, e, hq, w⟩
   ·exact .inl ⟨b', e, s, by rw [hb, keysW_append, List.append_assoc]; rfl, w⟩
   ·exact .inr ⟨b', q, e, by simp [hq], w⟩
theorem wayW_ok' {nx : Int → List Int} {inside wanted : Int → Bool} {N : Nat} {l : List Int} (hl : l.Nodup) (hf : ∀ x ∈ l, 0 ≤ x ∧ x < (N : Int)) (hx : ∀ a, 0 ≤ a → a < (N : Int) → ∀ k ∈ nx a, 0 ≤ k ∧ k < (N : Int)) {n : Nat} (hn : N + 1 ≤ n) :
  (∃ p k, wayW nx inside wanted n l = some p ∧ WayW nx inside (· ∈ l) p k ∧ wanted k = true ∧ p.length ≤ N + 1) ∨ (wayW nx inside wanted n l = some [] ∧ ∀ p k, WayW nx inside (· ∈ l) p k → wanted k = false) := by
 unfold wayW
 rcases fromW_ok (nx := nx) (inside := inside) (wanted := wanted) (frm := (· ∈ l)) l [] .nil (fun x hx => ⟨hx, (hf x hx).1, by simp [keysW]⟩) hl (fun x hx => by simp [keysW] at hx) with ⟨b, e, s, hb, w⟩ | ⟨b, k, e, hk, w⟩
 ·rw [e]
  have hk : keysW b = l := by rw [hb]; rfl
  have hlen : b.length = l.length := by rw [← hk]; unfold keysW; rw [List.length_map]
  exact goW_ok' (fun x h => hf x h) hx n b l ⟨s, fun x h => by rw [hk]; exact h, fun x h => by rw [hk]; exact h, w, fun a ha => .inl (by rw [hk] at ha; exact ha)⟩ (by omega)
 ·rw [e]
  exact .inl ⟨[k], k, rfl, .one k hk, w, by simp⟩
theorem wayW_ok {nx : Int → List Int} {inside wanted : Int → Bool} {N : Nat} {l : List Int} (hl : l.Nodup) (hf : ∀ x ∈ l, 0 ≤ x ∧ x < (N : Int)) (hx : ∀ a, 0 ≤ a → a < (N : Int) → ∀ k ∈ nx a, 0 ≤ k ∧ k < (N : Int)) {n : Nat} (hn : N + 1 ≤ n) :
  (∃ p k, wayW nx inside wanted n l = some p ∧ WayW nx inside (· ∈ l) p k ∧ wanted k = true) ∨ (wayW nx inside wanted n l = some [] ∧ ∀ p k, WayW nx inside (· ∈ l) p k → wanted k = false) :=
 (wayW_ok' (inside := inside) (wanted := wanted) hl hf hx hn).imp (fun ⟨p, k, a, b, c, _⟩ => ⟨p, k, a, b, c⟩) id
theorem wayW_in {nx : Int → List Int} {inside wanted : Int → Bool} {N : Nat} {l p : List Int} (hl : l.Nodup) (hf : ∀ x ∈ l, 0 ≤ x ∧ x < (N : Int)) (hx : ∀ a, 0 ≤ a → a < (N : Int) → ∀ k ∈ nx a, 0 ≤ k ∧ k < (N : Int)) {n : Nat} (hn : N + 1 ≤ n) (h : wayW nx inside wanted n l = some p) : p.length ≤ N + 1 ∧ ((∃ a r, p = a :: r ∧ a ∈ l) ∨ p = []) := by
 rcases wayW_ok' (inside := inside) (wanted := wanted) hl hf hx hn with ⟨q, k, e, w, hw, hk⟩ | ⟨e, _⟩
 ·rw [h] at e
  cases e
  refine ⟨hk, .inl ?_⟩
  clear h hk hw
  induction w with
  | one k hk => exact ⟨k, [], rfl, hk⟩
  | more m i k _ _ _ ih =>
   obtain ⟨a, r, e, ha⟩ := ih
   exact ⟨a, r ++ [k], by rw [e]; rfl, ha⟩
 ·rw [h] at e
  cases e
  exact ⟨by simp, .inr rfl⟩
inductive LeadN (nx : Int → List Int) (a : Int) : Int → Prop
 | refl : LeadN nx a a
 | step (x b : Int) : LeadN nx a x → b ∈ nx x → LeadN nx a b
theorem LeadN.trans {nx : Int → List Int} {a b c : Int} (h : LeadN nx a b) (k : LeadN nx b c) : LeadN nx a c := by
 induction k with
 | refl => exact h
 | step x c _ hc ih => exact .step x c ih hc
theorem LeadN.first {nx : Int → List Int} {a b : Int} (h : LeadN nx a b) (hne : a ≠ b) : ∃ k ∈ nx a, LeadN nx k b := by
 induction h with
 | refl => exact absurd rfl hne
 | step x b h hb ih =>
  by_cases e : a = x
  ·subst e; exact ⟨b, hb, .refl⟩
  ·obtain ⟨k, hk, hl⟩ := ih e
   exact ⟨k, hk, .step x b hl hb⟩
def okC (nx : Int → List Int) : List Int → Prop
 | a :: b :: r => b ∈ nx a ∧ okC nx (b :: r)
 | _ => True
theorem okC_at {nx : Int → List Int} : ∀ (l : List Int), okC nx l → ∀ i (h : i + 1 < l.length), l[i + 1] ∈ nx l[i]
 | a :: b :: r, h, 0, hi => h.1
 | a :: b :: r, h, i + 1, hi => okC_at (b :: r) h.2 i (by simpa using hi)
 | [a], _, i, hi => by simp at hi
 | [], _, i, hi => by simp at hi
theorem last_at {l : List Int} {h : Int} {i : Nat} (hi : i + 1 = l.length) {hlt : i + 1 < (l ++ [h]).length} : (l ++ [h])[i + 1] = h := by
 rw [List.getElem_append_right (by omega)]
 simp
theorem okC_snoc {nx : Int → List Int} : ∀ {l : List Int} {a b : Int}, okC nx (l ++ [a]) → b ∈ nx a → okC nx (l ++ [a, b])
 | [], a, b, _, hb => ⟨hb, trivial⟩
 | [x], a, b, h, hb => ⟨h.1, hb, trivial⟩
 | x :: y :: r, a, b, h, hb => ⟨h.1, okC_snoc (l := y :: r) h.2 hb⟩
theorem okC_append {nx : Int → List Int} : ∀ {l : List Int} {a b : Int} {m : List Int}, okC nx (l ++ [a]) → b ∈ nx a → okC nx (b :: m) → okC nx (l ++ [a] ++ b :: m)
 | [], a, b, m, _, hb, hm => ⟨hb, hm⟩
 | [x], a, b, m, h, hb, hm => ⟨h.1, hb, hm⟩
 | x :: y :: r, a, b, m, h, hb, hm => ⟨h.1, okC_append (l := y :: r) h.2 hb hm⟩
theorem okC_glue {nx : Int → List Int} : ∀ {l : List Int} {a : Int} {m : List Int}, okC nx (l ++ [a]) → okC nx (a :: m) → okC nx (l ++ a :: m)
 | [], a, m, _, hm => hm
 | [x], a, m, h, hm => ⟨h.1, hm⟩
 | x :: y :: r, a, m, h, hm => ⟨h.1, okC_glue (l := y :: r) h.2 hm⟩
theorem WayW.facts {nx : Int → List Int} {inside : Int → Bool} {frm : Int → Prop} {p : List Int} {k : Int} (h : WayW nx inside frm p k) : okC nx p ∧ (∃ q, p = q ++ [k]) ∧ ∃ a r, p = a :: r ∧ frm a ∧ ∀ x ∈ r, inside x = true := by
 induction h with
 | one k hk => exact ⟨trivial, ⟨[], rfl⟩, k, [], rfl, hk, fun x hx => (nomatch hx)⟩
 | more l i k _ hk hin ih =>
  obtain ⟨h1, ⟨q, rfl⟩, a, r, e, hf, hr⟩ := ih
  refine ⟨by rw [List.append_assoc]; exact okC_snoc h1 hk, ⟨_, rfl⟩, a, r ++ [k], by rw [e]; rfl, hf, fun x hx => ?_⟩
  rcases List.mem_append.1 hx with hx | hx
  ·exact hr x hx
  ·rw [List.mem_singleton.1 hx]; exact hin
theorem WayW.range {nx : Int → List Int} {inside : Int → Bool} {frm : Int → Prop} {N : Nat} (hf : ∀ x, frm x → 0 ≤ x ∧ x < (N : Int)) (hx : ∀ a, 0 ≤ a → a < (N : Int) → ∀ k ∈ nx a, 0 ≤ k ∧ k < (N : Int)) {p : List Int} {k : Int} (h : WayW nx inside frm p k) : (0 ≤ k ∧ k < (N : Int)) ∧ ∀ x ∈ p, 0 ≤ x ∧ x < (N : Int) := by
 induction h with
 | one k hk => exact ⟨hf k hk, fun x hx => by rw [List.mem_singleton.1 hx]; exact hf k hk⟩
 | more l i k _ hk hin ih =>
  have := hx i ih.1.1 ih.1.2 k hk
  refine ⟨this, fun x hm => ?_⟩
  rcases List.mem_append.1 hm with hm | hm
  ·exact ih.2 x hm
  ·rw [List.mem_singleton.1 hm]; exact this
def bitsW (nx : Int → List Int) (inside : Int → Bool) (sets : Int → Int) (bit : Int → Nat → Bool) (orI : Int → Int → Int) (fuel : Nat) : Nat → Nat → Int → List Int → Option (List Int)
 | 0, _, _, loop => some loop
 | d + 1, s, met, loop => if bit met s = true then bitsW nx inside sets bit orI fuel d (s + 1) met loop else
  match wayW nx inside (fun i => bit (sets i) s) fuel [loop.getLastD 0] with
  | some (_ :: l) => bitsW nx inside sets bit orI fuel d (s + 1) (l.foldl (fun m i => orI m (sets i)) met) (loop ++ l)
  | _ => none
def closeW (nx : Int → List Int) (inside : Int → Bool) (home : Int) (fuel : Nat) : List Int → List Int → Option (List Int)
 | [], loop => some loop
 | k :: r, loop => if inside k = false then closeW nx inside home fuel r loop else
  match wayW nx inside (fun i => i == home) fuel [k] with
  | some (a :: l) => some (loop ++ (a :: l).dropLast)
  | _ => none
section
variable {nx : Int → List Int} {inside : Int → Bool} {sets : Int → Int} {bit : Int → Nat → Bool} {orI : Int → Int → Int} {okV : Int → Prop} {N B : Nat} {home : Int}
 (hx : ∀ a, 0 ≤ a → a < (N : Int) → ∀ k ∈ nx a, 0 ≤ k ∧ k < (N : Int)) (hh : 0 ≤ home ∧ home < (N : Int))
 (hp : ∀ x, 0 ≤ x → x < (N : Int) → (inside x = true ↔ LeadN nx x home ∧ LeadN nx home x))
 (hor : ∀ a b, okV a → okV b → okV (orI a b) ∧ ∀ s, s < B → bit (orI a b) s = (bit a s || bit b s)) (hset : ∀ x, 0 ≤ x → x < (N : Int) → okV (sets x))
structure LoopOK (nx : Int → List Int) (inside : Int → Bool) (N : Nat) (home : Int) (loop : List Int) : Prop where
 hd : ∃ r, loop = home :: r
 ch : okC nx loop
 ins : ∀ x ∈ loop, inside x = true ∧ 0 ≤ x ∧ x < (N : Int)
include hx
theorem lead_in {a b : Int} (h : LeadN nx a b) (h0 : 0 ≤ a) (h1 : a < (N : Int)) : 0 ≤ b ∧ b < (N : Int) := by
 induction h with
 | refl => exact ⟨h0, h1⟩
 | step x b _ hb ih => exact hx x ih.1 ih.2 b hb
include hp
theorem way_in {a b : Int} (ha : inside a = true) (a0 : 0 ≤ a) (a1 : a < (N : Int)) (h : LeadN nx a b) : inside b = true → ∃ p, WayW nx inside (· ∈ [a]) p b := by
 obtain ⟨la, lh⟩ := (hp a a0 a1).1 ha
 induction h with
 | refl => exact fun _ => ⟨[a], .one a (by simp)⟩
 | step x b hax hb ih =>
  intro hin
  obtain ⟨x0, x1⟩ := lead_in hx hax a0 a1
  obtain ⟨b0, b1⟩ := hx x x0 x1 b hb
  obtain ⟨lb, _⟩ := (hp b b0 b1).1 hin
  have hxin : inside x = true := (hp x x0 x1).2 ⟨(LeadN.step x b .refl hb).trans lb, lh.trans hax⟩
  obtain ⟨p, hw⟩ := ih hxin
  exact ⟨p ++ [b], .more p x b hw hb hin⟩
theorem way_found {a : Int} (ha : inside a = true) (a0 : 0 ≤ a) (a1 : a < (N : Int)) {wanted : Int → Bool} {b : Int} (b0 : 0 ≤ b) (b1 : b < (N : Int)) (hb : inside b = true) (hw : wanted b = true) {fuel : Nat} (hf : N + 1 ≤ fuel) :
  ∃ l k, wayW nx inside wanted fuel [a] = some (a :: l) ∧ okC nx (a :: l) ∧ (∃ q, a :: l = q ++ [k]) ∧ wanted k = true ∧ ∀ x ∈ l, inside x = true ∧ 0 ≤ x ∧ x < (N : Int) := by
 have hfr : ∀ x, x ∈ [a] → 0 ≤ x ∧ x < (N : Int) := fun x h => by rw [List.mem_singleton.1 h]; exact ⟨a0, a1⟩
 obtain ⟨la, lh⟩ := (hp a a0 a1).1 ha
 obtain ⟨lb, lk⟩ := (hp b b0 b1).1 hb
 rcases wayW_ok (nx := nx) (inside := inside) (wanted := wanted) (l := [a]) (by simp) hfr hx hf with ⟨p, k, e, w, hk⟩ | ⟨_, no⟩
 ·obtain ⟨c1, ⟨q, c2⟩, a', r, c3, c4, c5⟩ := w.facts
  have hr := (w.range hfr hx).2
  rw [List.mem_singleton] at c4
  subst c4
  subst c3
  exact ⟨r, k, e, c1, ⟨q, c2⟩, hk, fun x hx => ⟨c5 x hx, hr x (by simp [hx])⟩⟩
 ·obtain ⟨p, w⟩ := way_in hx hp ha a0 a1 (la.trans lk) hb
  rw [no p b w] at hw
  cases hw
omit hp in
omit hx in
theorem met_fold {okV : Int → Prop} (hor : ∀ a b, okV a → okV b → okV (orI a b) ∧ ∀ s, s < B → bit (orI a b) s = (bit a s || bit b s)) (l : List Int) : ∀ m, okV m → (∀ x ∈ l, okV (sets x)) → okV (l.foldl (fun m i => orI m (sets i)) m) ∧ ∀ s, s < B → bit (l.foldl (fun m i => orI m (sets i)) m) s = (bit m s || l.any fun i => bit (sets i) s) := by
 induction l with
 | nil => exact fun m hm _ => ⟨hm, fun s _ => by simp⟩
 | cons x r ih =>
  intro m hm hl
  obtain ⟨h1, h2⟩ := hor m (sets x) hm (hl x (by simp))
  obtain ⟨h3, h4⟩ := ih (orI m (sets x)) h1 (fun y hy => hl y (by simp [hy]))
  refine ⟨h3, fun s hs => ?_⟩
  rw [List.foldl_cons, h4 s hs, h2 s hs, List.any_cons, Bool.or_assoc]
include hor hset
theorem bitsW_ok {fuel : Nat} (hf : N + 1 ≤ fuel) (hbit : ∀ s, s < B → ∃ x, 0 ≤ x ∧ x < (N : Int) ∧ inside x = true ∧ bit (sets x) s = true) : ∀ (d s : Nat) (met : Int) (loop : List Int), s + d ≤ B → LoopOK nx inside N home loop → okV met → (∀ s', s' < B → bit met s' = loop.any fun i => bit (sets i) s') →
  ∃ loop', bitsW nx inside sets bit orI fuel d s met loop = some loop' ∧ LoopOK nx inside N home loop' ∧ (∀ x ∈ loop, x ∈ loop') ∧ ∀ s', s ≤ s' → s' < s + d → ∃ x ∈ loop', bit (sets x) s' = true
 | 0, s, met, loop, _, h, _, _ => ⟨loop, rfl, h, fun _ h => h, fun s' h1 h2 => absurd h2 (by omega)⟩
 | d + 1, s, met, loop, hs, h, hv, hm => by
  rw [bitsW]
  by_cases c : bit met s = true
  ·rw [if_pos c]
   obtain ⟨L, e, hL, hsub, hb⟩ := bitsW_ok hf hbit d (s + 1) met loop (by omega) h hv hm
   refine ⟨L, e, hL, hsub, fun s' h1 h2 => ?_⟩
   by_cases e : s' = s
   ·subst e
    rw [hm s' (by omega), List.any_eq_true] at c
    obtain ⟨x, hx, hxb⟩ := c
    exact ⟨x, hsub x hx, hxb⟩
   ·exact hb s' (by omega) (by omega)
  ·rw [if_neg c]
   obtain ⟨r, hr⟩ := h.hd
   obtain ⟨q, at_, hq⟩ : ∃ q a, loop = q ++ [a] := ⟨loop.dropLast, loop.getLast (by rw [hr]; simp), (List.dropLast_concat_getLast (by rw [hr]; simp)).symm⟩
   have hlast : loop.getLastD 0 = at_ := by rw [hq]; simp
   obtain ⟨i1, i2, i3⟩ := h.ins at_ (by rw [hq]; simp)
   obtain ⟨b, b0, b1, b2, b3⟩ := hbit s (by omega)
   obtain ⟨l, k, w1, w2, ⟨q2, w3⟩, w4, w5⟩ := way_found hx hp i1 i2 i3 (wanted := fun i => bit (sets i) s) b0 b1 b2 b3 hf
   rw [hlast, w1]
   obtain ⟨m1, m2⟩ := met_fold (bit := bit) (sets := sets) hor l met hv (fun x hx => hset x (w5 x hx).2.1 (w5 x hx).2.2)
   have hch : okC nx (loop ++ l) := by
    rw [hq, List.append_assoc]
    exact okC_glue (by rw [← hq]; exact h.ch) w2
   obtain ⟨L, e, hL, hsub, hb⟩ := bitsW_ok hf hbit d (s + 1) _ (loop ++ l) (by omega) ⟨⟨r ++ l, by rw [hr]; rfl⟩, hch, fun x hx => by
    rcases List.mem_append.1 hx with hx | hx
    ·exact h.ins x hx
    ·exact w5 x hx⟩ m1 (fun s' hs' => by rw [m2 s' hs', hm s' hs', List.any_append])
   refine ⟨L, e, hL, fun x hx => hsub x (List.mem_append.2 (.inl hx)), fun s' h1 h2 => ?_⟩
   by_cases e : s' = s
   ·subst e
    have : k ∈ loop ++ l := by
     have hk : k ∈ at_ :: l := by rw [w3]; simp
     rcases List.mem_cons.1 hk with e | hk
     ·rw [e, hq]; simp
     ·exact List.mem_append.2 (.inr hk)
    exact ⟨k, hsub k this, w4⟩
   ·exact hb s' (by omega) (by omega)
omit hor hset in
include hh in
theorem closeW_ok {fuel : Nat} (hf : N + 1 ≤ fuel) {loop q : List Int} {at_ : Int} (h : LoopOK nx inside N home loop) (hq : loop = q ++ [at_]) : ∀ r : List Int, (∀ k ∈ r, k ∈ nx at_) → (∃ k ∈ r, inside k = true) → ∃ l, closeW nx inside home fuel r loop = some (loop ++ l) ∧ okC nx (loop ++ l ++ [home]) ∧ ∀ x ∈ l, 0 ≤ x ∧ x < (N : Int)
 | [], _, hk => by obtain ⟨k, hk, _⟩ := hk; cases hk
 | k :: r, hr, hk => by
  rw [closeW]
  by_cases c : inside k = false
  ·rw [if_pos c]
   refine closeW_ok hf h hq r (fun x hx => hr x (by simp [hx])) ?_
   obtain ⟨k', hk', hin⟩ := hk
   rcases List.mem_cons.1 hk' with e | hk'
   ·rw [e, c] at hin; cases hin
   ·exact ⟨k', hk', hin⟩
  ·rw [if_neg c]
   have hin : inside k = true := by cases hk : inside k with
    | true => rfl
    | false => exact absurd hk c
   obtain ⟨i1, i2, i3⟩ := h.ins at_ (by rw [hq]; simp)
   obtain ⟨k0, k1⟩ := hx at_ i2 i3 k (hr k (by simp))
   have hhin : inside home = true := (hp home hh.1 hh.2).2 ⟨.refl, .refl⟩
   obtain ⟨l, z, w1, w2, ⟨q2, w3⟩, w4, w5⟩ := way_found hx hp hin k0 k1 (wanted := fun i => i == home) hh.1 hh.2 hhin (by simp) hf
   have hz : z = home := by simpa using w4
   subst hz
   rw [w1]
   have hd : (k :: l).dropLast = q2 := by rw [w3]; simp
   refine ⟨(k :: l).dropLast, rfl, ?_, fun x hm => ?_⟩
   ·rw [hd, List.append_assoc, ← w3, hq]
    exact okC_append (by rw [← hq]; exact h.ch) (hr k (by simp)) w2
   ·have := (List.dropLast_sublist _).subset hm
    rcases List.mem_cons.1 this with e | hm
    ·rw [e]; exact ⟨k0, k1⟩
    ·exact (w5 x hm).2
omit hor hset in
theorem next_in {a : Int} (ha : inside a = true) (a0 : 0 ≤ a) (a1 : a < (N : Int)) (hloop : ∃ x, 0 ≤ x ∧ x < (N : Int) ∧ inside x = true ∧ ∃ b ∈ nx x, inside b = true) : ∃ k ∈ nx a, inside k = true := by
 obtain ⟨x, x0, x1, xin, b, hb, bin⟩ := hloop
 obtain ⟨la, lh⟩ := (hp a a0 a1).1 ha
 obtain ⟨lx, lhx⟩ := (hp x x0 x1).1 xin
 by_cases e : a = x
 ·subst e; exact ⟨b, hb, bin⟩
 ·obtain ⟨k, hk, hl⟩ := (la.trans lhx).first e
  obtain ⟨k0, k1⟩ := hx a a0 a1 k hk
  exact ⟨k, hk, (hp k k0 k1).2 ⟨hl.trans lx, lh.trans (.step a k .refl hk)⟩⟩
end
def bitW (v : Int) (s : Nat) : Bool := decide (v / 2 ^ s % 2 = 1)
def rangeW (n : Int) : List Int := (List.range n.toNat).map fun (i : Nat) => (i : Int)
def lassoW (nx : Int → List Int) (inside : Int → Bool) (sets : Int → Int) (bit : Int → Nat → Bool) (orI : Int → Int → Int) (fuel B : Nat) (frm : List Int) (home : Int) : Option (List Int × List Int) :=
 match wayW nx (fun _ => true) (fun i => i == home) fuel frm with
 | some (a :: p) => (bitsW nx inside sets bit orI fuel B 0 (sets home) [home]).bind fun loop => (closeW nx inside home fuel (nx (loop.getLastD 0)) loop).bind fun l => some ((a :: p).dropLast, l)
 | _ => none
structure FitsW (nx : Int → List Int) (sets : Int → Int) (bit : Int → Nat → Bool) (N B : Nat) (frm : List Int) (stem loop : List Int) : Prop where
 hd : ∃ h r, loop = h :: r ∧ okC nx (stem ++ loop ++ [h])
 rg : ∀ x ∈ stem ++ loop, 0 ≤ x ∧ x < (N : Int)
 bt : ∀ s, s < B → ∃ x ∈ loop, bit (sets x) s = true
 st : ∃ a r, stem ++ loop = a :: r ∧ a ∈ frm
theorem lassoW_ok {nx : Int → List Int} {inside : Int → Bool} {sets : Int → Int} {bit : Int → Nat → Bool} {orI : Int → Int → Int} {okV : Int → Prop} {N B : Nat} {home : Int}
  (hx : ∀ a, 0 ≤ a → a < (N : Int) → ∀ k ∈ nx a, 0 ≤ k ∧ k < (N : Int)) (hh : 0 ≤ home ∧ home < (N : Int))
  (hp : ∀ x, 0 ≤ x → x < (N : Int) → (inside x = true ↔ LeadN nx x home ∧ LeadN nx home x))
  (hor : ∀ a b, okV a → okV b → okV (orI a b) ∧ ∀ s, s < B → bit (orI a b) s = (bit a s || bit b s)) (hset : ∀ x, 0 ≤ x → x < (N : Int) → okV (sets x))
  (hbit : ∀ s, s < B → ∃ x, 0 ≤ x ∧ x < (N : Int) ∧ inside x = true ∧ bit (sets x) s = true)
  (hloop : ∃ x, 0 ≤ x ∧ x < (N : Int) ∧ inside x = true ∧ ∃ b ∈ nx x, inside b = true)
  {frm : List Int} (hd : frm.Nodup) (hf : ∀ x ∈ frm, 0 ≤ x ∧ x < (N : Int)) (hr : ∃ a ∈ frm, LeadN nx a home) {fuel : Nat} (hfu : N + 1 ≤ fuel) :
  ∃ stem loop, lassoW nx inside sets bit orI fuel B frm home = some (stem, loop) ∧ FitsW nx sets bit N B frm stem loop := by
 have hhin : inside home = true := (hp home hh.1 hh.2).2 ⟨.refl, .refl⟩
 unfold lassoW
 rcases wayW_ok (nx := nx) (inside := fun _ => true) (wanted := fun i => i == home) hd hf hx hfu with ⟨p, k, e, w, hk⟩ | ⟨_, no⟩
 ·have hk : k = home := by simpa using hk
  subst hk
  obtain ⟨c1, ⟨q, c2⟩, a, r, c3, c4, _⟩ := w.facts
  have hrg := (w.range (fun x h => hf x h) hx).2
  subst c3
  rw [e]
  have hdl : (a :: r).dropLast = q := by rw [c2]; simp
  obtain ⟨loop, b1, b2, b3, b4⟩ := bitsW_ok (okV := okV) hx hp hor hset hfu hbit B 0 (sets k) [k] (by omega) ⟨⟨[], rfl⟩, trivial, fun x h => by rw [List.mem_singleton.1 h]; exact ⟨hhin, hh⟩⟩ (hset k hh.1 hh.2) (fun s _ => by simp)
  obtain ⟨lr, hlr⟩ := b2.hd
  obtain ⟨q3, at_, hq⟩ : ∃ q a, loop = q ++ [a] := ⟨loop.dropLast, loop.getLast (by rw [hlr]; simp), (List.dropLast_concat_getLast (by rw [hlr]; simp)).symm⟩
  have hlast : loop.getLastD 0 = at_ := by rw [hq]; simp
  obtain ⟨i1, i2, i3⟩ := b2.ins at_ (by rw [hq]; simp)
  obtain ⟨l, d1, d2, d3⟩ := closeW_ok hx hh hp hfu b2 hq (nx at_) (fun _ h => h) (next_in hx hp i1 i2 i3 hloop)
  refine ⟨q, loop ++ l, by simp only [b1, Option.bind_some, hlast, d1, hdl], ⟨k, lr ++ l, by rw [hlr]; rfl, ?_⟩, fun x h => ?_, fun s hs => ?_, ?_⟩
  ·have : okC nx (k :: (lr ++ l ++ [k])) := by
    have := d2
    rw [hlr] at this
    simpa using this
   have := okC_glue (l := q) (a := k) (m := lr ++ l ++ [k]) (by rw [← c2]; exact c1) this
   rw [hlr]
   simpa using this
  ·rcases List.mem_append.1 h with h | h
   ·exact hrg x (by rw [c2]; exact List.mem_append.2 (.inl h))
   ·rcases List.mem_append.1 h with h | h
    ·exact (b2.ins x h).2
    ·exact d3 x h
  ·obtain ⟨x, hm, hb⟩ := b4 s (Nat.zero_le _) (by omega)
   exact ⟨x, List.mem_append.2 (.inl hm), hb⟩
  ·cases q with
   | nil =>
    have e1 : a = k := by
     have := congrArg List.head? c2
     simpa using this
    exact ⟨k, lr ++ l, by rw [hlr]; rfl, e1 ▸ c4⟩
   | cons b q =>
    have e1 : a = b := by
     have := congrArg List.head? c2
     simpa using this
    exact ⟨b, q ++ (loop ++ l), rfl, e1 ▸ c4⟩
 ·obtain ⟨a, ha, hl⟩ := hr
  have key : ∀ b, LeadN nx a b → ∃ p, WayW nx (fun _ => true) (· ∈ frm) p b := fun b h => by
   induction h with
   | refl => exact ⟨[a], .one a ha⟩
   | step x b _ hb ih =>
    obtain ⟨p, w⟩ := ih
    exact ⟨p ++ [b], .more p x b w hb rfl⟩
  obtain ⟨p, w⟩ := key home hl
  have := no p home w
  simp at this
theorem lastD_mem {l : List Int} (h : l ≠ []) : l.getLastD 0 ∈ l := by
 rcases List.eq_nil_or_concat l with e | ⟨q, x, e⟩
 ·exact absurd e h
 ·rw [e]
  simp
theorem bitsW_len {nx : Int → List Int} {inside : Int → Bool} {sets : Int → Int} {bit : Int → Nat → Bool} {orI : Int → Int → Int} {N : Nat} (hx : ∀ a, 0 ≤ a → a < (N : Int) → ∀ k ∈ nx a, 0 ≤ k ∧ k < (N : Int)) {fuel : Nat} (hf : N + 1 ≤ fuel) :
  ∀ (d s : Nat) (met : Int) (loop r : List Int), (∀ x ∈ loop, 0 ≤ x ∧ x < (N : Int)) → loop ≠ [] → bitsW nx inside sets bit orI fuel d s met loop = some r → r.length ≤ loop.length + d * (N + 1) ∧ (∀ x ∈ r, 0 ≤ x ∧ x < (N : Int)) ∧ r ≠ []
 | 0, s, met, loop, r, hr, hn, h => by
  rw [bitsW] at h
  cases h
  exact ⟨by omega, hr, hn⟩
 | d + 1, s, met, loop, r, hr, hn, h => by
  rw [bitsW] at h
  split at h
  ·obtain ⟨a, b⟩ := bitsW_len hx hf d _ _ _ _ hr hn h
   exact ⟨by rw [Nat.add_mul]; omega, b⟩
  ·split at h
   ·rename_i x l hw
    have hla := lastD_mem hn
    have h1 : ∀ y ∈ [loop.getLastD 0], 0 ≤ y ∧ y < (N : Int) := fun y hy => by rw [List.mem_singleton.1 hy]; exact hr _ hla
    obtain ⟨w1, _⟩ := wayW_in (by simp) h1 hx hf hw
    have w2 : ∀ y ∈ x :: l, 0 ≤ y ∧ y < (N : Int) := by
     rcases wayW_ok (inside := inside) (wanted := fun i => bit (sets i) s) (by simp) h1 hx hf with ⟨q, k, e, w, hk⟩ | ⟨e, _⟩
     ·rw [hw] at e
      cases e
      exact (w.range (frm := (· ∈ [loop.getLastD 0])) h1 hx).2
     ·rw [hw] at e
      cases e
    obtain ⟨a, b⟩ := bitsW_len hx hf d _ _ _ _ (fun y hy => (List.mem_append.1 hy).elim (hr y) (fun hy => w2 y (List.mem_cons_of_mem _ hy))) (by simp [hn]) h
    rw [List.length_append] at a
    rw [List.length_cons] at w1
    exact ⟨by rw [Nat.add_mul]; omega, b⟩
   ·cases h
theorem closeW_len {nx : Int → List Int} {inside : Int → Bool} {N : Nat} {home : Int} (hx : ∀ a, 0 ≤ a → a < (N : Int) → ∀ k ∈ nx a, 0 ≤ k ∧ k < (N : Int)) {fuel : Nat} (hf : N + 1 ≤ fuel) : ∀ (row loop r : List Int), (∀ x ∈ row, 0 ≤ x ∧ x < (N : Int)) → closeW nx inside home fuel row loop = some r → r.length ≤ loop.length + (N + 1)
 | [], loop, r, _, h => by
  rw [closeW] at h
  cases h
  omega
 | k :: row, loop, r, hr, h => by
  rw [closeW] at h
  split at h
  ·exact closeW_len hx hf row loop r (fun x hx => hr x (List.mem_cons_of_mem _ hx)) h
  ·split at h
   ·rename_i a l hw
    cases h
    obtain ⟨w1, _⟩ := wayW_in (by simp) (fun y hy => by rw [List.mem_singleton.1 hy]; exact hr k List.mem_cons_self) hx hf hw
    rw [List.length_append, List.length_dropLast]
    omega
   ·cases h
theorem lassoW_len {nx : Int → List Int} {inside : Int → Bool} {sets : Int → Int} {bit : Int → Nat → Bool} {orI : Int → Int → Int} {N B : Nat} {home : Int} (hx : ∀ a, 0 ≤ a → a < (N : Int) → ∀ k ∈ nx a, 0 ≤ k ∧ k < (N : Int)) (hh : 0 ≤ home ∧ home < (N : Int)) {frm : List Int} (hd : frm.Nodup) (hf : ∀ x ∈ frm, 0 ≤ x ∧ x < (N : Int)) {fuel : Nat} (hfu : N + 1 ≤ fuel) {stem lp : List Int}
  (h : lassoW nx inside sets bit orI fuel B frm home = some (stem, lp)) : stem.length ≤ N + 1 ∧ lp.length ≤ 1 + (B + 1) * (N + 1) := by
 unfold lassoW at h
 split at h
 ·rename_i a p hw
  obtain ⟨w1, _⟩ := wayW_in hd hf hx hfu hw
  obtain ⟨loop, h1, h2⟩ := Option.bind_eq_some_iff.mp h
  obtain ⟨l, h3, h4⟩ := Option.bind_eq_some_iff.mp h2
  cases h4
  obtain ⟨b1, b2, b3⟩ := bitsW_len hx hfu _ _ _ _ _ (fun y hy => by rw [List.mem_singleton.1 hy]; exact hh) (by simp) h1
  have hla := lastD_mem b3
  have b4 := b2 _ hla
  have c1 := closeW_len hx hfu _ _ _ (hx _ b4.1 b4.2) h3
  rw [List.length_dropLast]
  rw [List.length_singleton] at b1
  refine ⟨by omega, ?_⟩
  rw [Nat.add_mul B 1]
  omega
 ·cases h
end Go.Proofs.Ytkcghbfmigdomaa.Pure
namespace Go.Proofs.Ytkcghbfmigdomaa.Base
open Go.RowKit Go.Proofs.YtkcghbfmigdomaaW.PrintWords Go.Proofs.YtkcghbfmigdomaaW.PrintLast Go.Proofs.YtkcghbfmigdomaaW.PrintMore
theorem ev_succ {α : Type} {g : Nat → Option α} {r : α} (h : Ev (fun k => g (k + 1)) r) : Ev g r := Ev.step (f := fun k => g (k + 1)) (fun _ => rfl) h
end Go.Proofs.Ytkcghbfmigdomaa.Base
