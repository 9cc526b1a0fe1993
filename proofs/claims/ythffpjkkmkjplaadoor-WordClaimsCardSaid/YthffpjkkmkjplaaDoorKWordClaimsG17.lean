import Derived.Test.YthffpjkkmkjplaaDoorKWordClaimsG16
import Derived.Test.YthffpjkkmkjplaaDoorKWordClaimsG12
import Derived.Test.YthffpjkkmkjplaaDoorKWordClaimsG3
-- Cut by a program of this session (wip/prune.py) from a longer text: declarations that the law does not need are left out.
namespace Go.Proofs.YthffpjkkmkjplaaDoor.Pure
open Go.RowKit Go.Proofs.YthffpjkkmkjplaaDoor Go.Proofs.YthffpjkkmkjplaaDoor.Q Go.Proofs.YthffpjkkmkjplaaDoor.Base Go.Proofs.YthffpjkkmkjplaaDoorW.PrintWords Go.Proofs.YthffpjkkmkjplaaDoorW.PrintLast Go.Proofs.YthffpjkkmkjplaaDoorW.PrintMore
set_option linter.unusedVariables false
theorem secondAt_ev {l : List POp} (h1 : one l) (hl : l.length ≤ 60) (i : Nat) (hi : i < l.length) (ha : arIs l[i] 2) : Ev (fun k => foretellref_secondAt.f k l (i : Int)) ((i + 1 + (endAt (l.drop (i + 1)) 0).toNat : Nat) : Int) := by
  obtain ⟨h2, h3, h4, h5⟩ := second_at h1 i hi ha
  unfold foretellref_secondAt.f
  rw [show wrap64 ((i : Int) + 1) = ((i + 1 : Nat) : Int) by rw [wrap_id (by omega) (by omega)]; rfl]
  refine ev_bind (endOf_ev l (by omega) (i + 1) (by omega)) (ev_eq (Ev.now _) ?_)
  obtain ⟨r, hr⟩ := one_places l h1 (i + 1) h2
  have e : endAt l (i + 1) = (l.length : Int) - r.length := by unfold endAt; rw [hr]
  rw [hr]
  show (l.length : Int) - r.length = _
  omega
end Go.Proofs.YthffpjkkmkjplaaDoor.Pure
-- Cut by a program of this session (wip/prune.py) from a longer text: declarations that the law does not need are left out.
namespace Go.Proofs.YthffpjkkmkjplaaDoor.Base
open Go.RowKit Go.Proofs.YthffpjkkmkjplaaDoorW.PrintWords Go.Proofs.YthffpjkkmkjplaaDoorW.PrintLast Go.Proofs.YthffpjkkmkjplaaDoorW.PrintMore
theorem ev_succ {α : Type} {g : Nat → Option α} {r : α} (h : Ev (fun k => g (k + 1)) r) : Ev g r := Ev.step (f := fun k => g (k + 1)) (fun _ => rfl) h
end Go.Proofs.YthffpjkkmkjplaaDoor.Base
