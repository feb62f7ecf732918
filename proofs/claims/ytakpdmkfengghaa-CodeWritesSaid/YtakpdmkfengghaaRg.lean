/- Words for the walk through a region that draws its order, on the print's own laws (start_, pure_, take_, one_). -/
import Derived.Test.YtakpdmkfengghaaWMore
import Derived.Test.YtakpdmkfengghaaWLast
open Go Go.RowKit Go.Proofs.YtakpdmkfengghaaW.PrintWords Go.Proofs.YtakpdmkfengghaaW.PrintLast Go.Proofs.YtakpdmkfengghaaW.PrintMore
/-- A step that yields in every world. -/
macro "rg_pure " i:term:max ppSpace n:term:max ppSpace l:term:max : tactic => `(tactic|
  (refine pure_ (i := $i) (N := some $n) (v := ?_) (a' := ?_) $l rfl rfl (by kernel_rfl) (fun _ _ _ h => h) (Or.inl ⟨by rfl, ?_⟩) ?_ ?_
   rotate_left
   · intro w'
     go_simp
     with_reducible rfl
   rotate_left
   · simp only [Act.put, List.setIfInBounds_toArray, List.set_cons_zero, List.set_cons_succ, i64_w, i32_w]
     rfl))
/-- A load of what S holds. -/
macro "rg_take " i:term:max ppSpace n:term:max ppSpace l:term:max ppSpace h:term:max ppSpace p:rintroPat : tactic => `(tactic|
  (refine take_ (i := $i) (N := some $n) (v := ?_) (a' := ?_) $l rfl rfl (by kernel_rfl) (fun _ _ _ h => h) (Or.inl ⟨by rfl, ?_⟩) $h ?_ ?_
   rotate_left
   · rintro w' $p
     go_simp
     with_reducible rfl
   rotate_left
   · simp only [Act.put, List.setIfInBounds_toArray, List.set_cons_zero, List.set_cons_succ, i64_w, i32_w]
     rfl))
/-- What a call answered has been put into its slot. -/
macro "rg_norm " n:term:max : tactic => `(tactic|
  (refine norm_ (a' := ?_) ?_ ?_
   rotate_left
   · show Act.put _ (some $n) _ = _
     simp only [Act.put, List.setIfInBounds_toArray, List.set_cons_zero, List.set_cons_succ, i64_w, i32_w]
     rfl))
/-- A call's arguments. -/
macro "rg_args" : term => `(by (try simp only [List.map_toArray, List.map_cons, List.map_nil]); first | done | rfl)
