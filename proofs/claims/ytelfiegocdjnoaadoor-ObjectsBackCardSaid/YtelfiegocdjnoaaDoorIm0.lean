/- An arena's image. Conditions: an arena that is not great. -/
import Derived.Test.YtelfiegocdjnoaaDoorOb3
import Derived.Test.YtelfiegocdjnoaaDoorAr1
namespace Go.Proofs.YtelfiegocdjnoaaDoor.Ar
open Go Go.RowKit Go.Proofs.YtelfiegocdjnoaaDoor.Sep Go.Proofs.YtelfiegocdjnoaaDoorW.PrintWords Go.Proofs.YtelfiegocdjnoaaDoorW.PrintLast Go.Proofs.YtelfiegocdjnoaaDoorW.PrintMore Go.Proofs.YtelfiegocdjnoaaDoor.Q
set_option linter.unusedVariables false
set_option linter.unusedSimpArgs false
set_option maxHeartbeats 8000000
set_option maxRecDepth 100000
theorem add0 (g j : Nat) : (⟨g, 0, none⟩ : Addr).add j = ⟨g, j, none⟩ := by unfold Addr.add; split <;> simp_all
theorem image_ {w0 w : World} {F : List HP} {a gC : Nat} {lv : Value} {keep : Bool} {cn fl : Int} {X : List Int} (hX : X.length ≤ 4096) (h : St w0 w (arB a gC X.length lv keep cn fl :: ceB gC X :: F)) :
    Calls Tryd.prog 34 #[.pointer (some ⟨a, 0, none⟩)] w fun e w' => ∃ V, e = .returned V ∧ St w0 w' (row 22 1 V X.length (U X) :: arB a gC X.length lv keep cn fl :: ceB gC X :: F) := by

  have HX := Aside.mk hX
  have H : Aside (St w0 _ (row 22 1 (.slice (some ⟨w.heap.size, 0, none⟩) 0 0) 0 [] :: arB a gC X.length lv keep cn fl :: ceB gC X :: F)) := Aside.mk (h.new_row #[] (0, 0) rfl (by decide))
  have x0 := (H.out.pick 1 rfl).cell 0
  clear h hX
  go_enter Tryd.func34, Tryd.ntmps34
  go_wp2_with (at_builtin; refine append_run rfl (.tmp 5) (.tmp 9) 30 22 (.int .u64 0) 1 8 rfl Tryd.underlying30 info22 rfl (by decide) (by decide) _ 0 [] rfl ⟨gC, 0, none⟩ X.length X.length (U X) rfl (by simp [U]) (by intro j u hu; rw [add0, (H.out.pick 2 rfl).cell j]; simpa using hu) (by intro u hu; simp only [U, List.mem_map] at hu; obtain ⟨y, _, rfl⟩ := hu; rfl) H.out (by have := HX.out; omega) ?_; intro A9 c9 w9 hc h9; replace H := Aside.mk h9; clear h9 hc)
  go_ret
  refine ⟨_, rfl, ?_⟩
  have h9 := H.out
  simpa using h9
end Go.Proofs.YtelfiegocdjnoaaDoor.Ar
