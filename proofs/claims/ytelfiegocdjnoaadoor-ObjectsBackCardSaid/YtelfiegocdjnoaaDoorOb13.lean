/- Allocated in general. Conditions: a plan of at most five pages; words of 64 bits; the package array reads as it was laid. -/
import Derived.Test.YtelfiegocdjnoaaDoorOb12
import Derived.Test.YtelfiegocdjnoaaDoorOb4
import Derived.Test.YtelfiegocdjnoaaDoorHe2
import Derived.Test.YtelfiegocdjnoaaDoorMrF0
import Derived.Test.YtelfiegocdjnoaaDoorMrF1
namespace Go.Proofs.YtelfiegocdjnoaaDoor.Ar
open Go Go.RowKit Go.Proofs.YtelfiegocdjnoaaDoor.Sep Go.Proofs.YtelfiegocdjnoaaDoor.Pg Go.Proofs.YtelfiegocdjnoaaDoorW.PrintWords Go.Proofs.YtelfiegocdjnoaaDoorW.PrintLast Go.Proofs.YtelfiegocdjnoaaDoorW.PrintMore Go.Proofs.YtelfiegocdjnoaaDoor.Q
set_option linter.unusedVariables false
set_option linter.unusedSimpArgs false
set_option maxHeartbeats 8000000
set_option maxRecDepth 100000
variable {w0 w : World} {F : List HP} {a gC : Nat} {lv : Value} {cn fl : Int} {X : List Int}
theorem allocated_none {P : Nat} (hP : P < 5) {at_ : Int} (hz : (plI P at_).1 < 0) (h : St w0 w (arB a gC X.length lv true cn fl :: ceB gC X :: F)) :
    Calls Tryd.prog 25 #[.pointer (some ⟨a, 0, none⟩), .agg #[.int .i64 ((P : Int) + 1), .int .i64 1, .int .i64 1], .int .i64 at_] w fun e w' => e = .returned (.bool false) ∧ St w0 w' (arB a gC X.length lv true cn fl :: ceB gC X :: F) := by
  have P1 := Aside.mk (place_ P hP at_)
  have H : Aside (St w0 _ (blk w.heap.size #[.int .i64 ((P : Int) + 1), .int .i64 1, .int .i64 1] 40 :: arB a gC X.length lv true cn fl :: ceB gC X :: F)) := Aside.mk (h.alloc #[.int .i64 ((P : Int) + 1), .int .i64 1, .int .i64 1] 40)
  generalize plI P at_ = z at *
  obtain ⟨pg, fi⟩ := z
  have hz1 : pg < 0 := hz
  have d1 : decide (pg < 0) = true := by simp; exact hz1
  clear h hz hP
  go_enter Tryd.func25, Tryd.ntmps25
  go_wp2_with (go_at_call 84; refine (layout_Plan_Place.calls _ _ _ _ _ _ _ P1.out).mono ?_; rintro e w1 ⟨rfl, hb⟩; replace H := Aside.mk (H.out.step hb); clear hb)
  go_ret
  exact ⟨rfl, H.out.rest⟩
/-- Is it allocated, by the page's entry and bits? -/
def allI (k c f al : Int) (j : Nat) : Bool := if f = 0 ∧ ¬ (bits BinOp.and IntKind.u64 (al / 2 ^ j) 1 = 0) then (if k = 1 then decide (cellI c j = j) else if k = 2 then decide (j = 0) else false) else false
theorem allocated_c {P : Nat} (hP : P < 5) {at_ : Int} {i j : Nat} {k c s o y f v al : Int} (hz : plI P at_ = ((i : Int), (j : Int))) (hi : i ≤ P) (hj : j < 64) (hX : X.length = 128 + 64 * P) (g1 : X.getD (22 + i) 0 = v) (g2 : X.getD (22 + (P + 1) + i) 0 = al) (hv0 : 0 ≤ v) (hv1 : v < 18446744073709551616) (hd : dec v = (k, c, s, o, y, f)) (hT : Tab w0) (h : St w0 w (arB a gC X.length lv true cn fl :: ceB gC X :: F)) :
    Calls Tryd.prog 25 #[.pointer (some ⟨a, 0, none⟩), .agg #[.int .i64 ((P : Int) + 1), .int .i64 1, .int .i64 1], .int .i64 at_] w fun e w' => e = .returned (.bool (allI k c f al j)) ∧ St w0 w' (arB a gC X.length lv true cn fl :: ceB gC X :: F) := by
  have P1 := Aside.mk (place_ P hP at_)
  rw [hz] at P1
  have P2 : Aside (layout_Plan_Entry.f ((P : Int) + 1) 1 1 (i : Int) = some ((22 + i : Nat) : Int)) := ⟨by have := pl_entry ⟨P, hP⟩ ⟨i, by omega⟩ hi; simp only at this; rw [this]; push_cast; rfl⟩
  have P3 : Aside (layout_Plan_Alloc.f ((P : Int) + 1) 1 1 (i : Int) = some ((22 + (P + 1) + i : Nat) : Int)) := ⟨by have := pl_alloc ⟨P, hP⟩ ⟨i, by omega⟩ hi; simp only at this; rw [this]; push_cast; rfl⟩
  have K1 := Aside.mk (fun (w : World) (L : List HP) (h : St w0 w (arB a gC X.length lv true cn fl :: ceB gC X :: L)) => peekv_ (22 + i) v (by omega) g1 h)
  have K2 := Aside.mk (fun (w : World) (L : List HP) (h : St w0 w (arB a gC X.length lv true cn fl :: ceB gC X :: L)) => peekv_ (22 + (P + 1) + i) al (by omega) g2 h)
  have KD : Aside (∀ w : World, Calls Tryd.prog 86 #[.int .u64 v] w fun e w' => e = .returned (.tuple #[.agg #[.int .i64 k, .int .i64 c, .int .i64 s, .int .i64 o, .int .i64 y], .int .i64 f]) ∧ Below w.heap.size w w') := ⟨fun w => dec_ci hv0 hv1 hd w⟩
  have HTS : Aside (∀ (w : World) (L : List HP), St w0 w L → Tab w) := ⟨fun _ _ hh => hT.st hh⟩
  have H : Aside (St w0 _ (blk w.heap.size #[.int .i64 ((P : Int) + 1), .int .i64 1, .int .i64 1] 40 :: arB a gC X.length lv true cn fl :: ceB gC X :: F)) := Aside.mk (h.alloc #[.int .i64 ((P : Int) + 1), .int .i64 1, .int .i64 1] 40)
  generalize X.length = n at *
  have np : ¬ (i : Int) < 0 := by omega
  have dp : decide ((i : Int) < 0) = false := by simp
  generalize 22 + i = ea at *
  generalize 22 + (P + 1) + i = aa at *
  clear hX g1 g2 h hT hz hv0 hv1 hd hi hP
  go_enter Tryd.func25, Tryd.ntmps25
  go_wp2_with (first
    | (go_at_call 84; refine (layout_Plan_Place.calls _ _ _ _ _ _ _ P1.out).mono ?_; rintro e w1 ⟨rfl, hb⟩; replace H := Aside.mk (H.out.step hb); clear hb; have z0 := H.out.cell 0; have z1 := H.out.cell 1; have z2 := H.out.cell 2)
    | (go_at_call 85; refine (layout_Plan_Entry.calls _ _ _ _ _ _ P2.out).mono ?_; rintro e w2 ⟨rfl, hb⟩; replace H := Aside.mk (H.out.step hb); clear hb z0 z1 z2)
    | (with_reducible refine stop_at (.store 168 (.tmp 11) (.tmp 35)) rfl ?_)
    | (go_at_call 86; refine (KD.out _).mono ?_; rintro e w3 ⟨rfl, hb⟩; replace H := Aside.mk (H.out.step hb); clear hb)
    | (go_at_call 19; refine (K1.out _ _ (H.out.order 3 [1, 2, 0] rfl rfl)).mono ?_; rintro e w4 ⟨rfl, rfl⟩))
  replace H := Aside.mk (H.out.alloc #[.int .i64 0, .int .i64 0, .int .i64 0, .int .i64 0, .int .i64 0] 168)
  generalize w3.heap.size = ent at H ⊢
  refine ⟨?_⟩
  refine st_store rfl rfl rfl [.int .i64 k, .int .i64 c, .int .i64 s, .int .i64 o, .int .i64 y] #[.int .i64 k, .int .i64 c, .int .i64 s, .int .i64 o, .int .i64 y] rfl rfl rfl (Nat.le_of_ble_eq_true rfl) (by simp [Value.oneCell']) H.out rfl ?_
  intro w5 h_
  replace H : Aside (St w0 w5 (blk ent #[.int .i64 k, .int .i64 c, .int .i64 s, .int .i64 o, .int .i64 y] 168 :: blk w.heap.size #[.int .i64 ((P : Int) + 1), .int .i64 1, .int .i64 1] 40 :: arB a gC n lv true cn fl :: ceB gC X :: F)) := Aside.mk h_
  clear h_
  have z0 := (H.out.pick 1 rfl).cell 0
  have z1 := (H.out.pick 1 rfl).cell 1
  have z2 := (H.out.pick 1 rfl).cell 2
  go_wp2_with (first
    | (go_at_call 93; refine (layout_Plan_Alloc.calls _ _ _ _ _ _ P3.out).mono ?_; rintro e w6 ⟨rfl, hb⟩; replace H := Aside.mk (H.out.step hb); clear hb z0 z1 z2; have e0 := H.out.cell 0; have e1 := H.out.cell 1)
    | (go_at_call 94; refine (cell_c _ _ HT8.out).mono ?_; rintro e w8 ⟨rfl, hb⟩; replace H := Aside.mk (H.out.step hb); clear hb e0 e1)
    | (go_at_call 19; refine (K2.out _ _ (H.out.order 4 [2, 3, 1, 0] rfl rfl)).mono ?_; rintro e w7 ⟨rfl, rfl⟩; have HT8 := Aside.mk (HTS.out _ _ H.out)))
  all_goals (go_ret; refine ⟨congrArg (fun b : Bool => Ending.returned (Value.bool b)) ?_, H.out.rest.rest⟩)
  all_goals (unfold allI; grind)
end Go.Proofs.YtelfiegocdjnoaaDoor.Ar
