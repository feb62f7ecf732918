/- The object that 'built' builds is looked at. Conditions: the cells 22, 23, 66, 67 hold what they hold there. -/
import Derived.Test.YtelfiegocdjnoaaDoorMgJ
import Derived.Test.YtelfiegocdjnoaaDoorMgL
import Derived.Test.YtelfiegocdjnoaaDoorLk6
import Derived.Deep.CutBlock
import Derived.Test.YtelfiegocdjnoaaDoorMrF0
import Derived.Test.YtelfiegocdjnoaaDoorMrF1
import Derived.Test.YtelfiegocdjnoaaDoorOb12
namespace Go.Proofs.YtelfiegocdjnoaaDoor.Ar
open Go Go.RowKit Go.Proofs.YtelfiegocdjnoaaDoor.Sep Go.Proofs.YtelfiegocdjnoaaDoor.Pg Go.Proofs.YtelfiegocdjnoaaDoorW.PrintWords Go.Proofs.YtelfiegocdjnoaaDoorW.PrintLast Go.Proofs.YtelfiegocdjnoaaDoorW.PrintMore Go.Proofs.YtelfiegocdjnoaaDoor.Q
set_option linter.unusedVariables false
set_option linter.unusedSimpArgs false
set_option maxHeartbeats 8000000
set_option maxRecDepth 100000
section
variable {w0 w : World} {F : List HP} {a gC : Nat} {lv : Value} {cn fl : Int} {X : List Int}
theorem peekv_ (i : Nat) (v : Int) (hi : i < X.length) (hv : X.getD i 0 = v) (h : St w0 w (arB a gC X.length lv true cn fl :: ceB gC X :: F)) :
    Calls Tryd.prog 19 #[.pointer (some ⟨a, 0, none⟩), .int .i64 i] w fun e w' => e = .returned (.tuple #[.int .u64 v, .int .i64 0]) ∧ w' = w := by
  rw [← hv]; exact peek_yes i hi h
theorem allocated_b (hX : X.length = 128) (g22 : X.getD 22 0 = 65) (g23 : X.getD 23 0 = 4) (hT : Tab w0) (h : St w0 w (arB a gC X.length lv true cn fl :: ceB gC X :: F)) :
    Calls Tryd.prog 25 #[.pointer (some ⟨a, 0, none⟩), .agg #[.int .i64 1, .int .i64 1, .int .i64 1], .int .i64 66] w fun e w' => e = .returned (.bool true) ∧ St w0 w' (arB a gC X.length lv true cn fl :: ceB gC X :: F) := by
  have P1 := Aside.mk (show layout_Plan_Place.f 1 1 1 66 = some (0, 2) by decide +kernel)
  have P2 := Aside.mk (show layout_Plan_Entry.f 1 1 1 0 = some 22 by decide +kernel)
  have P3 := Aside.mk (show layout_Plan_Alloc.f 1 1 1 0 = some 23 by decide +kernel)
  have P4 : Aside (∀ w : World, Calls Tryd.prog 86 #[.int .u64 65] w fun e w' => e = .returned (.tuple #[.agg #[.int .i64 1, .int .i64 0, .int .i64 1, .int .i64 0, .int .i64 0], .int .i64 0]) ∧ Below w.heap.size w w') := ⟨fun w => dec_ci (by decide) (by decide) (show dec 65 = (1, 0, 1, 0, 0, 0) by decide +kernel) w⟩
  have K1 := Aside.mk (fun (w : World) (L : List HP) (h : St w0 w (arB a gC X.length lv true cn fl :: ceB gC X :: L)) => peekv_ 22 65 (by omega) g22 h)
  have K2 := Aside.mk (fun (w : World) (L : List HP) (h : St w0 w (arB a gC X.length lv true cn fl :: ceB gC X :: L)) => peekv_ 23 4 (by omega) g23 h)
  have HTS : Aside (∀ (w : World) (L : List HP), St w0 w L → Tab w) := ⟨fun _ _ hh => hT.st hh⟩
  have H : Aside (St w0 _ (blk w.heap.size #[.int .i64 1, .int .i64 1, .int .i64 1] 40 :: arB a gC X.length lv true cn fl :: ceB gC X :: F)) := Aside.mk (h.alloc #[.int .i64 1, .int .i64 1, .int .i64 1] 40)
  generalize X.length = n at *
  clear hX g22 g23 h hT
  go_enter Tryd.func25, Tryd.ntmps25
  go_wp2_with (first
    | (go_at_call 84; refine (layout_Plan_Place.calls _ _ _ _ _ _ _ P1.out).mono ?_; rintro e w1 ⟨rfl, hb⟩; replace H := Aside.mk (H.out.step hb); clear hb; have z0 := H.out.cell 0; have z1 := H.out.cell 1; have z2 := H.out.cell 2)
    | (go_at_call 85; refine (layout_Plan_Entry.calls _ _ _ _ _ _ P2.out).mono ?_; rintro e w2 ⟨rfl, hb⟩; replace H := Aside.mk (H.out.step hb); clear hb z0 z1 z2)
    | (with_reducible refine stop_at (.store 168 (.tmp 11) (.tmp 35)) rfl ?_)
    | (go_at_call 86; refine (P4.out _).mono ?_; rintro e w3 ⟨rfl, hb⟩; replace H := Aside.mk (H.out.step hb); clear hb)
    | (go_at_call 19; refine (K1.out _ _ (H.out.order 3 [1, 2, 0] rfl rfl)).mono ?_; rintro e w4 ⟨rfl, rfl⟩))
  replace H := Aside.mk (H.out.alloc #[.int .i64 0, .int .i64 0, .int .i64 0, .int .i64 0, .int .i64 0] 168)
  generalize w3.heap.size = ent at H ⊢
  refine ⟨?_⟩
  refine st_store rfl rfl rfl [.int .i64 1, .int .i64 0, .int .i64 1, .int .i64 0, .int .i64 0] #[.int .i64 1, .int .i64 0, .int .i64 1, .int .i64 0, .int .i64 0] rfl rfl rfl (Nat.le_of_ble_eq_true rfl) (by simp [Value.oneCell']) H.out rfl ?_
  intro w5 h_
  replace H : Aside (St w0 w5 (blk ent #[.int .i64 1, .int .i64 0, .int .i64 1, .int .i64 0, .int .i64 0] 168 :: blk w.heap.size #[.int .i64 1, .int .i64 1, .int .i64 1] 40 :: arB a gC n lv true cn fl :: ceB gC X :: F)) := Aside.mk h_
  clear h_
  have z0 := (H.out.pick 1 rfl).cell 0
  have z1 := (H.out.pick 1 rfl).cell 1
  have z2 := (H.out.pick 1 rfl).cell 2
  go_wp2_with (first
    | (go_at_call 93; refine (layout_Plan_Alloc.calls _ _ _ _ _ _ P3.out).mono ?_; rintro e w6 ⟨rfl, hb⟩; replace H := Aside.mk (H.out.step hb); clear hb z0 z1 z2; have e0 := H.out.cell 0; have e1 := H.out.cell 1)
    | (go_at_call 94; refine (cell0_ HT8.out).mono ?_; rintro e w8 ⟨rfl, hb⟩; replace H := Aside.mk (H.out.step hb); clear hb e0 e1)
    | (go_at_call 19; refine (K2.out _ _ (H.out.order 4 [2, 3, 1, 0] rfl rfl)).mono ?_; rintro e w7 ⟨rfl, rfl⟩; have HT8 := Aside.mk (HTS.out _ _ H.out)))
  go_ret
  exact ⟨rfl, H.out.rest.rest⟩
theorem info2 : (Tryd.prog.info? 2).map (fun i => (i.zero, i.size, i.bytes)) = some (some (.int .i64 0), 1, 8) := by kernel_rfl
theorem app64 {w0 W : World} {F : List HP} {ops : Array Oper} {rest : List Oper} {o : Oper} {a : Act} {Q : Exit → Act → World → Prop} (hgd : o.guard = none) (s x : Operand) (ho : o.op = .call { callee := .builtin .append, args := #[s, x], argTypes := #[58, 58] })
    (v : Value) (L : List Int) (i : Int) (hs : a.eval s = v) (hx : a.eval x = .slice (some ⟨W.heap.size, 0, none⟩) 1 1) (H : St w0 W (row 2 1 v L.length (L.map (.int .i64)) :: F)) (hl : L.length ≤ 1000)
    (h : ∀ V w1, St w0 w1 (row 2 1 V (L ++ [i]).length ((L ++ [i]).map (.int .i64)) :: F) → wpList Tryd.prog ops Q rest (a.put o.dst V) w1) :
    wpList Tryd.prog ops Q (o :: rest) a (W.alloc (.cells #[.int .i64 i] 2)) := by
  refine append_run hgd s x 58 2 (.int .i64 0) 1 8 ho Tryd.underlying58 info2 rfl (by decide) (by decide) v L.length (L.map (.int .i64)) hs ⟨W.heap.size, 0, none⟩ 1 1 [.int .i64 i] hx rfl (new_cells W [.int .i64 i] 2) (by simp [Value.oneCell']) (H.garbage _) (by omega) ?_
  intro A1 c1 w1 hc h1
  refine h _ w1 ?_
  rw [List.length_append, List.map_append]
  exact h1
abbrev LK (bx ob hb cb a gC : Nat) (lv : Value) (cn fl : Int) (X : List Int) (V : Value) (i : Nat) (F : List HP) : List HP :=
  blk cb #[.int .i64 66, .int .i64 0, .int .i64 2, V] 60 :: row 2 1 V (List.replicate i (0 : Int)).length ((List.replicate i (0 : Int)).map (.int .i64)) :: blk hb #[.int .i64 0, .int .i64 2, .int .i64 1] 43 :: blk ob #[.int .i64 0, .int .i64 0, .int .i64 0, .slice none 0 0] 60 :: blk bx #[.int .i64 1, .int .i64 1, .int .i64 1] 40 :: arB a gC X.length lv true cn fl :: ceB gC X :: F
theorem front7_ {w0 w : World} {A B C D E G I J : HP} {F : List HP} (h : St w0 w (A :: B :: C :: D :: E :: G :: I :: J :: F)) : St w0 w (A :: B :: C :: D :: E :: G :: I :: F) := (h.pick 7 rfl).rest
theorem look_b (t : Value) (hX : X.length = 128) (g22 : X.getD 22 0 = 65) (g23 : X.getD 23 0 = 4) (g66 : X.getD 66 0 = 11889503016258174978) (g67 : X.getD 67 0 = 0) (hT : Tab w0) (h : St w0 w (arB a gC X.length lv true cn fl :: ceB gC X :: F)) :
    Calls Tryd.prog 23 #[.pointer (some ⟨a, 0, none⟩), .agg #[.int .i64 1, .int .i64 1, .int .i64 1], t, .int .i64 66] w fun e w' => ∃ V, e = .returned (.tuple #[.agg #[.int .i64 66, .int .i64 0, .int .i64 2, V], .int .i64 0]) ∧ St w0 w' (row 2 1 V 1 [.int .i64 0] :: arB a gC X.length lv true cn fl :: ceB gC X :: F) := by
  have P1 := Aside.mk (show layout_Plan_Place.f 1 1 1 66 = some (0, 2) by decide +kernel)
  have P2 := Aside.mk (show layout_Plan_Entry.f 1 1 1 0 = some 22 by decide +kernel)
  have P4 : Aside (∀ w : World, Calls Tryd.prog 86 #[.int .u64 65] w fun e w' => e = .returned (.tuple #[.agg #[.int .i64 1, .int .i64 0, .int .i64 1, .int .i64 0, .int .i64 0], .int .i64 0]) ∧ Below w.heap.size w w') := ⟨fun w => dec_ci (by decide) (by decide) (show dec 65 = (1, 0, 1, 0, 0, 0) by decide +kernel) w⟩
  have P5 : Aside (∀ w : World, Calls Tryd.prog 82 #[.int .u64 11889503016258174978] w fun e w' => e = .returned (.tuple #[.agg #[.int .i64 0, .int .i64 2, .int .i64 1], .int .i64 0]) ∧ Below w.heap.size w w') := ⟨fun w => dhead_c (by decide) (by decide) (show decH 11889503016258174978 = (0, 2, 1, 0) by decide +kernel) w⟩
  have P6 := Aside.mk (show objects_Field.f 66 0 = some 67 by decide +kernel)
  have K1 := Aside.mk (fun (w : World) (L : List HP) (h : St w0 w (arB a gC X.length lv true cn fl :: ceB gC X :: L)) => peekv_ 22 65 (by omega) g22 h)
  have K2 := Aside.mk (fun (w : World) (L : List HP) (h : St w0 w (arB a gC X.length lv true cn fl :: ceB gC X :: L)) => peekv_ 66 _ (by omega) g66 h)
  have K3 := Aside.mk (fun (w : World) (L : List HP) (h : St w0 w (arB a gC X.length lv true cn fl :: ceB gC X :: L)) => peekv_ 67 _ (by omega) g67 h)
  have KA := Aside.mk (fun (w : World) (L : List HP) (h : St w0 w (arB a gC X.length lv true cn fl :: ceB gC X :: L)) => allocated_b hX g22 g23 hT h)
  have HTS : Aside (∀ (w : World) (L : List HP), St w0 w L → Tab w) := ⟨fun _ _ hh => hT.st hh⟩
  have H : Aside (St w0 _ (blk (w.heap.size + 1) #[.int .i64 0, .int .i64 0, .int .i64 0, .slice none 0 0] 60 :: blk w.heap.size #[.int .i64 1, .int .i64 1, .int .i64 1] 40 :: arB a gC X.length lv true cn fl :: ceB gC X :: F)) := Aside.mk (by have := (h.alloc #[.int .i64 1, .int .i64 1, .int .i64 1] 40).alloc #[.int .i64 0, .int .i64 0, .int .i64 0, .slice none 0 0] 60; simpa using this)
  clear hX g22 g23 g66 g67 h hT
  go_enter Tryd.func23, Tryd.ntmps23
  go_wp2_with (first
    | (go_at_call 25; refine (KA.out _ _ (H.out.order 4 [2, 3, 0, 1] rfl rfl)).mono ?_; rintro e w1 ⟨rfl, h9⟩; replace H := Aside.mk h9; clear h9)
    | (go_at_call 19; refine (K2.out _ _ H.out).mono ?_; rintro e w2 ⟨rfl, rfl⟩)
    | (with_reducible refine stop_at (.store 43 (.tmp 12) (.tmp 42)) rfl ?_)
    | (go_at_call 82; refine (P5.out _).mono ?_; rintro e w3 ⟨rfl, hb⟩; replace H := Aside.mk (H.out.step hb); clear hb))
  replace H := Aside.mk (H.out.alloc #[.int .i64 0, .int .i64 0, .int .i64 0] 43)
  generalize w3.heap.size = hb at H ⊢
  refine ⟨?_⟩
  refine st_store rfl rfl rfl [.int .i64 0, .int .i64 2, .int .i64 1] #[.int .i64 0, .int .i64 2, .int .i64 1] rfl rfl rfl (Nat.le_of_ble_eq_true rfl) (by simp [Value.oneCell']) H.out rfl ?_
  intro w4 h_
  replace H : Aside (St w0 w4 (blk hb #[.int .i64 0, .int .i64 2, .int .i64 1] 43 :: arB a gC X.length lv true cn fl :: ceB gC X :: blk (w.heap.size + 1) #[.int .i64 0, .int .i64 0, .int .i64 0, .slice none 0 0] 60 :: blk w.heap.size #[.int .i64 1, .int .i64 1, .int .i64 1] 40 :: F)) := Aside.mk h_
  clear h_
  have z0 := H.out.cell 0
  have z1 := H.out.cell 1
  have z2 := H.out.cell 2
  go_wp2_with (first
    | (go_at_call 83; refine (fitsT_ _ _).mono ?_; rintro e w5 ⟨rfl, hb⟩; replace H := Aside.mk (H.out.step hb); clear hb z0 z1 z2; have y0 := (H.out.pick 4 rfl).cell 0; have y1 := (H.out.pick 4 rfl).cell 1; have y2 := (H.out.pick 4 rfl).cell 2)
    | (go_at_call 84; refine (layout_Plan_Place.calls _ _ _ _ _ _ _ P1.out).mono ?_; rintro e w6 ⟨rfl, hb⟩; replace H := Aside.mk (H.out.step hb); clear hb y0 y1 y2; have x0 := (H.out.pick 4 rfl).cell 0; have x1 := (H.out.pick 4 rfl).cell 1; have x2 := (H.out.pick 4 rfl).cell 2)
    | (go_at_call 85; refine (layout_Plan_Entry.calls _ _ _ _ _ _ P2.out).mono ?_; rintro e w7 ⟨rfl, hb⟩; replace H := Aside.mk (H.out.step hb); clear hb x0 x1 x2)
    | (with_reducible refine stop_at (.store 168 (.tmp 17) (.tmp 70)) rfl ?_)
    | (go_at_call 86; refine (P4.out _).mono ?_; rintro e w8 ⟨rfl, hb⟩; replace H := Aside.mk (H.out.step hb); clear hb)
    | (go_at_call 19; refine (K1.out _ _ (H.out.order 3 [1, 2, 0] rfl rfl)).mono ?_; rintro e w9 ⟨rfl, rfl⟩))
  replace H := Aside.mk (H.out.alloc #[.int .i64 0, .int .i64 0, .int .i64 0, .int .i64 0, .int .i64 0] 168)
  generalize w8.heap.size = en at H ⊢
  refine ⟨?_⟩
  refine st_store rfl rfl rfl [.int .i64 1, .int .i64 0, .int .i64 1, .int .i64 0, .int .i64 0] #[.int .i64 1, .int .i64 0, .int .i64 1, .int .i64 0, .int .i64 0] rfl rfl rfl (Nat.le_of_ble_eq_true rfl) (by simp [Value.oneCell']) H.out rfl ?_
  intro w10 h_
  replace H : Aside (St w0 w10 (blk en #[.int .i64 1, .int .i64 0, .int .i64 1, .int .i64 0, .int .i64 0] 168 :: blk hb #[.int .i64 0, .int .i64 2, .int .i64 1] 43 :: arB a gC X.length lv true cn fl :: ceB gC X :: blk (w.heap.size + 1) #[.int .i64 0, .int .i64 0, .int .i64 0, .slice none 0 0] 60 :: blk w.heap.size #[.int .i64 1, .int .i64 1, .int .i64 1] 40 :: F)) := Aside.mk h_
  clear h_
  have HT8 := Aside.mk (HTS.out _ _ H.out)
  have e0 := H.out.cell 0
  have e1 := H.out.cell 1
  have e2 := H.out.cell 2
  have e3 := H.out.cell 3
  have e4 := H.out.cell 4
  have z0 := (H.out.pick 1 rfl).cell 0
  have z1 := (H.out.pick 1 rfl).cell 1
  have z2 := (H.out.pick 1 rfl).cell 2
  have x0 := (H.out.pick 5 rfl).cell 0
  go_wp2_with (first
    | (go_at_call 87; refine (fits_ HT8.out).mono ?_; rintro e w11 ⟨rfl, hb⟩; replace H := Aside.mk (H.out.step hb); clear hb z0 z1 z2 e0 e1 e2 e3 e4 x0; have z0 := (H.out.pick 1 rfl).cell 0; have z1 := (H.out.pick 1 rfl).cell 1)
    | (with_reducible refine stop_at (.store 60 (.tmp 19) (.tmp 86)) rfl ?_))
  replace H := Aside.mk (H.out.alloc #[.int .i64 0, .int .i64 0, .int .i64 0, .slice none 0 0] 60)
  generalize w11.heap.size = cb at H ⊢
  refine ⟨?_⟩
  refine st_store rfl rfl rfl [.int .i64 66, .int .i64 0, .int .i64 2, .slice none 0 0] #[.int .i64 66, .int .i64 0, .int .i64 2, .slice none 0 0] rfl rfl rfl (Nat.le_of_ble_eq_true rfl) (by simp [Value.oneCell']) H.out rfl ?_
  intro w12 h_
  replace H : Aside (St w0 w12 (LK w.heap.size (w.heap.size + 1) hb cb a gC lv cn fl X (.slice none 0 0) 0 F)) := Aside.mk (front7_ ((h_.nil_row 2 1).order 8 [1, 0, 3, 6, 7, 4, 5, 2] rfl rfl))
  clear h_ HT8 z0 z1
  have z2 := (H.out.pick 2 rfl).cell 2
  go_upto_block 0 with fail
  go_cut [20, 21, 22, 89] (fun v20 v21 v22 v89 wc => ∃ V, Aside (St w0 wc (LK w.heap.size (w.heap.size + 1) hb cb a gC lv cn fl X V 1 F)))
  case first =>
    go_wp2_with fail
    go_loopg [20, 21, 22, 89] (1) (fun m v20 v21 v22 v89 w' => ∃ (i : Nat) (V : Value), m = 1 - i ∧ i ≤ 1 ∧ v89 = .int .i64 i ∧ Aside (St w0 w' (LK w.heap.size (w.heap.size + 1) hb cb a gC lv cn fl X V i F)))
    case atStart => exact ⟨0, _, rfl, Nat.zero_le _, rfl, H⟩
    case round =>
      clear H z2
      obtain ⟨i, V, rfl, hi, rfl, H⟩ := hrel
      by_cases hlt : i < 1
      · obtain rfl : i = 0 := by omega
        clear hi hlt
        go_wp2_with (first
          | (go_at_call 28; refine (objects_Field.calls _ _ _ _ P6.out).mono ?_; rintro e w13 ⟨rfl, hb⟩; replace H := Aside.mk (H.out.step hb.below); clear hb)
          | (with_reducible refine stop_at (.store 58 (.tmp 106) (.tmp 105)) rfl ?_)
          | (go_at_call 19; refine (K3.out _ _ (H.out.order 7 [5, 6, 0, 1, 2, 3, 4] rfl rfl)).mono ?_; rintro e w14 ⟨rfl, rfl⟩; have c3 := H.out.cell 3)
          | (at_builtin; refine app64 rfl (.tmp 101) (.tmp 104) rfl _ _ 0 rfl rfl (H.out.pick 1 rfl) (by simp) ?_; intro V9 w15 h9; obtain ⟨A9, c9, hv9, _, _⟩ := h9.row_slice; subst hv9; replace H := Aside.mk (h9.order 2 [1, 0] rfl rfl); clear h9 c3))
        refine ⟨?_⟩
        refine st_store rfl rfl rfl [.slice A9 1 c9] #[.int .i64 66, .int .i64 0, .int .i64 2, .slice A9 1 c9] rfl rfl rfl (Nat.le_of_ble_eq_true rfl) (by simp [Value.oneCell']) H.out rfl ?_
        intro w16 h_
        replace H : Aside (St w0 w16 (LK w.heap.size (w.heap.size + 1) hb cb a gC lv cn fl X (.slice A9 1 c9) 1 F)) := Aside.mk h_
        clear h_
        go_wp2
        go_roundg (1 - (0 + 1))
        case measure => omega
        case rel => exact ⟨1, .slice A9 1 c9, rfl, Nat.le_refl _, rfl, H⟩
      · obtain rfl : i = 1 := by omega
        clear hi hlt
        go_wp2
        go_meet
        case rel => exact ⟨V, H⟩
  case rest =>
    clear H z2
    obtain ⟨V, H⟩ := hcut
    obtain ⟨A9, c9, hv9, _, _⟩ := (H.out.pick 1 rfl).row_slice
    subst hv9
    have c0 := H.out.cell 0
    have c1 := H.out.cell 1
    have c2 := H.out.cell 2
    have c3 := H.out.cell 3
    go_wp2_with (with_reducible refine stop_at (.store 60 (.tmp 8) (.tmp 108)) rfl ?_)
    refine ⟨?_⟩
    refine st_store rfl rfl rfl [.int .i64 66, .int .i64 0, .int .i64 2, .slice A9 1 c9] #[.int .i64 66, .int .i64 0, .int .i64 2, .slice A9 1 c9] rfl rfl rfl (Nat.le_of_ble_eq_true rfl) (by simp [Value.oneCell']) (H.out.pick 3 rfl) rfl ?_
    intro w17 h_
    have H := Aside.mk h_
    have o0 := h_.cell 0
    have o1 := h_.cell 1
    have o2 := h_.cell 2
    have o3 := h_.cell 3
    clear h_
    go_wp2
    refine bodyPost_ret (results_ct rfl _ _ _ 60 #[.int .i64 66, .int .i64 0, .int .i64 2, .slice A9 1 c9] (0, 0) _ rfl H.out.heap Tryd.underlying60 rfl (by kernel_rfl)) rfl ?_
    exact ⟨.slice A9 1 c9, rfl, (H.out.order 7 [0, 1, 3, 4, 2, 5, 6] rfl rfl).rest.rest.rest.rest⟩
end
section
variable {w0 w : World} {F : List HP} {a gC : Nat} {lv : Value} {cn fl : Int} {X : List Int}
theorem allocated_none {P : Nat} (hP : P < 5) {at_ : Int} (hz : (plI P at_).1 < 0) (h : St w0 w (arB a gC X.length lv true cn fl :: ceB gC X :: F)) :
    Calls Tryd.prog 25 #[.pointer (some ⟨a, 0, none⟩), .agg #[.int .i64 ((P : Int) + 1), .int .i64 1, .int .i64 1], .int .i64 at_] w fun e w' => e = .returned (.bool false) ∧ St w0 w' (arB a gC X.length lv true cn fl :: ceB gC X :: F) := by
  have P1 := Aside.mk (place_ P hP at_)
  have H : Aside (St w0 _ (blk w.heap.size #[.int .i64 ((P : Int) + 1), .int .i64 1, .int .i64 1] 40 :: arB a gC X.length lv true cn fl :: ceB gC X :: F)) := Aside.mk (h.alloc #[.int .i64 ((P : Int) + 1), .int .i64 1, .int .i64 1] 40)
  generalize plI P at_ = z at *
  obtain ⟨pg, fi⟩ := z
  have hz1 : pg < 0 := hz
  have d1 : decide (pg < 0) = true := by simp; exact hz1
  clear h hz hP
  go_enter Tryd.func25, Tryd.ntmps25
  go_wp2_with (go_at_call 84; refine (layout_Plan_Place.calls _ _ _ _ _ _ _ P1.out).mono ?_; rintro e w1 ⟨rfl, hb⟩; replace H := Aside.mk (H.out.step hb); clear hb)
  go_ret
  exact ⟨rfl, H.out.rest⟩
/-- Is it allocated, by the page's entry and bits? -/
def allI (k c f al : Int) (j : Nat) : Bool := if f = 0 ∧ ¬ (bits BinOp.and IntKind.u64 (al / 2 ^ j) 1 = 0) then (if k = 1 then decide (cellI c j = j) else if k = 2 then decide (j = 0) else false) else false
theorem allocated_c {P : Nat} (hP : P < 5) {at_ : Int} {i j : Nat} {k c s o y f v al : Int} (hz : plI P at_ = ((i : Int), (j : Int))) (hi : i ≤ P) (hj : j < 64) (hX : X.length = 128 + 64 * P) (g1 : X.getD (22 + i) 0 = v) (g2 : X.getD (22 + (P + 1) + i) 0 = al) (hv0 : 0 ≤ v) (hv1 : v < 18446744073709551616) (hd : dec v = (k, c, s, o, y, f)) (hT : Tab w0) (h : St w0 w (arB a gC X.length lv true cn fl :: ceB gC X :: F)) :
    Calls Tryd.prog 25 #[.pointer (some ⟨a, 0, none⟩), .agg #[.int .i64 ((P : Int) + 1), .int .i64 1, .int .i64 1], .int .i64 at_] w fun e w' => e = .returned (.bool (allI k c f al j)) ∧ St w0 w' (arB a gC X.length lv true cn fl :: ceB gC X :: F) := by
  have P1 := Aside.mk (place_ P hP at_)
  rw [hz] at P1
  have P2 : Aside (layout_Plan_Entry.f ((P : Int) + 1) 1 1 (i : Int) = some ((22 + i : Nat) : Int)) := ⟨by have := pl_entry ⟨P, hP⟩ ⟨i, by omega⟩ hi; simp only at this; rw [this]; push_cast; rfl⟩
  have P3 : Aside (layout_Plan_Alloc.f ((P : Int) + 1) 1 1 (i : Int) = some ((22 + (P + 1) + i : Nat) : Int)) := ⟨by have := pl_alloc ⟨P, hP⟩ ⟨i, by omega⟩ hi; simp only at this; rw [this]; push_cast; rfl⟩
  have K1 := Aside.mk (fun (w : World) (L : List HP) (h : St w0 w (arB a gC X.length lv true cn fl :: ceB gC X :: L)) => peekv_ (22 + i) v (by omega) g1 h)
  have K2 := Aside.mk (fun (w : World) (L : List HP) (h : St w0 w (arB a gC X.length lv true cn fl :: ceB gC X :: L)) => peekv_ (22 + (P + 1) + i) al (by omega) g2 h)
  have KD : Aside (∀ w : World, Calls Tryd.prog 86 #[.int .u64 v] w fun e w' => e = .returned (.tuple #[.agg #[.int .i64 k, .int .i64 c, .int .i64 s, .int .i64 o, .int .i64 y], .int .i64 f]) ∧ Below w.heap.size w w') := ⟨fun w => dec_ci hv0 hv1 hd w⟩
  have HTS : Aside (∀ (w : World) (L : List HP), St w0 w L → Tab w) := ⟨fun _ _ hh => hT.st hh⟩
  have H : Aside (St w0 _ (blk w.heap.size #[.int .i64 ((P : Int) + 1), .int .i64 1, .int .i64 1] 40 :: arB a gC X.length lv true cn fl :: ceB gC X :: F)) := Aside.mk (h.alloc #[.int .i64 ((P : Int) + 1), .int .i64 1, .int .i64 1] 40)
  generalize X.length = n at *
  have np : ¬ (i : Int) < 0 := by omega
  have dp : decide ((i : Int) < 0) = false := by simp
  generalize 22 + i = ea at *
  generalize 22 + (P + 1) + i = aa at *
  clear hX g1 g2 h hT hz hv0 hv1 hd hi hP
  go_enter Tryd.func25, Tryd.ntmps25
  go_wp2_with (first
    | (go_at_call 84; refine (layout_Plan_Place.calls _ _ _ _ _ _ _ P1.out).mono ?_; rintro e w1 ⟨rfl, hb⟩; replace H := Aside.mk (H.out.step hb); clear hb; have z0 := H.out.cell 0; have z1 := H.out.cell 1; have z2 := H.out.cell 2)
    | (go_at_call 85; refine (layout_Plan_Entry.calls _ _ _ _ _ _ P2.out).mono ?_; rintro e w2 ⟨rfl, hb⟩; replace H := Aside.mk (H.out.step hb); clear hb z0 z1 z2)
    | (with_reducible refine stop_at (.store 168 (.tmp 11) (.tmp 35)) rfl ?_)
    | (go_at_call 86; refine (KD.out _).mono ?_; rintro e w3 ⟨rfl, hb⟩; replace H := Aside.mk (H.out.step hb); clear hb)
    | (go_at_call 19; refine (K1.out _ _ (H.out.order 3 [1, 2, 0] rfl rfl)).mono ?_; rintro e w4 ⟨rfl, rfl⟩))
  replace H := Aside.mk (H.out.alloc #[.int .i64 0, .int .i64 0, .int .i64 0, .int .i64 0, .int .i64 0] 168)
  generalize w3.heap.size = ent at H ⊢
  refine ⟨?_⟩
  refine st_store rfl rfl rfl [.int .i64 k, .int .i64 c, .int .i64 s, .int .i64 o, .int .i64 y] #[.int .i64 k, .int .i64 c, .int .i64 s, .int .i64 o, .int .i64 y] rfl rfl rfl (Nat.le_of_ble_eq_true rfl) (by simp [Value.oneCell']) H.out rfl ?_
  intro w5 h_
  replace H : Aside (St w0 w5 (blk ent #[.int .i64 k, .int .i64 c, .int .i64 s, .int .i64 o, .int .i64 y] 168 :: blk w.heap.size #[.int .i64 ((P : Int) + 1), .int .i64 1, .int .i64 1] 40 :: arB a gC n lv true cn fl :: ceB gC X :: F)) := Aside.mk h_
  clear h_
  have z0 := (H.out.pick 1 rfl).cell 0
  have z1 := (H.out.pick 1 rfl).cell 1
  have z2 := (H.out.pick 1 rfl).cell 2
  go_wp2_with (first
    | (go_at_call 93; refine (layout_Plan_Alloc.calls _ _ _ _ _ _ P3.out).mono ?_; rintro e w6 ⟨rfl, hb⟩; replace H := Aside.mk (H.out.step hb); clear hb z0 z1 z2; have e0 := H.out.cell 0; have e1 := H.out.cell 1)
    | (go_at_call 94; refine (cell_c _ _ HT8.out).mono ?_; rintro e w8 ⟨rfl, hb⟩; replace H := Aside.mk (H.out.step hb); clear hb e0 e1)
    | (go_at_call 19; refine (K2.out _ _ (H.out.order 4 [2, 3, 1, 0] rfl rfl)).mono ?_; rintro e w7 ⟨rfl, rfl⟩; have HT8 := Aside.mk (HTS.out _ _ H.out)))
  all_goals (go_ret; refine ⟨congrArg (fun b : Bool => Ending.returned (Value.bool b)) ?_, H.out.rest.rest⟩)
  all_goals (unfold allI; grind)
end
end Go.Proofs.YtelfiegocdjnoaaDoor.Ar
