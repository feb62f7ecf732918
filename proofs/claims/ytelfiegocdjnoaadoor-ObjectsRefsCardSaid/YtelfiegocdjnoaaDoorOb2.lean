/- An arena's cells are laid (windrowlaw11.lay); a build is made; the table of no classes. Conditions: the words lie in memory that was there. -/
import Derived.Test.YtelfiegocdjnoaaDoorOb1
import Derived.Deep.CutBlock
import Derived.Test.YtelfiegocdjnoaaDoorMrF0
namespace Go.Proofs.YtelfiegocdjnoaaDoor.Ar
open Go Go.RowKit Go.Proofs.YtelfiegocdjnoaaDoor.Sep Go.Proofs.YtelfiegocdjnoaaDoorW.PrintWords Go.Proofs.YtelfiegocdjnoaaDoorW.PrintLast Go.Proofs.YtelfiegocdjnoaaDoorW.PrintMore Go.Proofs.YtelfiegocdjnoaaDoor.Q
set_option linter.unusedVariables false
set_option linter.unusedSimpArgs false
set_option maxHeartbeats 8000000
set_option maxRecDepth 100000
theorem zeros_ (n : Nat) : (madeCells (Value.int .u64 0).cells (n * 1)).toList.toArray = (U (List.replicate n 0)).toArray := by
  show (madeCells #[Value.int .u64 0] (n * 1)).toList.toArray = _
  rw [toList_madeCells_one, Nat.mul_one]; simp [U]
theorem put_U {w0 w : World} {gD j : Nat} {X : List Int} {v : Int} {t : TypeId} {L : List HP} (hj : j < X.length) (h : St w0 w (blk gD (putAt (U X).toArray j [.int .u64 v]) t :: L)) : St w0 w (blk gD (U (X.set j v)).toArray t :: L) := by
  have e : putAt (U X).toArray j [.int .u64 v] = (U (X.set j v)).toArray := by
    unfold putAt
    congr 1
    simp only [List.toList_toArray, List.length_singleton]
    rw [U, U, List.map_set]
    rw [List.set_eq_take_append_cons_drop, if_pos (by simpa using hj)]
    simp
  rw [e] at h
  exact h
theorem newbuild_ {w0 w : World} {F : List HP} {p1 p2 p3 at_ c kd n hd : Int} {k1 k2 : Nat} (he : header_EncodeHead.f k1 c kd n = some (hd, 0)) (hl : objects_lies.f k2 p1 p2 p3 at_ c kd n = some true) (h : St w0 w F) :
    Calls Tryd.prog 14 #[.agg #[.int .i64 p1, .int .i64 p2, .int .i64 p3], .int .i64 at_, .agg #[.int .i64 c, .int .i64 kd, .int .i64 n]] w fun e w' => ∃ b, e = .returned (.tuple #[.pointer (some ⟨b, 0, none⟩), .int .i64 0]) ∧ St w0 w' (bdB b at_ hd n false :: F) := by
  have HE := Aside.mk he
  have HL := Aside.mk hl
  have H : Aside (St w0 _ (blk (w.heap.size + 1) #[.int .i64 c, .int .i64 kd, .int .i64 n] 43 :: blk w.heap.size #[.int .i64 p1, .int .i64 p2, .int .i64 p3] 40 :: F)) := Aside.mk (by have := (h.alloc #[.int .i64 p1, .int .i64 p2, .int .i64 p3] 40).alloc #[.int .i64 c, .int .i64 kd, .int .i64 n] 43; simpa using this)
  clear he hl h
  go_enter Tryd.func14, Tryd.ntmps14
  go_wp2_with (first
    | (go_at_call 74; refine (header_EncodeHead.calls _ _ _ _ _ _ _ HE.out).mono ?_; rintro e w1 ⟨rfl, hb⟩; replace H := Aside.mk (H.out.step hb); clear hb; have z0 := H.out.cell 0; have z1 := H.out.cell 1; have z2 := H.out.cell 2; have y0 := (H.out.pick 1 rfl).cell 0; have y1 := (H.out.pick 1 rfl).cell 1; have y2 := (H.out.pick 1 rfl).cell 2)
    | (go_at_call 75; refine (objects_lies.calls _ _ _ _ _ _ _ _ _ _ HL.out).mono ?_; rintro e w2 ⟨rfl, hb⟩; replace H := Aside.mk (H.out.step hb); clear hb z0 z1 z2 y0 y1 y2; have z2 := H.out.cell 2))
  go_ret2
  exact ⟨_, rfl, (H.out.rest.rest).alloc #[.int .i64 at_, .int .u64 hd, .int .i64 n, .bool false] 149⟩
theorem makeMap_run {P : Program} {ops : Array Oper} {Q : Exit → Act → World → Prop} {a : Act} {W : World} {rest : List Oper} {o : Oper} {t : TypeId} (hgd : o.guard = none) (ho : o.op = .makeMap t none)
    (h : wpList P ops Q rest (a.put o.dst (.map (some W.heap.size))) (W.alloc (.map #[] 0))) : wpList P ops Q (o :: rest) a W := by
  refine wpList_plain hgd fun K hK => ?_
  unfold Oper.wp
  rw [show (execOp a.eval o).run P W = .ok (.value (.map (some W.heap.size))) (W.alloc (.map #[] 0)) from by simp only [execOp, ho]; rfl]
  exact hK _ _ h
theorem newnil_ {w0 w : World} {F : List HP} (h : St w0 w F) : Calls Tryd.prog 22 #[.slice none 0 0] w fun e w' => ∃ t, e = .returned (.tuple #[.pointer (some ⟨t, 0, none⟩), .int .i64 0, .int .i64 0]) ∧ St w0 w' (blk t #[.slice none 0 0, .slice none 0 0] 157 :: F) := by
  have H := Aside.mk (h.alloc #[.slice none 0 0, .slice none 0 0] 157)
  clear h
  go_enter Tryd.func22, Tryd.ntmps22
  go_wp2_with (with_reducible refine stop_at (.makeMap 158 none) rfl ?_)
  refine ⟨?_⟩
  refine makeMap_run rfl rfl ?_
  replace H := Aside.mk (H.out.garbage (.map #[] 0))
  generalize World.alloc (World.alloc w _) _ = w1 at H ⊢
  go_upto_block 0 with fail
  go_cut [19] (fun v19 wc => Aside (St w0 wc (blk w.heap.size #[.slice none 0 0, .slice none 0 0] 157 :: F)))
  case first =>
    go_wp2
    go_loopg [19] (0) (fun m v19 w' => v19 = .int .i64 0 ∧ Aside (St w0 w' (blk w.heap.size #[.slice none 0 0, .slice none 0 0] 157 :: F)))
    case atStart => exact ⟨rfl, H⟩
    case round =>
      clear H
      obtain ⟨rfl, H⟩ := hrel
      go_wp2
      go_meet
      case rel => exact H
  case rest =>
    clear H
    have H := hcut
    go_wp2
    go_ret3
    exact ⟨_, rfl, H.out⟩
end Go.Proofs.YtelfiegocdjnoaaDoor.Ar
