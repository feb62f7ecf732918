/- NewBuild in all its ways. Conditions: a plan of at most five pages. -/
import Derived.Test.YtelfiegocdjnoaaDoorOb10
import Derived.Test.YtelfiegocdjnoaaDoorOb2
import Derived.Test.YtelfiegocdjnoaaDoorMrF0
namespace Go.Proofs.YtelfiegocdjnoaaDoor.Ar
open Go Go.RowKit Go.Proofs.YtelfiegocdjnoaaDoor.Sep Go.Proofs.YtelfiegocdjnoaaDoorW.PrintWords Go.Proofs.YtelfiegocdjnoaaDoorW.PrintLast Go.Proofs.YtelfiegocdjnoaaDoorW.PrintMore Go.Proofs.YtelfiegocdjnoaaDoor.Q
set_option linter.unusedVariables false
set_option linter.unusedSimpArgs false
set_option maxHeartbeats 8000000
set_option maxRecDepth 100000
variable {w0 w : World} {F : List HP}
theorem nb_form {P : Nat} {at_ c kd n : Int} (hh : isH c kd n = false) (h : St w0 w F) :
    Calls Tryd.prog 14 #[.agg #[.int .i64 ((P : Int) + 1), .int .i64 1, .int .i64 1], .int .i64 at_, .agg #[.int .i64 c, .int .i64 kd, .int .i64 n]] w fun e w' => e = .returned (.tuple #[.pointer none, .int .i64 4]) ∧ St w0 w' F := by
  have HE : Aside (header_EncodeHead.f 2 c kd n = some (0, 4)) := ⟨by rw [enc_c, hh]; rfl⟩
  have H : Aside (St w0 _ (blk (w.heap.size + 1) #[.int .i64 c, .int .i64 kd, .int .i64 n] 43 :: blk w.heap.size #[.int .i64 ((P : Int) + 1), .int .i64 1, .int .i64 1] 40 :: F)) := Aside.mk (by have := (h.alloc #[.int .i64 ((P : Int) + 1), .int .i64 1, .int .i64 1] 40).alloc #[.int .i64 c, .int .i64 kd, .int .i64 n] 43; simpa using this)
  clear h hh
  go_enter Tryd.func14, Tryd.ntmps14
  go_wp2_with (go_at_call 74; refine (header_EncodeHead.calls _ _ _ _ _ _ _ HE.out).mono ?_; rintro e w1 ⟨rfl, hb⟩; replace H := Aside.mk (H.out.step hb); clear hb)
  go_ret2
  exact ⟨rfl, H.out.rest.rest⟩
theorem nb_addr {P : Nat} (hP : P < 5) {at_ c kd n : Int} (hh : isH c kd n = true) (hl : liesI P at_ c kd n = false) (h : St w0 w F) :
    Calls Tryd.prog 14 #[.agg #[.int .i64 ((P : Int) + 1), .int .i64 1, .int .i64 1], .int .i64 at_, .agg #[.int .i64 c, .int .i64 kd, .int .i64 n]] w fun e w' => e = .returned (.tuple #[.pointer none, .int .i64 5]) ∧ St w0 w' F := by
  have HE : Aside (header_EncodeHead.f 2 c kd n = some (hdW c kd n, 0)) := ⟨by rw [enc_c, hh]; rfl⟩
  have HL : Aside (objects_lies.f 1 ((P : Int) + 1) 1 1 at_ c kd n = some false) := ⟨by rw [lies_c 0 P hP, hl]⟩
  have H : Aside (St w0 _ (blk (w.heap.size + 1) #[.int .i64 c, .int .i64 kd, .int .i64 n] 43 :: blk w.heap.size #[.int .i64 ((P : Int) + 1), .int .i64 1, .int .i64 1] 40 :: F)) := Aside.mk (by have := (h.alloc #[.int .i64 ((P : Int) + 1), .int .i64 1, .int .i64 1] 40).alloc #[.int .i64 c, .int .i64 kd, .int .i64 n] 43; simpa using this)
  generalize hdW c kd n = hd at HE
  clear h hh hl hP
  go_enter Tryd.func14, Tryd.ntmps14
  go_wp2_with (first
    | (go_at_call 74; refine (header_EncodeHead.calls _ _ _ _ _ _ _ HE.out).mono ?_; rintro e w1 ⟨rfl, hb⟩; replace H := Aside.mk (H.out.step hb); clear hb; have z0 := H.out.cell 0; have z1 := H.out.cell 1; have z2 := H.out.cell 2; have y0 := (H.out.pick 1 rfl).cell 0; have y1 := (H.out.pick 1 rfl).cell 1; have y2 := (H.out.pick 1 rfl).cell 2)
    | (go_at_call 75; refine (objects_lies.calls _ _ _ _ _ _ _ _ _ _ HL.out).mono ?_; rintro e w2 ⟨rfl, hb⟩; replace H := Aside.mk (H.out.step hb); clear hb z0 z1 z2 y0 y1 y2))
  go_ret2
  exact ⟨rfl, H.out.rest.rest⟩
theorem nb_ok {P : Nat} (hP : P < 5) {at_ c kd n : Int} (hh : isH c kd n = true) (hl : liesI P at_ c kd n = true) (h : St w0 w F) :
    Calls Tryd.prog 14 #[.agg #[.int .i64 ((P : Int) + 1), .int .i64 1, .int .i64 1], .int .i64 at_, .agg #[.int .i64 c, .int .i64 kd, .int .i64 n]] w fun e w' => ∃ b, e = .returned (.tuple #[.pointer (some ⟨b, 0, none⟩), .int .i64 0]) ∧ St w0 w' (bdB b at_ (hdW c kd n) n false :: F) :=
  newbuild_ (k1 := 2) (k2 := 1) (by rw [enc_c, hh]; rfl) (by rw [lies_c 0 P hP, hl]) h
end Go.Proofs.YtelfiegocdjnoaaDoor.Ar
