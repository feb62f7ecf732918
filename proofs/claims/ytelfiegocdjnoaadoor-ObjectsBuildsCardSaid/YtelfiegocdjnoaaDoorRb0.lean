/- The document's Build over its tape. Conditions: a header, an address that is not great, a tape that is not long. -/
import Derived.Test.YtelfiegocdjnoaaDoorTpE
import Derived.Test.YtelfiegocdjnoaaDoorOb10
import Derived.Deep.CutBlock
import Derived.Test.YtelfiegocdjnoaaDoorMrF0
import Derived.Test.YtelfiegocdjnoaaDoorMrF2
namespace Go.Proofs.YtelfiegocdjnoaaDoor.Ar
open Go Go.RowKit Go.Proofs.YtelfiegocdjnoaaDoor.Sep Go.Proofs.YtelfiegocdjnoaaDoorW.PrintWords Go.Proofs.YtelfiegocdjnoaaDoorW.PrintLast Go.Proofs.YtelfiegocdjnoaaDoorW.PrintMore Go.Proofs.YtelfiegocdjnoaaDoor.Q
set_option linter.unusedVariables false
set_option linter.unusedSimpArgs false
set_option maxHeartbeats 8000000
set_option maxRecDepth 100000
theorem ask_hist (x : Tp) (k a wt p : Int) : (x.ask k a wt p).2.hist = x.hist := by
  unfold Tp.ask
  repeat' split
  all_goals rfl
/-- The tape behind so many of the noughts. -/
def rbS (at_ : Int) (n : Nat) : Nat → Tp → Tp
  | 0, x => x
  | d + 1, x => ((rbS at_ n d x).ask 2 (at_ + ((n - d : Nat) : Int)) 0 0).2
theorem rbS_hist (at_ : Int) (n : Nat) (x : Tp) : ∀ d, (rbS at_ n d x).hist = x.hist
  | 0 => rfl
  | d + 1 => by rw [rbS, ask_hist, rbS_hist at_ n x d]
def rbT (at_ hd : Int) (n : Nat) (x : Tp) : Tp := ((rbS at_ n n x).ask 2 at_ 0 hd).2
theorem rbuild_ {w0 w : World} {F : List HP} {t : Nat} {lv : Value} {x : Tp} (hl : x.hist.length ≤ 1000) {at_ c k : Int} {n : Nat} (hh : isH c k n = true) (h0 : 0 ≤ at_) (h1 : at_ ≤ 10000) (hn : n ≤ 255) (h : St w0 w (tpB t lv x :: tpR lv x :: F)) :
    Calls Tryd.prog 42 #[.pointer (some ⟨t, 0, none⟩), .int .i64 at_, .agg #[.int .i64 c, .int .i64 k, .int .i64 n]] w fun e w' => e = .returned (.bool (!(rbT at_ (hdW c k n) n x).stop)) ∧ St w0 w' (tpB t lv (rbT at_ (hdW c k n) n x) :: tpR lv (rbT at_ (hdW c k n) n x) :: F) := by
  have HE : Aside (windrowref02_EncodeHead.f 20 c k n = some (hdW c k n, 0)) := ⟨by rw [renc_c, hh]; rfl⟩
  have HLN := Aside.mk hl
  have HA0 := Aside.mk h0
  have HA1 := Aside.mk h1
  have HN := Aside.mk hn
  obtain ⟨bx, hbx⟩ : ∃ bx, bx = w.heap.size := ⟨_, rfl⟩
  have H : Aside (St w0 (w.alloc (.cells #[.int .i64 c, .int .i64 k, .int .i64 n] 73)) (tpB t lv x :: tpR lv x :: blk w.heap.size #[.int .i64 c, .int .i64 k, .int .i64 n] 73 :: F)) := Aside.mk ((h.alloc #[.int .i64 c, .int .i64 k, .int .i64 n] 73).order 3 [1, 2, 0] rfl rfl)
  unfold rbT
  generalize hdW c k n = hd at HE ⊢
  clear hl h0 h1 hn h hh
  go_enter Tryd.func42, Tryd.ntmps42
  go_upto_block 0 with fail
  go_cut [7] (fun v7 wc => Aside (St w0 wc (tpB t lv (rbS at_ n n x) :: tpR lv (rbS at_ n n x) :: blk w.heap.size #[.int .i64 c, .int .i64 k, .int .i64 n] 73 :: F)))
  case first =>
    go_wp2_with fail
    go_loopg [7] (n) (fun m v7 w' => ∃ d : Nat, m = n - d ∧ d ≤ n ∧ v7 = .int .i64 ((n - d : Nat) : Int) ∧ Aside (St w0 w' (tpB t lv (rbS at_ n d x) :: tpR lv (rbS at_ n d x) :: blk w.heap.size #[.int .i64 c, .int .i64 k, .int .i64 n] 73 :: F)))
    case atStart => exact ⟨0, rfl, Nat.zero_le _, rfl, H⟩
    case round =>
      clear H
      obtain ⟨d, rfl, hd9, rfl, H⟩ := hrel
      by_cases hlt : d < n
      · obtain ⟨j, hj⟩ : ∃ j, j = n - d := ⟨_, rfl⟩
        have HJ := Aside.mk hj
        have d1 : decide ((1 : Int) ≤ ((n - d : Nat) : Int)) = true := by simp; omega
        have n1 : (1 : Int) ≤ ((n - d : Nat) : Int) := by omega
        have e1 : wrap64 (at_ + ((n - d : Nat) : Int)) = at_ + ((n - d : Nat) : Int) := by have := HA0.out; have := HA1.out; have := HN.out; unfold wrap64; omega
        have HX := Aside.mk (rbS_hist at_ n x d)
        have HI := Aside.mk hlt
        clear hlt hd9 hj
        go_wp2_with (go_at_call 100; (try rw [e1]); refine (tstore_ (by rw [HX.out]; exact HLN.out) _ _ H.out).mono ?_; rintro e w1 ⟨rfl, h9⟩; replace H := Aside.mk h9; clear h9)
        go_roundg (n - (d + 1))
        case measure => have := HI.out; omega
        case rel => exact ⟨d + 1, rfl, HI.out, by have := HI.out; have := HN.out; first | rfl | (simp only [Value.int.injEq, true_and]; unfold wrap64; omega), H⟩
      · obtain rfl : d = n := by omega
        have d1 : decide ((1 : Int) ≤ ((d - d : Nat) : Int)) = false := by simp
        clear hlt hd9
        go_wp2
        go_meet
        case rel => exact H
  case rest =>
    clear H
    have H := hcut
    clear hcut
    have HX := Aside.mk (rbS_hist at_ n x n)
    have z0 := (H.out.pick 2 rfl).cell 0
    have z1 := (H.out.pick 2 rfl).cell 1
    have z2 := (H.out.pick 2 rfl).cell 2
    go_wp2_with (first
      | (go_at_call 101; refine (windrowref02_EncodeHead.calls _ _ _ _ _ _ _ HE.out).mono ?_; rintro e w2 ⟨rfl, hb⟩; replace H := Aside.mk (H.out.step hb); clear hb z0 z1 z2)
      | (go_at_call 100; refine (tstore_ (by rw [HX.out]; exact HLN.out) _ _ H.out).mono ?_; rintro e w3 ⟨rfl, h9⟩; replace H := Aside.mk h9; clear h9; have x9 := H.out.cell 9))
    go_ret
    exact ⟨rfl, (H.out.pick 2 rfl).rest⟩
end Go.Proofs.YtelfiegocdjnoaaDoor.Ar
