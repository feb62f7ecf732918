/- A word's header, decoded: the code's, walked. Conditions: a word of 64 bits. -/
import Derived.Test.YtelfiegocdjnoaaDoorMgN
import Derived.Test.YtelfiegocdjnoaaDoorStp
import Derived.Test.YtelfiegocdjnoaaDoorMrF0
namespace Go.Proofs.YtelfiegocdjnoaaDoor.Ar
open Go Go.RowKit Go.Proofs.YtelfiegocdjnoaaDoor.Sep Go.Proofs.YtelfiegocdjnoaaDoor.Pg Go.Proofs.YtelfiegocdjnoaaDoorW.PrintWords Go.Proofs.YtelfiegocdjnoaaDoorW.PrintLast Go.Proofs.YtelfiegocdjnoaaDoorW.PrintMore Go.Proofs.YtelfiegocdjnoaaDoor.Q
set_option linter.unusedVariables false
set_option linter.unusedSimpArgs false
set_option maxHeartbeats 8000000
set_option maxRecDepth 100000
theorem dhead_0 {v c k n x : Int} {e : Int} (G0 : word_Get.f v 0 8 = some (k, 0)) (G1 : word_Get.f v 8 8 = some (c, 0)) (G2 : word_Get.f v 16 8 = some (n, 0)) (l0 : wrap64 k = k) (l1 : wrap64 c = c) (l2 : wrap64 n = n) (he : header_EncodeHead.f 2 c k n = some (x, e)) {c' k' n' f' : Int}
    (hx : e = 0 ∧ x = v ∧ (c', k', n', f') = (c, k, n, 0) ∨ ¬ (e = 0 ∧ x = v) ∧ (c', k', n', f') = (0, 0, 0, 4)) (w : World) :
    Calls Tryd.prog 82 #[.int .u64 v] w fun e w' => e = .returned (.tuple #[.agg #[.int .i64 c', .int .i64 k', .int .i64 n'], .int .i64 f']) ∧ Below w.heap.size w w' := by
  have H : Aside (St w _ [blk w.heap.size #[.int .i64 0, .int .i64 0, .int .i64 0] 43]) := Aside.mk ((St.start w).alloc #[.int .i64 0, .int .i64 0, .int .i64 0] 43)
  have HG0 := Aside.mk G0
  have HG1 := Aside.mk G1
  have HG2 := Aside.mk G2
  have HE := Aside.mk he
  have HXX := Aside.mk hx
  clear G0 G1 G2 he hx
  go_enter Tryd.func82, Tryd.ntmps82
  go_wp2_with (first
    | (go_at_call 139; with_reducible refine (word_Get.calls _ _ _ _ _ _ HG0.out).mono ?_; rintro e w1 ⟨rfl, hb⟩; replace H := Aside.mk (H.out.step hb.below); clear hb)
    | (go_at_call 139; with_reducible refine (word_Get.calls _ _ _ _ _ _ HG1.out).mono ?_; rintro e w2 ⟨rfl, hb⟩; replace H := Aside.mk (H.out.step hb.below); clear hb)
    | (go_at_call 139; with_reducible refine (word_Get.calls _ _ _ _ _ _ HG2.out).mono ?_; rintro e w3 ⟨rfl, hb⟩; replace H := Aside.mk (H.out.step hb.below); clear hb)
    | (with_reducible refine stop_at (.store 43 (.tmp 10) (.tmp 34)) rfl ?_))
  replace H := Aside.mk (H.out.alloc #[.int .i64 0, .int .i64 0, .int .i64 0] 43)
  generalize w3.heap.size = hb at H ⊢
  refine ⟨?_⟩
  refine st_store rfl rfl rfl [.int .i64 c, .int .i64 k, .int .i64 n] #[.int .i64 c, .int .i64 k, .int .i64 n] rfl (by first | rfl | (simp only [l0, l1, l2]; rfl)) rfl (Nat.le_of_ble_eq_true rfl) (by simp [Value.oneCell']) H.out rfl ?_
  intro w4 h_
  replace H : Aside (St w w4 [blk hb #[.int .i64 c, .int .i64 k, .int .i64 n] 43, blk w.heap.size #[.int .i64 0, .int .i64 0, .int .i64 0] 43]) := Aside.mk h_
  clear h_
  have z0 := H.out.cell 0
  have z1 := H.out.cell 1
  have z2 := H.out.cell 2
  obtain ⟨rfl, rfl, hq⟩ | ⟨hn, hq⟩ := HXX.out
  · injection hq with q1 hq
    injection hq with q2 hq
    injection hq with q3 q4
    subst q1 q2 q3 q4
    go_wp2_with (first
      | (go_at_call 74; refine (header_EncodeHead.calls _ _ _ _ _ _ _ HE.out).mono ?_; rintro e w5 ⟨rfl, hb⟩; replace H := Aside.mk (H.out.step hb); clear hb z0 z1 z2; have z0 := H.out.cell 0; have z1 := H.out.cell 1; have z2 := H.out.cell 2)
      | (with_reducible refine stop_at (.store 43 (.tmp 2) (.tmp 48)) rfl ?_))
    refine ⟨?_⟩
    refine st_store rfl rfl rfl [.int .i64 c', .int .i64 k', .int .i64 n'] #[.int .i64 c', .int .i64 k', .int .i64 n'] rfl rfl rfl (Nat.le_of_ble_eq_true rfl) (by simp [Value.oneCell']) (H.out.pick 1 rfl) rfl ?_
    intro w90 h_
    have H := Aside.mk h_
    have o0 := h_.cell 0
    have o1 := h_.cell 1
    have o2 := h_.cell 2
    clear h_
    go_wp2
    refine bodyPost_ret (results_ct rfl _ _ _ 43 #[.int .i64 c', .int .i64 k', .int .i64 n'] (0, 0) _ rfl H.out.heap Tryd.underlying43 rfl (by kernel_rfl)) rfl ?_
    exact ⟨rfl, H.out.below⟩
  · injection hq with q1 hq
    injection hq with q2 hq
    injection hq with q3 q4
    subst q1 q2 q3 q4
    by_cases he0 : e = 0
    · have de : (e != 0) = false := by simp [he0]
      have dx : (x != v) = true := by simp; exact fun h => hn ⟨he0, h⟩
      clear hn he0
      go_wp2_with (first
        | (go_at_call 74; refine (header_EncodeHead.calls _ _ _ _ _ _ _ HE.out).mono ?_; rintro e w5 ⟨rfl, hb⟩; replace H := Aside.mk (H.out.step hb); clear hb z0 z1 z2)
        | (with_reducible refine stop_at (.store 43 (.tmp 2) (.tmp 47)) rfl ?_))
      refine ⟨?_⟩
      refine st_store rfl rfl rfl [.int .i64 0, .int .i64 0, .int .i64 0] #[.int .i64 0, .int .i64 0, .int .i64 0] rfl rfl rfl (Nat.le_of_ble_eq_true rfl) (by simp [Value.oneCell']) (H.out.pick 1 rfl) rfl ?_
      intro w90 h_
      have H := Aside.mk h_
      have o0 := h_.cell 0
      have o1 := h_.cell 1
      have o2 := h_.cell 2
      clear h_
      go_wp2
      refine bodyPost_ret (results_ct rfl _ _ _ 43 #[.int .i64 0, .int .i64 0, .int .i64 0] (0, 0) _ rfl H.out.heap Tryd.underlying43 rfl (by kernel_rfl)) rfl ?_
      exact ⟨rfl, H.out.below⟩
    · have de : (e != 0) = true := by simp [he0]
      clear hn he0
      go_wp2_with (first
        | (go_at_call 74; refine (header_EncodeHead.calls _ _ _ _ _ _ _ HE.out).mono ?_; rintro e w5 ⟨rfl, hb⟩; replace H := Aside.mk (H.out.step hb); clear hb z0 z1 z2)
        | (with_reducible refine stop_at (.store 43 (.tmp 2) (.tmp 47)) rfl ?_))
      refine ⟨?_⟩
      refine st_store rfl rfl rfl [.int .i64 0, .int .i64 0, .int .i64 0] #[.int .i64 0, .int .i64 0, .int .i64 0] rfl rfl rfl (Nat.le_of_ble_eq_true rfl) (by simp [Value.oneCell']) (H.out.pick 1 rfl) rfl ?_
      intro w90 h_
      have H := Aside.mk h_
      have o0 := h_.cell 0
      have o1 := h_.cell 1
      have o2 := h_.cell 2
      clear h_
      go_wp2
      refine bodyPost_ret (results_ct rfl _ _ _ 43 #[.int .i64 0, .int .i64 0, .int .i64 0] (0, 0) _ rfl H.out.heap Tryd.underlying43 rfl (by kernel_rfl)) rfl ?_
      exact ⟨rfl, H.out.below⟩
theorem dhead_c {v c k n f : Int} (h0 : 0 ≤ v) (h1 : v < 18446744073709551616) (hd : decH v = (c, k, n, f)) (w : World) :
    Calls Tryd.prog 82 #[.int .u64 v] w fun e w' => e = .returned (.tuple #[.agg #[.int .i64 c, .int .i64 k, .int .i64 n], .int .i64 f]) ∧ Below w.heap.size w w' := by
  obtain ⟨m, rfl⟩ := Int.eq_ofNat_of_zero_le h0
  have hw : m < 18446744073709551616 := by omega
  have l0 := w8 ((m : Int) % 256) (by omega) (by omega)
  have l1 := w8 ((m : Int) / 256 % 256) (by omega) (by omega)
  have l2 := w8 ((m : Int) / 65536 % 256) (by omega) (by omega)
  have g0 := gt0 m hw
  have g1 := gt1 m hw
  have g2 := gt2 m hw
  unfold decH at hd
  generalize (m : Int) % 256 = k0 at *
  generalize (m : Int) / 256 % 256 = c0 at *
  generalize (m : Int) / 65536 % 256 = n0 at *
  obtain ⟨x, hx, he⟩ := enc_x c0 k0 n0
  unfold hdOf at hd
  rw [hx] at hd
  by_cases hh : isH c0 k0 n0 = true
  · rw [if_pos hh] at he
    by_cases hxv : x = (m : Int)
    · rw [if_pos ⟨hh, hxv⟩] at hd
      exact dhead_0 g0 g1 g2 l0 l1 l2 he (.inl ⟨rfl, hxv, hd.symm⟩) w
    · rw [if_neg (fun h => hxv h.2)] at hd
      exact dhead_0 g0 g1 g2 l0 l1 l2 he (.inr ⟨fun h => hxv h.2, hd.symm⟩) w
  · rw [if_neg hh] at he
    rw [if_neg (fun h => hh h.1)] at hd
    exact dhead_0 g0 g1 g2 l0 l1 l2 he (.inr ⟨(fun h => by have h1 := h.1; cases h1), hd.symm⟩) w
end Go.Proofs.YtelfiegocdjnoaaDoor.Ar
