/- The document's spots, and where they stand: short contracts. Conditions: a plan of at most five pages, three threads, a ring of one. -/
import Derived.Test.YtelfiegocdjnoaaDoorAr0
import Derived.Test.YtelfiegocdjnoaaDoorAr1
import Derived.Test.YtelfiegocdjnoaaDoorStp
import Derived.Test.YtelfiegocdjnoaaDoorWk
import Derived.Deep.CutBlock
namespace Go.Proofs.YtelfiegocdjnoaaDoor.Ar
open Go Go.RowKit Go.Proofs.YtelfiegocdjnoaaDoor.Sep Go.Proofs.YtelfiegocdjnoaaDoorW.PrintWords Go.Proofs.YtelfiegocdjnoaaDoorW.PrintLast Go.Proofs.YtelfiegocdjnoaaDoorW.PrintMore
set_option linter.unusedVariables false
set_option linter.unusedSimpArgs false
set_option maxHeartbeats 8000000
set_option maxRecDepth 100000
abbrev Spot := Int × Int × Int
def sps (L : List Spot) : List Value := L.flatMap fun s => [.int .i64 s.1, .int .i64 s.2.1, .int .i64 s.2.2]
abbrev SpR (lv : Value) (L : List Spot) : HP := row 143 3 lv L.length (sps L)
abbrev SL (b P T : Nat) (lv : Value) (L : List Spot) : List HP := [SpR lv L, blk b #[.int .i64 ((P : Int) + 1), .int .i64 ((T : Int) + 1), .int .i64 1] 25]
def spA (i : Nat) : List Spot := [(0, 0, 0)] ++ (List.range i).map fun (j : Nat) => (1, (j : Int) + 1, 0)
def spB (i : Nat) : List Spot := (spA 6 ++ [(0, 0, 0)]) ++ (List.range i).map fun (j : Nat) => (2, (j : Int), 0)
def spD (t j : Nat) : List Spot := (List.range j).map fun (q : Nat) => (3, (t : Int), (q : Int))
def spE (t j : Nat) : List Spot := (List.range j).map fun (q : Nat) => (4, (t : Int), (q : Int))
def spC (t : Nat) : List Spot := spB 8 ++ (List.range t).flatMap fun u => spD u 5 ++ spE u 1
def spG (q i : Nat) : List Spot := (List.range i).map fun (j : Nat) => (5 + (q : Int), (j : Int), 0)
def spF (P T q : Nat) : List Spot := spC (T + 1) ++ (List.range q).flatMap fun u => spG u (P + 1)
def spH (P T r : Nat) : List Spot := spF P T 3 ++ List.replicate r (0, 0, 0)
def spJ (i j : Nat) : List Spot := (List.range j).map fun (q : Nat) => (8, (i : Int), (q : Int))
def spI (P T i : Nat) : List Spot := spH P T (39 - 6 * T - 3 * P) ++ (List.range i).flatMap fun u => spJ u 64
def spL (P T : Nat) : List Spot := spI P T (P + 1)
theorem spA_s (i : Nat) : spA (i + 1) = spA i ++ [(1, (i : Int) + 1, 0)] := by simp [spA, List.range_succ]
theorem spB_s (i : Nat) : spB (i + 1) = spB i ++ [(2, (i : Int), 0)] := by simp [spB, List.range_succ]
theorem spD_s (t j : Nat) : spD t (j + 1) = spD t j ++ [(3, (t : Int), (j : Int))] := by simp [spD, List.range_succ]
theorem spE_s (t j : Nat) : spE t (j + 1) = spE t j ++ [(4, (t : Int), (j : Int))] := by simp [spE, List.range_succ]
theorem spC_s (t : Nat) : spC (t + 1) = spC t ++ spD t 5 ++ spE t 1 := by simp [spC, List.range_succ]
theorem spG_s (q i : Nat) : spG q (i + 1) = spG q i ++ [(5 + (q : Int), (i : Int), 0)] := by simp [spG, List.range_succ]
theorem spF_s (P T q : Nat) : spF P T (q + 1) = spF P T q ++ spG q (P + 1) := by simp [spF, List.range_succ]
theorem spH_s (P T r : Nat) : spH P T (r + 1) = spH P T r ++ [(0, 0, 0)] := by simp [spH, List.replicate_succ']
theorem spJ_s (i j : Nat) : spJ i (j + 1) = spJ i j ++ [(8, (i : Int), (j : Int))] := by simp [spJ, List.range_succ]
theorem spI_s (P T i : Nat) : spI P T (i + 1) = spI P T i ++ spJ i 64 := by simp [spI, List.range_succ]
theorem flat_len {f : Nat → List Spot} {c : Nat} (h : ∀ u, (f u).length = c) : ∀ t, ((List.range t).flatMap f).length = t * c
  | 0 => by simp
  | t + 1 => by rw [List.range_succ, List.flatMap_append, List.length_append, flat_len h t]; simp [h]; rw [Nat.succ_mul]
theorem spA_l (i : Nat) : (spA i).length = i + 1 := by simp [spA]
theorem spB_l (i : Nat) : (spB i).length = 8 + i := by simp [spB, spA_l]; omega
theorem spC_l (t : Nat) : (spC t).length = 16 + 6 * t := by
  unfold spC
  rw [List.length_append, spB_l, flat_len (c := 6) (fun u => by simp [spD, spE])]
  omega
theorem spF_l (P T q : Nat) : (spF P T q).length = 22 + 6 * T + q * (P + 1) := by
  unfold spF
  rw [List.length_append, spC_l, flat_len (c := P + 1) (fun u => by simp [spG])]
  omega
theorem spH_l (P T r : Nat) : (spH P T r).length = 25 + 6 * T + 3 * P + r := by
  unfold spH
  rw [List.length_append, spF_l, List.length_replicate]
  omega
theorem spI_l {P T : Nat} (hP : P < 5) (hT : T < 3) (i : Nat) : (spI P T i).length = 64 + 64 * i := by
  unfold spI
  rw [List.length_append, spH_l, flat_len (c := 64) (fun u => by simp [spJ])]
  omega
theorem info143 : (Tryd.prog.info? 143).map (fun i => (i.zero, i.size, i.bytes)) = some (some (.agg #[.int .i64 0, .int .i64 0, .int .i64 0]), 3, 24) := by kernel_rfl
theorem app3 {w0 W : World} {F : List HP} {ops : Array Oper} {rest : List Oper} {o : Oper} {a : Act} {Q : Exit → Act → World → Prop} (hgd : o.guard = none) (s x : Operand) (ho : o.op = .call { callee := .builtin .append, args := #[s, x], argTypes := #[208, 208] })
    (v : Value) (L : List Spot) (i j k : Int) (hs : a.eval s = v) (hx : a.eval x = .slice (some ⟨W.heap.size, 0, none⟩) 1 1) (H : St w0 W (SpR v L :: F)) (hl : L.length ≤ 1000)
    (h : ∀ V w1, St w0 w1 (SpR V (L ++ [(i, j, k)]) :: F) → wpList Tryd.prog ops Q rest (a.put o.dst V) w1) :
    wpList Tryd.prog ops Q (o :: rest) a (W.alloc (.cells #[.int .i64 i, .int .i64 j, .int .i64 k] 143)) := by
  refine append_run hgd s x 208 143 (.agg #[.int .i64 0, .int .i64 0, .int .i64 0]) 3 24 ho Tryd.underlying208 info143 rfl (by decide) (by decide) v L.length (sps L) hs ⟨W.heap.size, 0, none⟩ 1 1 [.int .i64 i, .int .i64 j, .int .i64 k] hx rfl (new_cells W [.int .i64 i, .int .i64 j, .int .i64 k] 143) (by simp [Value.oneCell']) (H.garbage _) (by omega) ?_
  intro A1 c1 w1 hc h1
  have e1 : (L ++ [(i, j, k)]).length = L.length + 1 := by simp
  have e2 : sps (L ++ [(i, j, k)]) = sps L ++ [.int .i64 i, .int .i64 j, .int .i64 k] := by simp [sps]
  refine h _ w1 ?_
  show St w0 w1 (row 143 3 _ (L ++ [(i, j, k)]).length (sps (L ++ [(i, j, k)])) :: F)
  rw [e1, e2]
  exact h1
theorem right_pc {P T : Nat} (hP : P < 5) (hT : T < 3) (w : World) : Calls Tryd.prog 69 #[.agg #[.int .i64 ((P : Int) + 1), .int .i64 ((T : Int) + 1), .int .i64 1]] w fun e w' => e = .returned (.bool true) ∧ Below w.heap.size w w' := by
  have d1 : decide ((1 : Int) ≤ (P : Int) + 1) = true := by simp; omega
  have d2 : decide ((P : Int) + 1 ≤ 32) = true := by simp; omega
  have d3 : decide ((1 : Int) ≤ (T : Int) + 1) = true := by simp; omega
  have n1 : (1 : Int) ≤ (P : Int) + 1 := by omega
  have n3 : (1 : Int) ≤ (T : Int) + 1 := by omega
  have d4 : decide ((T : Int) + 1 ≤ 6) = true := by simp; omega
  have n2 : (P : Int) + 1 ≤ 32 := by omega
  have n4 : (T : Int) + 1 ≤ 6 := by omega
  clear hP hT
  go_enter Tryd.func69, Tryd.ntmps69
  go_wp2
  go_ret
  exact ⟨by simp, (Below.refl _ w).alloc (Nat.le_refl _) _⟩
theorem w_i {x : Int} (h : 0 ≤ x ∧ x ≤ 100000) : wrap64 x = x := by unfold wrap64; omega
theorem spots_c {P T : Nat} (hP : P < 5) (hT : T < 3) (w : World) : Calls Tryd.prog 133 #[.agg #[.int .i64 ((P : Int) + 1), .int .i64 ((T : Int) + 1), .int .i64 1]] w fun e w' => ∃ lv, e = .returned lv ∧ St w w' [SpR lv (spL P T)] := by
  have HR := Aside.mk (fun w => right_pc hP hT w)
  have HPp := Aside.mk hP
  have HTt := Aside.mk hT
  have H : Aside (St w _ (SL w.heap.size P T (.slice none 0 0) [])) := Aside.mk (((St.start w).alloc #[.int .i64 ((P : Int) + 1), .int .i64 ((T : Int) + 1), .int .i64 1] 25).nil_row 143 3)
  clear hP hT
  have z0 := (H.out.pick 1 rfl).cell 0
  have z1 := (H.out.pick 1 rfl).cell 1
  have z2 := (H.out.pick 1 rfl).cell 2
  go_enter Tryd.func133, Tryd.ntmps133
  go_upto_block 0 with (first
    | (go_at_call 69; refine (HR.out _).mono ?_; rintro e w1 ⟨rfl, hb⟩; replace H : Aside (St w w1 (SL w.heap.size P T (.slice none 0 0) [])) := Aside.mk (H.out.step hb); clear hb z0 z1 z2)
    | (at_builtin; refine app3 rfl (.tmp 17) (.tmp 19) rfl _ _ 0 0 0 rfl rfl H.out (Nat.zero_le _) ?_; intro V9 w9 h9; replace H := Aside.mk h9; clear h9))
  go_cut [3, 4] (fun v3 v4 wc => Aside (St w wc (SL w.heap.size P T v3 (spA 6))))
  case first =>
    go_wp2_with fail
    go_loopg [3, 4] (6) (fun m v3 v4 w' => ∃ i : Nat, m = 6 - i ∧ i ≤ 6 ∧ v4 = .int .i64 ((i : Int) + 1) ∧ Aside (St w w' (SL w.heap.size P T v3 (spA i))))
    case atStart => exact ⟨0, rfl, Nat.zero_le _, rfl, H⟩
    case round =>
      clear H
      obtain ⟨i, rfl, hi, rfl, H⟩ := hrel
      by_cases hlt : i < 6
      · have d1 : decide ((i : Int) + 1 ≤ 6) = true := by simp; omega
        have n1 : (i : Int) + 1 ≤ 6 := by omega
        go_wp2_with (at_builtin; refine app3 rfl (.tmp 25) (.tmp 28) rfl _ _ 1 ((i : Int) + 1) 0 rfl rfl H.out (by rw [spA_l]; omega) ?_; intro V9 w9 h9; replace H := Aside.mk h9; clear h9)
        go_roundg (6 - (i + 1))
        case measure => omega
        case rel => exact ⟨i + 1, rfl, by omega, by first | rfl | (push_cast; rfl) | (rw [w_i (by omega)]; push_cast; rfl), by rw [spA_s]; exact H⟩
      · obtain rfl : i = 6 := by omega
        go_wp2
        go_meet
        case rel => exact H
  case rest =>
    clear H
    have H := hcut
    clear hcut
    go_upto_block 2 with (at_builtin; refine app3 rfl (.tmp 30) (.tmp 32) rfl _ _ 0 0 0 rfl rfl H.out (by rw [spA_l]; omega) ?_; intro V9 w9 h9; replace H := Aside.mk h9; clear h9)
    go_cut [3, 5] (fun v3 v5 wc => Aside (St w wc (SL w.heap.size P T v3 (spB 8))))
    case first =>
      go_wp2_with fail
      go_loopg [3, 5] (8) (fun m v3 v5 w' => ∃ i : Nat, m = 8 - i ∧ i ≤ 8 ∧ v5 = .int .i64 i ∧ Aside (St w w' (SL w.heap.size P T v3 (spB i))))
      case atStart => exact ⟨0, rfl, Nat.zero_le _, rfl, H⟩
      case round =>
        clear H
        obtain ⟨i, rfl, hi, rfl, H⟩ := hrel
        by_cases hlt : i < 8
        · have d1 : decide ((i : Int) < 8) = true := by simp; omega
          have n1 : (i : Int) < 8 := by omega
          go_wp2_with (at_builtin; refine app3 rfl (.tmp 38) (.tmp 41) rfl _ _ 2 (i : Int) 0 rfl rfl H.out (by rw [spB_l]; omega) ?_; intro V9 w9 h9; replace H := Aside.mk h9; clear h9)
          go_roundg (8 - (i + 1))
          case measure => omega
          case rel => exact ⟨i + 1, rfl, by omega, by first | rfl | (push_cast; rfl) | (rw [w_i (by omega)]; push_cast; rfl), by rw [spB_s]; exact H⟩
        · obtain rfl : i = 8 := by omega
          go_wp2
          go_meet
          case rel => exact H
    case rest =>
      clear H
      have H := hcut
      clear hcut
      go_upto_block 4 with fail
      go_cut [3, 6, 7, 8] (fun v3 v6 v7 v8 wc => Aside (St w wc (SL w.heap.size P T v3 (spC (T + 1)))))
      case first =>
        go_wp2_with fail
        go_loopg [3, 6, 7, 8] (T + 1) (fun m v3 v6 v7 v8 w' => ∃ t : Nat, m = T + 1 - t ∧ t ≤ T + 1 ∧ v6 = .int .i64 t ∧ Aside (St w w' (SL w.heap.size P T v3 (spC t))))
        case atStart => exact ⟨0, rfl, Nat.zero_le _, rfl, by rw [show spC 0 = spB 8 by simp [spC]]; exact H⟩
        case round =>
          clear H
          obtain ⟨t, rfl, hi, rfl, H⟩ := hrel
          have z0 := (H.out.pick 1 rfl).cell 0
          have z1 := (H.out.pick 1 rfl).cell 1
          have z2 := (H.out.pick 1 rfl).cell 2
          by_cases hlt : t < T + 1
          · have d1 : decide ((t : Int) < (T : Int) + 1) = true := by simp; omega
            have n1 : (t : Int) < (T : Int) + 1 := by omega
            have HI := Aside.mk hlt
            go_wp2_with fail
            go_loopg [3, 7] (5) (fun m v3 v7 w' => ∃ j : Nat, m = 5 - j ∧ j ≤ 5 ∧ v7 = .int .i64 j ∧ Aside (St w w' (SL w.heap.size P T v3 (spC t ++ spD t j))))
            case atStart => exact ⟨0, rfl, Nat.zero_le _, rfl, by rw [show spD t 0 = [] from rfl, List.append_nil]; exact H⟩
            case round =>
              clear H z0 z1 z2 d1 n1
              obtain ⟨j, rfl, hj, rfl, H⟩ := hrel
              by_cases hj5 : j < 5
              · have d1 : decide ((j : Int) < 5) = true := by simp; omega
                have n1 : (j : Int) < 5 := by omega
                go_wp2_with (at_builtin; refine app3 rfl (.tmp 53) (.tmp 57) rfl _ _ 3 (t : Int) (j : Int) rfl rfl H.out (by rw [List.length_append, spC_l]; simp [spD]; have := HI.out; have := HTt.out; omega) ?_; intro V9 w9 h9; replace H := Aside.mk h9; clear h9)
                go_roundg (5 - (j + 1))
                case measure => omega
                case rel => exact ⟨j + 1, rfl, by omega, by first | rfl | (push_cast; rfl) | (rw [w_i (by omega)]; push_cast; rfl), by rw [spD_s, ← List.append_assoc]; exact H⟩
              · obtain rfl : j = 5 := by omega
                have z2 := (H.out.pick 1 rfl).cell 2
                go_wp2_with fail
                go_loopg [3, 8] (1) (fun m v3 v8 w' => ∃ j : Nat, m = 1 - j ∧ j ≤ 1 ∧ v8 = .int .i64 j ∧ Aside (St w w' (SL w.heap.size P T v3 (spC t ++ spD t 5 ++ spE t j))))
                case atStart => exact ⟨0, rfl, Nat.zero_le _, rfl, by rw [show spE t 0 = [] from rfl, List.append_nil]; exact H⟩
                case round =>
                  clear H z2
                  obtain ⟨j, rfl, hj, rfl, H⟩ := hrel
                  have z2 := (H.out.pick 1 rfl).cell 2
                  by_cases hj1 : j < 1
                  · have d1 : decide ((j : Int) < 1) = true := by simp; omega
                    have n1 : (j : Int) < 1 := by omega
                    go_wp2_with (at_builtin; refine app3 rfl (.tmp 65) (.tmp 69) rfl _ _ 4 (t : Int) (j : Int) rfl rfl H.out (by rw [List.length_append, List.length_append, spC_l]; simp [spD, spE]; have := HI.out; have := HTt.out; omega) ?_; intro V9 w9 h9; replace H := Aside.mk h9; clear h9)
                    go_roundg (1 - (j + 1))
                    case measure => omega
                    case rel => exact ⟨j + 1, rfl, by omega, by first | rfl | (push_cast; rfl) | (rw [w_i (by omega)]; push_cast; rfl), by rw [spE_s, ← List.append_assoc]; exact H⟩
                  · obtain rfl : j = 1 := by omega
                    go_wp2
                    go_roundg (T + 1 - (t + 1))
                    case measure => have := HI.out; omega
                    case rel => exact ⟨t + 1, rfl, HI.out, by first | rfl | (push_cast; rfl) | (rw [w_i (by have := HI.out; have := HTt.out; omega)]; push_cast; rfl), by rw [spC_s]; exact H⟩
          · obtain rfl : t = T + 1 := by omega
            have d1 : decide (((T + 1 : Nat) : Int) < (T : Int) + 1) = false := by simp
            go_wp2
            go_meet
            case rel => exact H
      case rest =>
        clear H
        have H := hcut
        clear hcut
        go_upto_block 10 with fail
        go_cut [3, 9, 10] (fun v3 v9 v10 wc => Aside (St w wc (SL w.heap.size P T v3 (spF P T 3))))
        case first =>
          go_wp2_with fail
          go_loopg [3, 9, 10] (3) (fun m v3 v9 v10 w' => ∃ q : Nat, m = 3 - q ∧ q ≤ 3 ∧ v9 = .int .i64 (5 + (q : Int)) ∧ Aside (St w w' (SL w.heap.size P T v3 (spF P T q))))
          case atStart => exact ⟨0, rfl, Nat.zero_le _, rfl, by rw [show spF P T 0 = spC (T + 1) by simp [spF]]; exact H⟩
          case round =>
            clear H
            obtain ⟨q, rfl, hi, rfl, H⟩ := hrel
            have z0 := (H.out.pick 1 rfl).cell 0
            have z1 := (H.out.pick 1 rfl).cell 1
            have z2 := (H.out.pick 1 rfl).cell 2
            by_cases hlt : q < 3
            · have d1 : decide (5 + (q : Int) ≤ 7) = true := by simp; omega
              have n1 : 5 + (q : Int) ≤ 7 := by omega
              have HI := Aside.mk hlt
              go_wp2_with fail
              go_loopg [3, 10] (P + 1) (fun m v3 v10 w' => ∃ j : Nat, m = P + 1 - j ∧ j ≤ P + 1 ∧ v10 = .int .i64 j ∧ Aside (St w w' (SL w.heap.size P T v3 (spF P T q ++ spG q j))))
              case atStart => exact ⟨0, rfl, Nat.zero_le _, rfl, by rw [show spG q 0 = [] from rfl, List.append_nil]; exact H⟩
              case round =>
                clear H z0 z1 z2 d1 n1
                obtain ⟨j, rfl, hj, rfl, H⟩ := hrel
                have z0 := (H.out.pick 1 rfl).cell 0
                by_cases hj5 : j < P + 1
                · have d1 : decide ((j : Int) < (P : Int) + 1) = true := by simp; omega
                  have n1 : (j : Int) < (P : Int) + 1 := by omega
                  have HJ := Aside.mk hj5
                  go_wp2_with (at_builtin; refine app3 rfl (.tmp 81) (.tmp 85) rfl _ _ (5 + (q : Int)) (j : Int) 0 rfl rfl H.out (by rw [List.length_append, spF_l]; simp [spG]; have := HI.out; have := HTt.out; have := HPp.out; have := HJ.out; have : q * (P + 1) ≤ 2 * 5 := Nat.mul_le_mul (by omega) (by omega); omega) ?_; intro V9 w9 h9; replace H := Aside.mk h9; clear h9)
                  go_roundg (P + 1 - (j + 1))
                  case measure => have := HJ.out; omega
                  case rel => exact ⟨j + 1, rfl, HJ.out, by first | rfl | (push_cast; rfl) | (rw [w_i (by have := HJ.out; have := HPp.out; omega)]; push_cast; rfl), by rw [spG_s, ← List.append_assoc]; exact H⟩
                · obtain rfl : j = P + 1 := by omega
                  have d1 : decide (((P + 1 : Nat) : Int) < (P : Int) + 1) = false := by simp
                  go_wp2
                  go_roundg (3 - (q + 1))
                  case measure => have := HI.out; omega
                  case rel => exact ⟨q + 1, rfl, HI.out, by first | rfl | (push_cast; congr 1; have := HI.out; first | omega | (rw [w_i (by omega)]; omega)), by rw [spF_s]; exact H⟩
            · obtain rfl : q = 3 := by omega
              go_wp2
              go_meet
              case rel => exact H
        case rest =>
          clear H
          have H := hcut
          clear hcut
          go_upto_block 14 with fail
          go_cut [3] (fun v3 wc => Aside (St w wc (SL w.heap.size P T v3 (spH P T (39 - 6 * T - 3 * P)))))
          case first =>
            go_wp2_with fail
            go_loopg [3] (39 - 6 * T - 3 * P) (fun m v3 w' => ∃ r : Nat, m = 39 - 6 * T - 3 * P - r ∧ r ≤ 39 - 6 * T - 3 * P ∧ Aside (St w w' (SL w.heap.size P T v3 (spH P T r))))
            case atStart => exact ⟨0, rfl, Nat.zero_le _, by rw [show spH P T 0 = spF P T 3 by simp [spH]]; exact H⟩
            case round =>
              clear H
              obtain ⟨r, rfl, hi, H⟩ := hrel
              obtain ⟨A2, c2, hv2, hc2, _⟩ := H.out.row_slice
              subst hv2
              obtain ⟨n, hn⟩ : ∃ n, n = (spH P T r).length := ⟨_, rfl⟩
              have hnl := spH_l P T r
              have HNN := Aside.mk hn
              rw [← hn] at hnl hc2
              have H2 : Aside (St w _ [row 143 3 (.slice A2 n c2) n (sps (spH P T r)), blk w.heap.size #[.int .i64 ((P : Int) + 1), .int .i64 ((T : Int) + 1), .int .i64 1] 25]) := Aside.mk (by rw [hn]; exact H.out)
              clear H
              rw [← hn]
              by_cases hlt : r < 39 - 6 * T - 3 * P
              · have HI := Aside.mk hlt
                have hq : Int.tmod (n : Int) 64 = n := by rw [Int.tmod_eq_emod_of_nonneg (by omega)]; have := HPp.out; have := HTt.out; omega
                have hq2 : wrap64 (n : Int) = n := w_i (by have := HPp.out; have := HTt.out; omega)
                have hq3 : ((n : Int) != 0) = true := by simp; omega
                have H := Aside.mk (show St w _ (SL w.heap.size P T (.slice A2 n c2) (spH P T r)) from by rw [show n = (spH P T r).length from hn]; rw [hn] at H2; exact H2.out)
                clear H2 hn hnl
                go_wp2_with (at_builtin; refine app3 rfl (.tmp 91) (.tmp 93) rfl _ _ 0 0 0 rfl rfl H.out (by rw [spH_l]; have := HI.out; omega) ?_; intro V9 w9 h9; replace H := Aside.mk h9; clear h9)
                go_roundg (39 - 6 * T - 3 * P - (r + 1))
                case measure => have := HI.out; omega
                case rel => exact ⟨r + 1, rfl, HI.out, by rw [spH_s]; exact H⟩
              · obtain rfl : r = 39 - 6 * T - 3 * P := by omega
                have hn64 : n = 64 := by have := HPp.out; have := HTt.out; omega
                subst hn64
                have H := Aside.mk (show St w _ (SL w.heap.size P T (.slice A2 64 c2) (spH P T (39 - 6 * T - 3 * P))) from by rw [hn] at H2 ⊢; exact H2.out)
                clear H2 hn hnl
                go_wp2
                go_meet
                case rel => exact H
          case rest =>
            clear H
            have H := hcut
            clear hcut
            go_upto_block 16 with fail
            go_cut [3, 11, 12] (fun v3 v11 v12 wc => Aside (St w wc (SL w.heap.size P T v3 (spI P T (P + 1)))))
            case first =>
              go_wp2_with fail
              go_loopg [3, 11, 12] (P + 1) (fun m v3 v11 v12 w' => ∃ q : Nat, m = P + 1 - q ∧ q ≤ P + 1 ∧ v11 = .int .i64 q ∧ Aside (St w w' (SL w.heap.size P T v3 (spI P T q))))
              case atStart => exact ⟨0, rfl, Nat.zero_le _, rfl, by rw [show spI P T 0 = spH P T (39 - 6 * T - 3 * P) by simp [spI]]; exact H⟩
              case round =>
                clear H
                obtain ⟨q, rfl, hi, rfl, H⟩ := hrel
                have z0 := (H.out.pick 1 rfl).cell 0
                by_cases hlt : q < P + 1
                · have d1 : decide ((q : Int) < (P : Int) + 1) = true := by simp; omega
                  have n1 : (q : Int) < (P : Int) + 1 := by omega
                  have HI := Aside.mk hlt
                  go_wp2_with fail
                  go_loopg [3, 12] (64) (fun m v3 v12 w' => ∃ j : Nat, m = 64 - j ∧ j ≤ 64 ∧ v12 = .int .i64 j ∧ Aside (St w w' (SL w.heap.size P T v3 (spI P T q ++ spJ q j))))
                  case atStart => exact ⟨0, rfl, Nat.zero_le _, rfl, by rw [show spJ q 0 = [] from rfl, List.append_nil]; exact H⟩
                  case round =>
                    clear H z0 d1 n1
                    obtain ⟨j, rfl, hj, rfl, H⟩ := hrel
                    by_cases hj5 : j < 64
                    · have d1 : decide ((j : Int) < 64) = true := by simp; omega
                      have n1 : (j : Int) < 64 := by omega
                      go_wp2_with (at_builtin; refine app3 rfl (.tmp 105) (.tmp 109) rfl _ _ 8 (q : Int) (j : Int) rfl rfl H.out (by rw [List.length_append, spI_l HPp.out HTt.out]; simp [spJ]; have := HI.out; have := HPp.out; omega) ?_; intro V9 w9 h9; replace H := Aside.mk h9; clear h9)
                      go_roundg (64 - (j + 1))
                      case measure => omega
                      case rel => exact ⟨j + 1, rfl, by omega, by first | rfl | (push_cast; rfl) | (rw [w_i (by omega)]; push_cast; rfl), by rw [spJ_s, ← List.append_assoc]; exact H⟩
                    · obtain rfl : j = 64 := by omega
                      go_wp2
                      go_roundg (P + 1 - (q + 1))
                      case measure => have := HI.out; omega
                      case rel => exact ⟨q + 1, rfl, HI.out, by first | rfl | (push_cast; rfl) | (rw [w_i (by have := HI.out; have := HPp.out; omega)]; push_cast; rfl), by rw [spI_s]; exact H⟩
                · obtain rfl : q = P + 1 := by omega
                  have d1 : decide (((P + 1 : Nat) : Int) < (P : Int) + 1) = false := by simp
                  go_wp2
                  go_meet
                  case rel => exact H
            case rest =>
              clear H
              have H := hcut
              clear hcut
              go_wp2
              go_ret
              exact ⟨_, rfl, (H.out.pick 1 rfl).rest⟩
end Go.Proofs.YtelfiegocdjnoaaDoor.Ar
