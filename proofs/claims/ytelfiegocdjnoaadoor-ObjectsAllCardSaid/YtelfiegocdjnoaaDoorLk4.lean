/- Look, Allocated and SameCell of the document over what is owned. Conditions: a plan of at most five pages; words of 64 bits. -/
import Derived.Test.YtelfiegocdjnoaaDoorLk3
import Derived.Test.YtelfiegocdjnoaaDoorSm
import Derived.Test.YtelfiegocdjnoaaDoorMrF0
import Derived.Test.YtelfiegocdjnoaaDoorMrF1
namespace Go.Proofs.YtelfiegocdjnoaaDoor.Ar
open Go Go.RowKit Go.Proofs.YtelfiegocdjnoaaDoor.Sep Go.Proofs.YtelfiegocdjnoaaDoor.Pg Go.Proofs.YtelfiegocdjnoaaDoorW.PrintWords Go.Proofs.YtelfiegocdjnoaaDoorW.PrintLast Go.Proofs.YtelfiegocdjnoaaDoorW.PrintMore Go.Proofs.YtelfiegocdjnoaaDoor.Q
set_option linter.unusedVariables false
set_option linter.unusedSimpArgs false
set_option maxHeartbeats 8000000
set_option maxRecDepth 100000
abbrev I64 (l : List Int) : List Value := l.map (.int .i64)
theorem layS_rng {N k : Nat} {L : List (Int × Int)} (h : ∀ p ∈ L, 0 ≤ p.2 ∧ p.2 < 18446744073709551616) : ∀ i, 0 ≤ (layS N k L).getD i 0 ∧ (layS N k L).getD i 0 < 18446744073709551616 := by
  unfold layS
  have h0 : ∀ i, 0 ≤ (List.replicate N (0 : Int)).getD i 0 ∧ (List.replicate N (0 : Int)).getD i 0 < 18446744073709551616 := by
    intro i
    rw [List.getD_eq_getElem?_getD]
    by_cases hi : i < N
    · simp [hi]
    · simp [List.getElem?_eq_none, hi]
  have hM : ∀ p ∈ L.take k, 0 ≤ p.2 ∧ p.2 < 18446744073709551616 := fun p hp => h p (List.mem_of_mem_take hp)
  generalize List.replicate N (0 : Int) = X at h0 ⊢
  generalize L.take k = M at hM ⊢
  clear h
  induction M generalizing X with
  | nil => exact h0
  | cons p M ih =>
    refine ih _ (fun i => ?_) (fun q hq => hM q (List.mem_cons_of_mem _ hq))
    have hp := hM p (List.mem_cons_self ..)
    rw [List.getD_eq_getElem?_getD]
    by_cases hi : posN N p.1 = i
    · subst hi
      by_cases hl : posN N p.1 < X.length
      · rw [List.getElem?_set_self hl]; exact hp
      · rw [List.getElem?_eq_none (by rw [List.length_set]; omega)]; simp
    · rw [List.getElem?_set_ne hi, ← List.getD_eq_getElem?_getD]; exact h0 i
theorem look_len (P : Nat) (X : List Int) (ns : List Nat) (at_ : Int) : (lookR P X ns at_).2.2.2.1.length ≤ 1000 := by
  unfold lookR
  by_cases h : allR P X at_ = true
  · rw [if_pos h]
    by_cases h2 : okR P X ns at_ (decH (X.getD at_.toNat 0)) = true
    · rw [if_pos h2]
      show (wsR X at_.toNat _).length ≤ 1000
      rw [wsR_len]
      unfold okR at h2
      generalize decH (X.getD at_.toNat 0) = q at h2 ⊢
      obtain ⟨c, k, n, f⟩ := q
      dsimp only at h2 ⊢
      have hf : fitT ns c k n = true := by
        cases hft : fitT ns c k n
        · rw [hft] at h2; simp at h2
        · rfl
      unfold fitT at hf
      have hh : isH c k n = true := by
        cases hft : isH c k n
        · rw [hft] at hf; simp at hf
        · rfl
      have hn : 0 ≤ n ∧ n ≤ 255 := by simp only [isH, decide_eq_true_eq] at hh; omega
      omega
    · rw [if_neg h2]; exact Nat.zero_le _
  · rw [if_neg h]; exact Nat.zero_le _
theorem longsL (l : List Int) (hl : l.length ≤ 10000) : ∀ (d i k : Nat), i + d = l.length → d < k → windrowref01_Longs.l0 k l l (i : Int) = some true := by
  intro d
  induction d with
  | zero =>
    intro i k hi hk
    obtain ⟨k, rfl⟩ : ∃ q, k = q + 1 := ⟨k - 1, by omega⟩
    unfold windrowref01_Longs.l0
    rw [if_neg (by omega)]
  | succ d ih =>
    intro i k hi hk
    obtain ⟨k, rfl⟩ : ∃ q, k = q + 1 := ⟨k - 1, by omega⟩
    unfold windrowref01_Longs.l0
    rw [if_pos (by omega), if_pos (by omega), if_pos (by omega), if_pos rfl]
    have hs := ih (i + 1) k (by omega) (by omega)
    rw [show wrap64 ((i : Int) + 1) = ((i + 1 : Nat) : Int) by unfold wrap64; omega]
    exact hs
variable {w0 w : World} {F : List HP} {gD nN : Nat} {X : List Int}
abbrev MapV (P : Nat) : Value := .agg #[.int .i64 ((P : Int) + 1), .int .i64 1, .int .i64 1, .int .i64 64, .int .i64 22, .int .i64 (128 + 64 * (P : Int))]
theorem cells_U (h : St w0 w (blk gD (U X).toArray 22 :: F)) (hX : X.length ≤ 4096) : Kd.C (Kd.int .u64) w (some ⟨gD, 0, none⟩) X.length X := C_u64 hX fun j u hj => by rw [h.cell j]; simpa using hj
theorem rall_st {P : Nat} (hP : P < 5) (hX : X.length = nN) (hN : nN = 128 + 64 * P) (hr : ∀ i, 0 ≤ X.getD i 0 ∧ X.getD i 0 < 18446744073709551616) (at_ : Int) (h : St w0 w (blk gD (U X).toArray 22 :: F)) :
    Calls Tryd.prog 26 #[.slice (some ⟨gD, 0, none⟩) nN nN, MapV P, .int .i64 at_] w fun e w' => e = .returned (.bool (allR P X at_)) ∧ St w0 w' (blk gD (U X).toArray 22 :: F) := by
  subst hX
  refine (windrowref11_Allocated.calls 100 (some ⟨gD, 0, none⟩) X.length X _ _ _ _ _ _ at_ _ w (cells_U h (by omega)) (Nat.le_refl _) (rall_c hP hN hr at_ 100 (Nat.le_refl _))).mono ?_
  rintro e w' ⟨rfl, hb⟩
  exact ⟨rfl, h.step hb⟩
end Go.Proofs.YtelfiegocdjnoaaDoor.Ar
