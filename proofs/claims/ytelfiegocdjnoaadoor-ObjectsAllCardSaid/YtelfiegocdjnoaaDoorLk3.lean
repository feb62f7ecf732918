/- Look: the document's, in the same closed form: plain. Conditions: a plan of at most five pages; words of 64 bits. -/
import Derived.Test.YtelfiegocdjnoaaDoorLk2
import Derived.Laws.BitsAllLaws
import Derived.Test.YtelfiegocdjnoaaDoorMrF0
import Derived.Test.YtelfiegocdjnoaaDoorMrF1
namespace Go.Proofs.YtelfiegocdjnoaaDoor.Ar
open Go Go.RowKit Go.Proofs.YtelfiegocdjnoaaDoor.Sep Go.Proofs.YtelfiegocdjnoaaDoor.Pg Go.Proofs.YtelfiegocdjnoaaDoorW.PrintWords Go.Proofs.YtelfiegocdjnoaaDoorW.PrintLast Go.Proofs.YtelfiegocdjnoaaDoorW.PrintMore Go.Proofs.YtelfiegocdjnoaaDoor.Q
set_option linter.unusedVariables false
set_option linter.unusedSimpArgs false
set_option maxHeartbeats 8000000
set_option maxRecDepth 100000
theorem lift_ {α : Type} {g : Nat → Option α} (hm : ∀ k, LeO (g k) (g (k + 1))) {k0 : Nat} {r : α} (h : g k0 = some r) : ∀ k, k0 ≤ k → g k = some r := by
  intro k hk
  obtain ⟨d, rfl⟩ := Nat.exists_eq_add_of_le hk
  induction d with
  | zero => exact h
  | succ d ih => exact hm _ _ (ih (by omega))
theorem pow_ : ∀ j : Fin 64, windrowref01_Power.f 70 (j.val : Int) = some ((2 ^ j.val : Nat) : Int) := by decide +kernel
theorem bit_ (k : Nat) (hk : 70 ≤ k) (w : Int) (h0 : 0 ≤ w) (h1 : w < 18446744073709551616) (j : Nat) (hj : j < 64) : windrowref01_Bit.f k w (j : Int) = some (w / (2 ^ j : Nat) % 2) := by
  unfold windrowref01_Bit.f
  have hp : windrowref01_Power.f k (j : Int) = some ((2 ^ j : Nat) : Int) := lift_ (g := fun k => windrowref01_Power.f k (j : Int)) (fun k => (windrowref01_Power.mono_l k) _ _ _) (pow_ ⟨j, hj⟩) k hk
  rw [hp]
  have hpos : 0 < 2 ^ j := Nat.pow_pos (by decide)
  generalize 2 ^ j = p at hpos ⊢
  simp only [Option.bind_some]
  have h2 : (0 : Int) ≤ w / (p : Int) := Int.ediv_nonneg h0 (by omega)
  have h3 : w / (p : Int) ≤ w := Int.ediv_le_self _ h0
  rw [if_neg (by omega), Int.tdiv_eq_ediv_of_nonneg h0, wu (w / (p : Int)) h2 (by omega), Int.tmod_eq_emod_of_nonneg h2]
theorem cell_ : ∀ c : Fin 16, ∀ j : Fin 64, windrowref05_Cell.f 40 (c.val : Int) (j.val : Int) = some (cellI (c.val : Int) (j.val : Int)) := by decide +kernel
theorem cellsL_ (k : Nat) (hk : 40 ≤ k) (c : Int) (h0 : 0 ≤ c) (h1 : c < 16) (j : Nat) (hj : j < 64) : windrowref05_Cell.f k c (j : Int) = some (cellI c (j : Int)) := by
  obtain ⟨n, rfl⟩ := Int.eq_ofNat_of_zero_le h0
  exact lift_ (g := fun k => windrowref05_Cell.f k (n : Int) (j : Int)) (windrowref05_Cell.mono _ _) (cell_ ⟨n, by omega⟩ ⟨j, hj⟩) k hk
theorem dec_cr (w : Int) : 0 ≤ (dec w).2.1 ∧ (dec w).2.1 < 16 := by
  unfold dec
  simp only
  split
  · simp only; omega
  · simp
theorem and1_ (x : Int) (h0 : 0 ≤ x) (h1 : x < 18446744073709551616) : bits BinOp.and IntKind.u64 x 1 = x % 2 := by
  rw [u64_and x 1 h0 h1 (by decide) (by decide)]
  rw [show (1 : Int).toNat = 1 from rfl, Nat.and_one_is_mod]
  omega
theorem rentry_ {P : Nat} {X : List Int} (hP : P < 5) (hX : X.length = 128 + 64 * P) (hr : ∀ i, 0 ≤ X.getD i 0 ∧ X.getD i 0 < 18446744073709551616) (i : Nat) (hi : i ≤ P) {ek ec es eo ey ef : Int} (hd : dec (X.getD (22 + i) 0) = (ek, ec, es, eo, ey, ef)) (k : Nat) (hk : 3 ≤ k) (p2 p3 p4 p6 : Int) :
    windrowref11_Entry.f k X ((P : Int) + 1) p2 p3 p4 22 p6 (i : Int) = some (ek, ec, es, eo, ey, (ef == 0)) := by
  have hu := hr (22 + i)
  generalize hx : X.getD (22 + i) 0 = x at hd hu
  have e : rd X ((22 + i : Nat) : Int) = x := hx
  obtain ⟨q, rfl⟩ : ∃ q, k = q + 3 := ⟨k - 3, by omega⟩
  have hdec := decR q x hu.1 hu.2
  rw [hd] at hdec
  clear hd hu hr
  unfold windrowref11_Entry.f windrowref06_Map_PageEntry.f
  rw [Option.bind_some]
  rw [show wrap64 (22 + (i : Int)) = ((22 + i : Nat) : Int) by unfold wrap64; omega, if_pos (by omega), if_pos (by rw [hX]; omega), e, hdec]
  rw [Option.bind_some]
theorem plI_nn {P : Nat} {at_ : Int} (hz : ¬ (plI P at_).1 < 0) : ∃ i j : Nat, plI P at_ = ((i : Int), (j : Int)) ∧ i ≤ P ∧ j < 64 := by
  unfold plI at hz ⊢
  by_cases hr : 64 ≤ at_ ∧ at_ < 128 + 64 * (P : Int)
  · rw [if_pos hr]
    exact ⟨((at_ - 64) / 64).toNat, ((at_ - 64) % 64).toNat, by ext <;> simp only <;> omega, by omega, by omega⟩
  · rw [if_neg hr] at hz; simp at hz
theorem wa_ (P i : Nat) (hP : P < 5) (hi : i ≤ P) : wrap64 (wrap64 (22 + ((P : Int) + 1)) + (i : Int)) = ((22 + (P + 1) + i : Nat) : Int) := by unfold wrap64; omega
theorem dq_ (al : Int) (j : Nat) (h : 0 ≤ al ∧ al < 18446744073709551616) : 0 ≤ al / ((2 ^ j : Nat) : Int) ∧ al / ((2 ^ j : Nat) : Int) < 18446744073709551616 := by
  generalize 2 ^ j = p
  exact ⟨Int.ediv_nonneg h.1 (Int.natCast_nonneg p), Int.lt_of_le_of_lt (Int.ediv_le_self _ h.1) h.2⟩
theorem rall_c {P : Nat} {X : List Int} (hP : P < 5) (hX : X.length = 128 + 64 * P) (hr : ∀ i, 0 ≤ X.getD i 0 ∧ X.getD i 0 < 18446744073709551616) (at_ : Int) (k : Nat) (hk : 100 ≤ k) :
    windrowref11_Allocated.f k X ((P : Int) + 1) 1 1 64 22 (128 + 64 * (P : Int)) at_ = some (allR P X at_) := by
  unfold windrowref11_Allocated.f
  rw [rheap_ P hP, Option.bind_some]
  unfold allR
  by_cases hz : (plI P at_).1 < 0
  · rw [if_pos hz, if_pos hz]
  · rw [if_neg hz, if_neg hz]
    obtain ⟨i, j, hz2, hi, hj⟩ := plI_nn hz
    unfold entR
    rw [hz2]
    simp only [Int.toNat_natCast]
    have hcr := dec_cr (X.getD (22 + i) 0)
    obtain ⟨ek, ec, es, eo, ey, ef, hd⟩ : ∃ ek ec es eo ey ef, dec (X.getD (22 + i) 0) = (ek, ec, es, eo, ey, ef) := ⟨_, _, _, _, _, _, rfl⟩
    have hen := rentry_ hP hX hr i hi hd k (by omega) 1 1 64 (128 + 64 * (P : Int))
    rw [hd] at hcr ⊢
    rw [hen]
    rw [Option.bind_some]
    clear hen hd
    dsimp only at hcr ⊢
    obtain ⟨k', rfl⟩ : ∃ k', k = k' + 1 := ⟨k - 1, by omega⟩
    have ha := hr (22 + (P + 1) + i)
    generalize hal : X.getD (22 + (P + 1) + i) 0 = al at ha ⊢
    have hpe : ((2 : Int) ^ j) = ((2 ^ j : Nat) : Int) := by push_cast; rfl
    have hq := dq_ al j ha
    have hbit := bit_ (k' + 1) (by omega) al ha.1 ha.2 j hj
    have hla : 22 + (P + 1) + i < X.length := by omega
    unfold allI
    rw [hpe, and1_ _ hq.1 hq.2]
    clear hpe hq
    generalize al / ((2 ^ j : Nat) : Int) % 2 = b at hbit ⊢
    by_cases hf : ef = 0
    · rw [if_pos (by simp [hf])]
      unfold windrowref06_Map_Alloc.f
      rw [Option.bind_some]
      have e : rd X ((22 + (P + 1) + i : Nat) : Int) = al := hal
      rw [wa_ P i hP hi, if_pos (Int.natCast_nonneg _), if_pos (Int.ofNat_lt.2 hla), e, hbit, Option.bind_some, windrowref11_Allocated.j0]
      by_cases hb : b = 0
      · rw [if_pos (by simp [hb]), if_neg (show ¬ (ef = 0 ∧ ¬ b = 0) by simp [hb])]
      · rw [if_neg (by simp [hb]), if_pos (show ef = 0 ∧ ¬ b = 0 from ⟨hf, hb⟩)]
        by_cases hk1 : ek = 1
        · rw [if_pos hk1, if_pos hk1, cellsL_ k' (by omega) ec hcr.1 hcr.2 j hj, Option.bind_some]
          congr 1
        · rw [if_neg hk1, if_neg hk1]
          by_cases hk2 : ek = 2
          · rw [if_pos hk2, if_pos hk2]
            congr 1
            rw [Bool.eq_iff_iff]; simp
          · rw [if_neg hk2, if_neg hk2]
    · rw [if_neg (by simp [hf]), if_neg (fun h => hf h.1)]
      rw [windrowref11_Allocated.j0, if_pos rfl]
theorem rfits_ (l : List S161) (c k n : Int) : windrowref10_Fits.f l c k n = some (fitT (l.map fun x => x.f1.length) c k n) := by
  unfold windrowref10_Fits.f fitT
  rw [rhead_]
  simp only [Option.bind_some]
  by_cases hh : isH c k n = true
  · rw [if_pos hh, hh, Bool.true_and, List.length_map]
    by_cases hk : k = 1
    · rw [if_pos hk, show decide (k ≠ 1) = false by simp [hk], Bool.false_or]
      have h0 : 0 ≤ c := by simp only [isH, decide_eq_true_eq] at hh; omega
      by_cases hc : c < (l.length : Int)
      · rw [if_pos hc, if_pos h0, show decide (c < (l.length : Int)) = true by simpa using hc, Bool.true_and]
        congr 1
        have e : (rd_T161 l c).f1.length = (l.map fun x => x.f1.length).getD c.toNat 0 := by
          unfold rd_T161
          simp [List.getD_eq_getElem?_getD, show c.toNat < l.length by omega]
        rw [e, Bool.eq_iff_iff]
        simp only [beq_iff_eq, decide_eq_true_eq]
      · rw [if_neg hc, show decide (c < (l.length : Int)) = false by simpa using hc, Bool.false_and]
    · rw [if_neg hk, show decide (k ≠ 1) = true by simp [hk], Bool.true_or]
  · rw [if_neg hh, show isH c k n = false by simpa using hh, Bool.false_and]
theorem rpages2_ (k : Nat) (hk : 10 ≤ k) (w : Int) (h0 : 1 ≤ w) (h1 : w ≤ 256) : windrowref05_Pages.f k w = some (pgI w, 0) := by
  unfold pgI
  by_cases h32 : w ≤ 32
  · rw [if_pos h32]; unfold windrowref05_Pages.f; rw [if_neg (by omega), if_neg (by omega), if_pos h32]
  · rw [if_neg h32]
    obtain ⟨m, rfl⟩ : ∃ m : Nat, w = m := ⟨w.toNat, by omega⟩
    exact lift_ (g := fun k => windrowref05_Pages.f k (m : Int)) (windrowref05_Pages.mono _) (rpages_ ⟨m, by omega⟩ (by show 33 ≤ m; omega)) k hk
theorem rwords5_ : ∀ c : Fin 8, windrowref05_Words.f (c.val : Int) = some (szI (c.val : Int), 0) := by decide +kernel
theorem cellI_j {c : Int} {j : Nat} (h : cellI c j = j) : (0 ≤ c ∧ c < 8) ∧ (j : Int) + szI c ≤ 64 := by
  unfold cellI at h
  by_cases h1 : (0 ≤ c ∧ c < 8) ∧ (0 : Int) ≤ (j : Int) ∧ (j : Int) < 64
  · rw [if_pos h1] at h
    refine ⟨h1.1, ?_⟩
    split at h
    · omega
    · omega
  · rw [if_neg h1] at h; omega
end Go.Proofs.YtelfiegocdjnoaaDoor.Ar
