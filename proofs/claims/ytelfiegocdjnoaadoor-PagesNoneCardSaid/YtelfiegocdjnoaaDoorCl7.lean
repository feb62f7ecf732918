/- A claim and its arena between two steps: small words. No condition. -/
import Derived.Test.YtelfiegocdjnoaaDoorCl6
import Derived.Test.YtelfiegocdjnoaaDoorRm1
import Derived.Test.YtelfiegocdjnoaaDoorMrF0
namespace Go.Proofs.YtelfiegocdjnoaaDoor.Ar
open Go Go.RowKit Go.Proofs.YtelfiegocdjnoaaDoor.Sep Go.Proofs.YtelfiegocdjnoaaDoor.Pg Go.Proofs.YtelfiegocdjnoaaDoorW.PrintWords Go.Proofs.YtelfiegocdjnoaaDoorW.PrintLast Go.Proofs.YtelfiegocdjnoaaDoorW.PrintMore Go.Proofs.YtelfiegocdjnoaaDoor.Q
set_option linter.unusedVariables false
set_option linter.unusedSimpArgs false
set_option maxHeartbeats 8000000
set_option maxRecDepth 100000
variable {w0 w : World} {F : List HP} {a gC p g : Nat} {lv : Value} {l : List Acc} {cn fl who : Int} {X : List Int} {q : Cp} {x : Cl}
theorem ClSt.pick {L : List HP} {P : HP} (h : ClSt w0 w L g q x (P :: F)) : ∃ M, St w0 w (P :: M) := by
  unfold ClSt at h
  cases hs : x.sw with
  | none =>
    rw [hs] at h
    exact ⟨_, h.perm (by rw [show L ++ clB g q x (.pointer none) :: P :: F = (L ++ [clB g q x (.pointer none)]) ++ P :: F by simp]; exact List.perm_middle)⟩
  | some y =>
    rw [hs] at h
    obtain ⟨s, h⟩ := h
    exact ⟨_, h.perm (by rw [show L ++ clB g q x (swP s) :: swB s y :: P :: F = (L ++ [clB g q x (swP s), swB s y]) ++ P :: F by simp]; exact List.perm_middle)⟩
theorem ClSt.out {L : List HP} (hs : x.sw = none) (h : ClSt w0 w L g q x F) : St w0 w (L ++ clB g q x (.pointer none) :: F) := by
  unfold ClSt at h
  rw [hs] at h
  exact h
theorem clgrant_ {b : Bool} (h : ClSt w0 w (Are p a gC who b X lv l cn fl) g q x F) : Calls Tryd.prog 17 #[.pointer (some ⟨p, 0, none⟩)] w fun e w' => e = .returned (.tuple #[]) ∧ ClSt w0 w' (Are p a gC who true X lv l cn fl) g q x F := by
  unfold ClSt at h ⊢
  cases hs : x.sw with
  | none =>
    rw [hs] at h
    exact grant_ h
  | some y =>
    rw [hs] at h
    obtain ⟨s, h⟩ := h
    refine (grant_ h).mono ?_
    rintro e w1 ⟨he, h1⟩
    exact ⟨he, s, h1⟩
theorem clover2_ {b : Bool} (h : ClSt w0 w (Are p a gC who b X lv l cn fl) g q x F) : Calls Tryd.prog 56 #[clP g] w fun e w' => e = .returned (.bool (x.at_ == 9)) ∧ w' = w := by
  obtain ⟨sp, F', hs⟩ := h.st
  exact clover_ (hs.pick 4 rfl)
theorem wordU {q : Cp} (hq : q.Right) : u64 q.word := wordOf_u64 hq.isE
theorem cacc_u64 {q : Cp} (hq : q.Right) {x : Cl} (h : x.Good q) (h9 : x.at_ ≠ 9) {v : Int} (hv : u64 v) : u64 (leftOf (x.acc q).1 v (x.acc q).2.2.1 (x.acc q).2.2.2) := by
  have hlo := h.a0
  have z : u64 0 := by unfold u64; decide
  have lf1 : ∀ a b c, leftOf 1 a b c = a := fun a b c => if_pos rfl
  have lf2 : ∀ a b c, leftOf 2 a b c = c := fun a b c => by unfold leftOf; rw [if_neg (by decide), if_neg (by decide)]
  have lf4 : ∀ a b c, u64 a → u64 c → u64 (leftOf 4 a b c) := fun a b c h1 h2 => by unfold leftOf; rw [if_neg (by decide), if_pos rfl]; split <;> assumption
  by_cases h48 : x.at_ = 4 ∨ x.at_ = 8
  · have ea : x.acc q = (x.swp q).acc q.P q.T x.pg := by
      unfold Cl.acc
      rw [if_neg (by omega), if_neg (by omega), if_neg (by omega), if_neg (by omega), if_neg (by omega), if_neg (by omega), if_neg (by omega)]
    obtain ⟨hpl, hsg, h8⟩ := h.sw h48
    rw [ea]
    exact acc_u64 hpl hsg h8 hv
  unfold Cl.acc
  by_cases h0 : x.at_ = 0
  · rw [if_pos h0]; simp only [lf1]; exact hv
  rw [if_neg h0]
  by_cases h1 : x.at_ = 1
  · rw [if_pos h1]; exact lf4 _ _ _ hv (wordU hq)
  rw [if_neg h1]
  by_cases h2 : x.at_ = 2
  · rw [if_pos h2]; simp only [lf1]; exact hv
  rw [if_neg h2]
  by_cases h3 : x.at_ = 3
  · rw [if_pos h3]
    simp only [lf2]
    obtain ⟨he, hk⟩ := h.en (.inr (.inr h3))
    exact wordOf_u64 (isE_given he (.inl hk) hq.hy)
  rw [if_neg h3]
  by_cases h5 : x.at_ = 5
  · rw [if_pos h5]; exact lf4 _ _ _ hv (wordU hq)
  rw [if_neg h5]
  by_cases h6 : x.at_ = 6
  · rw [if_pos h6]; simp only [lf2]; exact z
  rw [if_neg h6]
  by_cases h7 : x.at_ = 7
  · rw [if_pos h7]; simp only [lf2]; exact z
  exact absurd (show x.at_ = 4 ∨ x.at_ = 8 by omega) h48
theorem mod_in (q : Int) (n : Int) (h0 : 0 < n) (h1 : n ≤ 4294967296) : 0 ≤ wrap64 (Int.tmod (IntKind.u64.wrap q) n) ∧ wrap64 (Int.tmod (IntKind.u64.wrap q) n) < n := by
  have h : 0 ≤ IntKind.u64.wrap q := by rw [IntKind.wrap_u64]; omega
  generalize IntKind.u64.wrap q = a at *
  rw [Int.tmod_eq_emod_of_nonneg h]
  have h2 := Int.emod_nonneg a (show n ≠ 0 by omega)
  have h3 := Int.emod_lt_of_pos a h0
  rw [w64 _ h2 (by omega)]
  exact ⟨h2, h3⟩
/-- The cells and the claim are right. -/
structure CInv (q : Cp) (m : List Int × Cl) : Prop where
  (gd : m.2.Good q) (len : m.1.length = 128 + 64 * q.P) (rng : Rng m.1)
theorem CInv.stp {q : Cp} (hq : q.Right) {m : List Int × Cl} (h : CInv q m) (h9 : m.2.at_ ≠ 9) : CInv q (cstp q m) :=
  ⟨h.gd.aft hq h9 (h.rng _), by simp only [cstp, upd, List.length_set]; exact h.len, h.rng.set _ (cacc_u64 hq h.gd h9 (h.rng _))⟩
theorem CInv.start {q : Cp} (hq : q.Right) {X : List Int} (hl : X.length = 128 + 64 * q.P) (hr : Rng X) : CInv q (X, cl0) :=
  ⟨⟨by simp, by simp, by simp, by simp, by simp, by simp, by simp, fun _ => rfl, ⟨by simp, by simp⟩⟩, hl, hr⟩
theorem CInv.go {q : Cp} (hq : q.Right) : ∀ {n : Nat} {m m' : List Int × Cl}, CInv q m → CGo q n m m' → CInv q m'
  | 0, _, _, h, g => by cases g; exact h
  | n + 1, _, _, h, g => CInv.go hq (h.stp hq g.1) g.2
theorem freeL_ {c a : Int} (hc : 0 ≤ c ∧ c < 8) (ha : u64 a) (w : World) : Calls Tryd.prog 61 #[.int .i64 c, .int .u64 a] w fun e w' => ∃ A cp, e = .returned (.slice A (room c a) cp) ∧ Below w.heap.size w w' := by
  refine (windrowref05_Free.calls 200 c a _ w (free_ hc ha 200 (Nat.le_refl _))).mono ?_
  rintro e w' ⟨v, he, hR, hb⟩
  obtain ⟨A1, c1, rfl⟩ := Kd.R_slice hR
  exact ⟨A1, c1, by rw [he, List.length_map]; rfl, hb⟩
theorem none_key {P T : Nat} {Y C k c s o y f ew av : Int} (hd : dec ew = (k, c, s, o, y, f)) (hp : P2 ⟨P, T, 0, Y, C⟩ ew av) :
    f = 4 ∨ (f = 0 ∧ k ≠ 1) ∨ (f = 0 ∧ k = 1 ∧ s ≠ 0) ∨ (f = 0 ∧ k = 1 ∧ s = 0 ∧ c ≠ C ∧ Y ≤ y) ∨ (f = 0 ∧ k = 1 ∧ s = 0 ∧ C = c ∧ Y < y) ∨ (f = 0 ∧ k = 1 ∧ s = 0 ∧ C = c ∧ Y = y ∧ room C av = 0) := by
  obtain ⟨⟨p0, _⟩, p2⟩ := hp
  unfold P0 at p0
  rw [hd] at p0 p2
  simp only at p0 p2
  rcases dec_isE hd with ⟨hf, _⟩ | hf
  · by_cases hk : k = 1
    · by_cases hs : s = 0
      · by_cases hc : c = C
        · rcases p0 hf hk hs hc with h | h
          · exact .inr (.inr (.inr (.inr (.inl ⟨hf, hk, hs, hc.symm, h⟩))))
          · exact .inr (.inr (.inr (.inr (.inr ⟨hf, hk, hs, hc.symm, h.1.symm, h.2⟩))))
        · exact .inr (.inr (.inr (.inl ⟨hf, hk, hs, hc, p2 hf hk hs⟩)))
      · exact .inr (.inr (.inl ⟨hf, hk, hs⟩))
    · exact .inr (.inl ⟨hf, hk⟩)
  · exact .inl hf
end Go.Proofs.YtelfiegocdjnoaaDoor.Ar
