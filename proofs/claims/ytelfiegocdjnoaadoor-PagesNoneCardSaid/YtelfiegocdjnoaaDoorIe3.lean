/- The document's DecodeEntry: a short contract. Condition: the word is one. -/
import Derived.Test.YtelfiegocdjnoaaDoorAr0
import Derived.Test.YtelfiegocdjnoaaDoorIe2
import Derived.Test.YtelfiegocdjnoaaDoorPg3
import Derived.Test.YtelfiegocdjnoaaDoorMrF0
namespace Go.Proofs.YtelfiegocdjnoaaDoor.Ar
open Go Go.RowKit Go.Proofs.YtelfiegocdjnoaaDoor.Sep Go.Proofs.YtelfiegocdjnoaaDoor.Pg Go.Proofs.YtelfiegocdjnoaaDoorW.PrintWords Go.Proofs.YtelfiegocdjnoaaDoorW.PrintLast Go.Proofs.YtelfiegocdjnoaaDoorW.PrintMore Go.Proofs.YtelfiegocdjnoaaDoor.Q
set_option linter.unusedVariables false
set_option linter.unusedSimpArgs false
set_option maxHeartbeats 8000000
set_option maxRecDepth 100000
theorem rdec_c {v : Int} (h0 : 0 ≤ v) (h1 : v < 18446744073709551616) {k c s o y f : Int} (hd : dec v = (k, c, s, o, y, f)) (w : World) :
    Calls Tryd.prog 60 #[.int .u64 v] w fun e w' => e = .returned (.tuple #[.agg #[.int .i64 k, .int .i64 c, .int .i64 s, .int .i64 o, .int .i64 y], .int .i64 f]) ∧ Below w.heap.size w w' := by
  have HD := Aside.mk hd
  have t : ∀ a b : Int, 0 ≤ a → Int.tmod a b = a % b := fun a b h => Int.tmod_eq_emod_of_nonneg h
  have d : ∀ a b : Int, 0 ≤ a → Int.tdiv a b = a / b := fun a b h => Int.tdiv_eq_ediv_of_nonneg h
  obtain ⟨n0, e0⟩ : ∃ n, wrap64 (Int.tmod v 4) = n := ⟨_, rfl⟩
  obtain ⟨n1, e1⟩ : ∃ n, wrap64 (Int.tmod (IntKind.u64.wrap (Int.tdiv v 4)) 16) = n := ⟨_, rfl⟩
  obtain ⟨n2, e2⟩ : ∃ n, wrap64 (Int.tmod (IntKind.u64.wrap (Int.tdiv v 64)) 4) = n := ⟨_, rfl⟩
  obtain ⟨n3, e3⟩ : ∃ n, wrap64 (Int.tmod (IntKind.u64.wrap (Int.tdiv v 256)) 16) = n := ⟨_, rfl⟩
  obtain ⟨n4, e4⟩ : ∃ n, wrap64 (Int.tmod (IntKind.u64.wrap (Int.tdiv v 65536)) 4294967296) = n := ⟨_, rfl⟩
  have q0 : v % 4 = n0 := by rw [← e0, t _ _ h0, w64 _ (by omega) (by omega)]
  have q1 : v / 4 % 16 = n1 := by rw [← e1, d _ _ h0, wu (v / 4) (by omega) (by omega), t _ _ (by omega), w64 _ (by omega) (by omega)]
  have q2 : v / 64 % 4 = n2 := by rw [← e2, d _ _ h0, wu (v / 64) (by omega) (by omega), t _ _ (by omega), w64 _ (by omega) (by omega)]
  have q3 : v / 256 % 16 = n3 := by rw [← e3, d _ _ h0, wu (v / 256) (by omega) (by omega), t _ _ (by omega), w64 _ (by omega) (by omega)]
  have q4 : v / 65536 % 4294967296 = n4 := by rw [← e4, d _ _ h0, wu (v / 65536) (by omega) (by omega), t _ _ (by omega), w64 _ (by omega) (by omega)]
  unfold dec at hd
  simp only [q0, q1, q2, q3, q4] at hd
  obtain ⟨W, F, hen⟩ : ∃ W F : Int, windrowref02_EncodeEntry.f 3 n0 n1 n2 n3 n4 = some (W, F) := ⟨_, _, encR 0 ..⟩
  have hwf : (isE n0 n1 n2 n3 n4 = true ∧ W = wordOf n0 n1 n2 n3 n4 ∧ F = 0) ∨ (isE n0 n1 n2 n3 n4 ≠ true ∧ F = 4) := by
    rw [encR 0] at hen
    by_cases hi : isE n0 n1 n2 n3 n4 = true
    · rw [if_pos hi] at hen
      have := Option.some.inj hen
      exact .inl ⟨hi, (congrArg Prod.fst this).symm, (congrArg Prod.snd this).symm⟩
    · rw [if_neg hi] at hen
      have := Option.some.inj hen
      exact .inr ⟨hi, (congrArg Prod.snd this).symm⟩
  have HE := Aside.mk hen
  have h9 := ((St.start w).alloc #[.int .i64 0, .int .i64 0, .int .i64 0, .int .i64 0, .int .i64 0] 75).alloc #[.int .i64 0, .int .i64 0, .int .i64 0, .int .i64 0, .int .i64 0] 75
  simp only [World.size_alloc] at h9
  have H := Aside.mk h9
  have key : (k, c, s, o, y, f) = (n0, n1, n2, n3, n4, 0) ∧ F = 0 ∧ W = v ∨ (k, c, s, o, y, f) = (0, 0, 0, 0, 0, 4) ∧ (F ≠ 0 ∨ F = 0 ∧ W ≠ v) := by
    rcases hwf with ⟨hi, rfl, rfl⟩ | ⟨hi, rfl⟩
    · by_cases hw : wordOf n0 n1 n2 n3 n4 = v
      · rw [if_pos ⟨hi, hw⟩] at hd; exact .inl ⟨hd.symm, rfl, hw⟩
      · rw [if_neg (fun h => hw h.2)] at hd; exact .inr ⟨hd.symm, .inr ⟨rfl, hw⟩⟩
    · rw [if_neg (fun h => hi h.1)] at hd; exact .inr ⟨hd.symm, .inl (by decide)⟩
  have HK := Aside.mk key
  clear h9 hen hwf hd q0 q1 q2 q3 q4 key t d h0 h1
  go_enter Tryd.func60, Tryd.ntmps60
  go_wp2_with (with_reducible refine stop_at (.store 75 (.tmp 4) (.tmp 26)) rfl ?_)
  refine ⟨?_⟩
  refine st_store rfl rfl rfl [.int .i64 n0, .int .i64 n1, .int .i64 n2, .int .i64 n3, .int .i64 n4] #[.int .i64 n0, .int .i64 n1, .int .i64 n2, .int .i64 n3, .int .i64 n4] rfl rfl rfl (Nat.le_of_ble_eq_true rfl) (by simp [Value.oneCell']) H.out rfl ?_
  intro w1 h1
  replace H := Aside.mk h1
  clear h1
  have a0 := H.out.cell 0
  have a1 := H.out.cell 1
  have a2 := H.out.cell 2
  have a3 := H.out.cell 3
  have a4 := H.out.cell 4
  rcases HK with ⟨⟨hk, hF, hW⟩ | ⟨hk, hF⟩⟩
  · obtain ⟨rfl, rfl, rfl, rfl, rfl, rfl⟩ : k = n0 ∧ c = n1 ∧ s = n2 ∧ o = n3 ∧ y = n4 ∧ f = 0 := by simpa using hk
    subst hF hW
    clear e0 e1 e2 e3 e4 hk
    go_wp2_with (first
      | (go_at_call 32; refine (windrowref02_EncodeEntry.calls _ _ _ _ _ _ _ _ _ HE.out).mono ?_; rintro e w2 ⟨rfl, hb⟩; replace H := Aside.mk (H.out.step hb); clear hb a0 a1 a2 a3 a4; have a0 := H.out.cell 0; have a1 := H.out.cell 1; have a2 := H.out.cell 2; have a3 := H.out.cell 3; have a4 := H.out.cell 4)
      | (with_reducible refine stop_at (.store 75 (.tmp 2) (.tmp 40)) rfl ?_))
    refine ⟨?_⟩
    refine st_store rfl rfl rfl [.int .i64 k, .int .i64 c, .int .i64 s, .int .i64 o, .int .i64 y] #[.int .i64 k, .int .i64 c, .int .i64 s, .int .i64 o, .int .i64 y] rfl rfl rfl (Nat.le_of_ble_eq_true rfl) (by simp [Value.oneCell']) (H.out.pick 1 rfl) rfl ?_
    intro w4 h4
    replace H := Aside.mk h4
    clear h4 a0 a1 a2 a3 a4
    go_wp2
    refine bodyPost_ret (results_ct rfl _ _ _ 75 #[.int .i64 k, .int .i64 c, .int .i64 s, .int .i64 o, .int .i64 y] (0, 0) _ rfl H.out.heap Tryd.underlying75 rfl (by kernel_rfl)) rfl ?_
    exact ⟨rfl, H.out.below⟩
  · obtain ⟨rfl, rfl, rfl, rfl, rfl, rfl⟩ : k = 0 ∧ c = 0 ∧ s = 0 ∧ o = 0 ∧ y = 0 ∧ f = 4 := by simpa using hk
    clear e0 e1 e2 e3 e4 hk
    obtain ⟨b1, b2, hb1, hb2, hbb⟩ : ∃ b1 b2 : Bool, (F != 0) = b1 ∧ (W != v) = b2 ∧ (b1 = true ∨ b1 = false ∧ b2 = true) := ⟨_, _, rfl, rfl, by rcases hF with h | ⟨h, h2⟩; exact .inl (by simpa using h); exact .inr ⟨by simp [h], by simpa using h2⟩⟩
    rcases hbb with rfl | ⟨rfl, rfl⟩
    all_goals
      go_wp2_with (first
        | (go_at_call 32; refine (windrowref02_EncodeEntry.calls _ _ _ _ _ _ _ _ _ HE.out).mono ?_; rintro e w2 ⟨rfl, hb⟩; replace H := Aside.mk (H.out.step hb); clear hb a0 a1 a2 a3 a4)
        | (with_reducible refine stop_at (.store 75 (.tmp 2) (.tmp 39)) rfl ?_))
      refine ⟨?_⟩
      refine st_store rfl rfl rfl [.int .i64 0, .int .i64 0, .int .i64 0, .int .i64 0, .int .i64 0] #[.int .i64 0, .int .i64 0, .int .i64 0, .int .i64 0, .int .i64 0] rfl rfl rfl (Nat.le_of_ble_eq_true rfl) (by simp [Value.oneCell']) (H.out.pick 1 rfl) rfl ?_
      intro w4 h4
      replace H := Aside.mk h4
      clear h4
      go_wp2
      refine bodyPost_ret (results_ct rfl _ _ _ 75 #[.int .i64 0, .int .i64 0, .int .i64 0, .int .i64 0, .int .i64 0] (0, 0) _ rfl H.out.heap Tryd.underlying75 rfl (by kernel_rfl)) rfl ?_
      exact ⟨rfl, H.out.below⟩
end Go.Proofs.YtelfiegocdjnoaaDoor.Ar
