/- A word is read as an entry: a short contract. Condition: the word is a word. -/
import Derived.Test.YtelfiegocdjnoaaDoorHe
import Derived.Test.YtelfiegocdjnoaaDoorPg3
import Derived.Test.YtelfiegocdjnoaaDoorMrF0
namespace Go.Proofs.YtelfiegocdjnoaaDoor.Ar
open Go Go.RowKit Go.Proofs.YtelfiegocdjnoaaDoor.Sep Go.Proofs.YtelfiegocdjnoaaDoor.Pg Go.Proofs.YtelfiegocdjnoaaDoorW.PrintWords Go.Proofs.YtelfiegocdjnoaaDoorW.PrintLast Go.Proofs.YtelfiegocdjnoaaDoorW.PrintMore Go.Proofs.YtelfiegocdjnoaaDoor.Q
set_option linter.unusedVariables false
set_option linter.unusedSimpArgs false
set_option maxHeartbeats 8000000
set_option maxRecDepth 100000
def he.T2 : Bool × List (List Nat × List Nat) := (true, [([], []), ([0], [0]), ([1], [1]), ([2], [2]), ([], []), ([4], [4]), ([5], [5]), ([6], [6]), ([], []), ([8], [8]), ([9], [9]), ([10], [10]), ([], []), ([12], [12]), ([13], [13]), ([14], [14]), ([], []), ([16], [16]), ([17], [17]), ([18], [18]), ([3, 7, 11, 15, 19], [3, 7, 11, 15, 19]), ([], []), ([21, 20, 0, 1, 2, 3, 4, 5, 6, 7, 8, 9, 10, 11, 12, 13, 14, 15, 16, 17, 18, 19, 20, 21], [20, 21])])
def he.B2 : List Nat := [0, 1, 3, 7, 0, 16, 48, 112, 0, 256, 768, 1792, 0, 4096, 12288, 28672, 0, 65536, 196608, 458752, 1048575, 0, 4194303]
theorem he.tab2 : rtab .any (opsOf Tryd.f86 2) = he.T2 := by kernel_rfl
theorem he.bits2 : waitsOk he.T2.2 he.B2 = true := by kernel_rfl
theorem ints_new (w : World) (l : List Int) (t : TypeId) (hl : l.length ≤ 1000) : Kd.C (Kd.int .i64) (w.alloc (.cells (l.map (Value.int .i64)).toArray t (0, 0))) (some ⟨w.heap.size, 0, none⟩) l.length l := by
  refine ⟨rfl, by omega, fun _ => ⟨_, rfl, fun j p hj => ⟨[.int .i64 p], rfl, rfl, ?_⟩⟩⟩
  intro i u hu
  have hi : i = 0 := by
    have := (List.getElem?_eq_some_iff.1 hu).1
    simpa using this
  subst hi
  have hu2 : Value.int .i64 p = u := by simpa using hu
  have ha : (⟨w.heap.size, 0, none⟩ : Addr).add (j * (Kd.int .i64).sz + 0) = ⟨w.heap.size, j, none⟩ := by rw [add_plain]; congr 1; show j * 1 + 0 = j; omega
  rw [ha]
  simp only [World.cell?, heap_new]
  rw [← hu2]
  simp [hj]
theorem dec_c (v : Nat) (hv : v < 18446744073709551616) {k c s o y f : Int} (hd : dec v = (k, c, s, o, y, f)) (w : World) :
    Calls Tryd.prog 86 #[.int .u64 v] w fun e w' => e = .returned (.tuple #[.agg #[.int .i64 k, .int .i64 c, .int .i64 s, .int .i64 o, .int .i64 y], .int .i64 f]) ∧ Below w.heap.size w w' := by
  have hu := unpack_ 0 v hv
  have hdd := hd
  unfold dec at hd
  simp only at hd
  obtain ⟨n0, e0⟩ : ∃ n : Int, n = ((v % 4 : Nat) : Int) := ⟨_, rfl⟩
  obtain ⟨n1, e1⟩ : ∃ n : Int, n = ((v / 4 % 16 : Nat) : Int) := ⟨_, rfl⟩
  obtain ⟨n2, e2⟩ : ∃ n : Int, n = ((v / 64 % 4 : Nat) : Int) := ⟨_, rfl⟩
  obtain ⟨n3, e3⟩ : ∃ n : Int, n = ((v / 256 % 16 : Nat) : Int) := ⟨_, rfl⟩
  obtain ⟨n5, e5⟩ : ∃ n : Int, n = ((v / 65536 % 4294967296 : Nat) : Int) := ⟨_, rfl⟩
  generalize ((v / 4096 % 16 : Nat) : Int) = n4 at hu
  rw [← e0, ← e1, ← e2, ← e3, ← e5] at hu
  have g0 : (v : Int) % 4 = n0 := by rw [e0]; omega
  have g1 : (v : Int) / 4 % 16 = n1 := by rw [e1]; omega
  have g2 : (v : Int) / 64 % 4 = n2 := by rw [e2]; omega
  have g3 : (v : Int) / 256 % 16 = n3 := by rw [e3]; omega
  have g5 : (v : Int) / 65536 % 4294967296 = n5 := by rw [e5]; omega
  rw [g0, g1, g2, g3, g5] at hd
  have HW0 := Aside.mk (show wrap64 n0 = n0 from w64 _ (by omega) (by omega))
  have HW1 := Aside.mk (show wrap64 n1 = n1 from w64 _ (by omega) (by omega))
  have HW2 := Aside.mk (show wrap64 n2 = n2 from w64 _ (by omega) (by omega))
  have HW3 := Aside.mk (show wrap64 n3 = n3 from w64 _ (by omega) (by omega))
  have HW5 := Aside.mk (show wrap64 n5 = n5 from w64 _ (by omega) (by omega))
  have HU := Aside.mk hu
  have HEN := Aside.mk (encH 0 n0 n1 n2 n3 n5)
  have HD := Aside.mk hd
  have HC : Aside (Kd.C (Kd.int .i64) _ _ _ _) := ⟨ints_new (w.alloc (.cells #[.int .i64 0, .int .i64 0, .int .i64 0, .int .i64 0, .int .i64 0] 168 (0, 0))) [2, 4, 2, 4, 4, 32] 3 (by decide)⟩
  have H := Aside.mk ((St.start w).alloc #[.int .i64 0, .int .i64 0, .int .i64 0, .int .i64 0, .int .i64 0] 168)
  have hsz : (w.alloc (.cells #[.int .i64 0, .int .i64 0, .int .i64 0, .int .i64 0, .int .i64 0] 168 (0, 0))).heap.size = w.heap.size + 1 := by simp
  rw [hsz] at HC
  have HS := Aside.mk (H.out.garbage (.cells #[.int .i64 2, .int .i64 4, .int .i64 2, .int .i64 4, .int .i64 4, .int .i64 32] 3 (0, 0)))
  clear e0 e1 e2 e3 e5 g0 g1 g2 g3 g5 hd hdd hu hsz
  go_enter Tryd.func86, Tryd.ntmps86
  go_wp2_with (go_at_call 144; refine (word_Unpack.calls (0 + 7) v (some ⟨w.heap.size + 1, 0, none⟩) 6 [2, 4, 2, 4, 4, 32] _ _ _ HC.out (by decide) HU.out).mono ?_; rintro e w2 ⟨v0, rfl, hR, hb⟩; obtain ⟨A1, c1, rfl, _, hC⟩ := Kd.R_reads hR; replace H := Aside.mk (HS.out.step hb); clear hb hR HS HC)
  have hz : ∀ i : Nat, i < 6 → ∃ ad, A1 = some ad ∧ w2.cell? (ad.add i) = some (.int .u64 (rd [n0, n1, n2, n3, n4, n5] i)) := fun i hi => Kd.at_int hC i (by omega) (by exact_mod_cast hi)
  obtain ⟨ad, rfl, z0⟩ := hz 0 (by decide)
  have z1 : w2.cell? (ad.add 1) = some (.int .u64 n1) := by obtain ⟨_, h1, h2⟩ := hz 1 (by decide); cases h1; exact h2
  have z2 : w2.cell? (ad.add 2) = some (.int .u64 n2) := by obtain ⟨_, h1, h2⟩ := hz 2 (by decide); cases h1; exact h2
  have z3 : w2.cell? (ad.add 3) = some (.int .u64 n3) := by obtain ⟨_, h1, h2⟩ := hz 3 (by decide); cases h1; exact h2
  have z5 : w2.cell? (ad.add 5) = some (.int .u64 n5) := by obtain ⟨_, h1, h2⟩ := hz 5 (by decide); cases h1; exact h2
  replace z0 : w2.cell? (ad.add 0) = some (.int .u64 n0) := z0
  rw [show ad.add 0 = ad by simp [Addr.add]] at z0
  rw [show ad.add 1 = ⟨ad.block, ad.off + 1, none⟩ by simp [Addr.add]] at z1
  rw [show ad.add 2 = ⟨ad.block, ad.off + 2, none⟩ by simp [Addr.add]] at z2
  rw [show ad.add 3 = ⟨ad.block, ad.off + 3, none⟩ by simp [Addr.add]] at z3
  rw [show ad.add 5 = ⟨ad.block, ad.off + 5, none⟩ by simp [Addr.add]] at z5
  clear hz hC
  have H2 := Aside.mk (St.start w2).drew
  replace H := Aside.mk H.out.drew
  refine start_ (n := 23) (S := fun w' => w'.cell? ad = some (.int .u64 n0) ∧ w'.cell? ⟨ad.block, ad.off + 1, none⟩ = some (.int .u64 n1) ∧ w'.cell? ⟨ad.block, ad.off + 2, none⟩ = some (.int .u64 n2) ∧ w'.cell? ⟨ad.block, ad.off + 3, none⟩ = some (.int .u64 n3) ∧ w'.cell? ⟨ad.block, ad.off + 5, none⟩ = some (.int .u64 n5)) (ds := []) (flg 23 0) (by kernel_rfl) rfl rfl (⟨(pw_cell_below H2.out.below z0), (pw_cell_below H2.out.below z1), (pw_cell_below H2.out.below z2), (pw_cell_below H2.out.below z3), (pw_cell_below H2.out.below z5)⟩) (fun hHeld => ?_)
  refine with_tabW he.tab2 he.bits2 (fun HT_ HW_ => ?_)
  refine pu_ (v := ?_) (a' := ?_) 0 (some 15) 1 rfl rfl HT_ (by kernel_rfl) (.inl ⟨by rfl, ?_⟩) ?_ ?_; rotate_left 2; (· intro w'; go_simp; with_reducible rfl); (· simp only [nrm]; rfl)
  refine pu_ (v := ?_) (a' := ?_) 1 (some 16) 3 rfl rfl HT_ (by kernel_rfl) (.inl ⟨by rfl, ?_⟩) ?_ ?_; rotate_left 2; (· intro w'; go_simp; with_reducible rfl); (· simp only [nrm]; rfl)
  refine tk_ (v := ?_) (a' := ?_) 2 (some 17) 7 rfl rfl HT_ HW_ (by kernel_rfl) (.inl ⟨by rfl, ?_⟩) hHeld ?_ ?_; rotate_left 2; (· rintro w' ⟨_, _, _, _, _⟩; go_simp; with_reducible rfl); (· simp only [nrm]; rfl)
  refine pu_ (v := ?_) (a' := ?_) 3 (some 18) 15 rfl rfl HT_ (by kernel_rfl) (.inl ⟨by rfl, ?_⟩) ?_ ?_; rotate_left 2; (· intro w'; go_simp; with_reducible rfl); (· simp only [nrm]; rfl)
  refine pu_ (v := ?_) (a' := ?_) 4 (some 19) 31 rfl rfl HT_ (by kernel_rfl) (.inl ⟨by rfl, ?_⟩) ?_ ?_; rotate_left 2; (· intro w'; go_simp; with_reducible rfl); (· simp only [nrm]; rfl)
  refine pu_ (v := ?_) (a' := ?_) 5 (some 20) 63 rfl rfl HT_ (by kernel_rfl) (.inl ⟨by rfl, ?_⟩) ?_ ?_; rotate_left 2; (· intro w'; go_simp; with_reducible rfl); (· simp only [nrm]; rfl)
  refine tk_ (v := ?_) (a' := ?_) 6 (some 21) 127 rfl rfl HT_ HW_ (by kernel_rfl) (.inl ⟨by rfl, ?_⟩) hHeld ?_ ?_; rotate_left 2; (· rintro w' ⟨_, _, _, _, _⟩; go_simp; with_reducible rfl); (· simp only [nrm]; rfl)
  refine pu_ (v := ?_) (a' := ?_) 7 (some 22) 255 rfl rfl HT_ (by kernel_rfl) (.inl ⟨by rfl, ?_⟩) ?_ ?_; rotate_left 2; (· intro w'; go_simp; with_reducible rfl); (· simp only [nrm]; rfl)
  refine pu_ (v := ?_) (a' := ?_) 8 (some 23) 511 rfl rfl HT_ (by kernel_rfl) (.inl ⟨by rfl, ?_⟩) ?_ ?_; rotate_left 2; (· intro w'; go_simp; with_reducible rfl); (· simp only [nrm]; rfl)
  refine pu_ (v := ?_) (a' := ?_) 9 (some 24) 1023 rfl rfl HT_ (by kernel_rfl) (.inl ⟨by rfl, ?_⟩) ?_ ?_; rotate_left 2; (· intro w'; go_simp; with_reducible rfl); (· simp only [nrm]; rfl)
  refine tk_ (v := ?_) (a' := ?_) 10 (some 25) 2047 rfl rfl HT_ HW_ (by kernel_rfl) (.inl ⟨by rfl, ?_⟩) hHeld ?_ ?_; rotate_left 2; (· rintro w' ⟨_, _, _, _, _⟩; go_simp; with_reducible rfl); (· simp only [nrm]; rfl)
  refine pu_ (v := ?_) (a' := ?_) 11 (some 26) 4095 rfl rfl HT_ (by kernel_rfl) (.inl ⟨by rfl, ?_⟩) ?_ ?_; rotate_left 2; (· intro w'; go_simp; with_reducible rfl); (· simp only [nrm]; rfl)
  refine pu_ (v := ?_) (a' := ?_) 12 (some 27) 8191 rfl rfl HT_ (by kernel_rfl) (.inl ⟨by rfl, ?_⟩) ?_ ?_; rotate_left 2; (· intro w'; go_simp; with_reducible rfl); (· simp only [nrm]; rfl)
  refine pu_ (v := ?_) (a' := ?_) 13 (some 28) 16383 rfl rfl HT_ (by kernel_rfl) (.inl ⟨by rfl, ?_⟩) ?_ ?_; rotate_left 2; (· intro w'; go_simp; with_reducible rfl); (· simp only [nrm]; rfl)
  refine tk_ (v := ?_) (a' := ?_) 14 (some 29) 32767 rfl rfl HT_ HW_ (by kernel_rfl) (.inl ⟨by rfl, ?_⟩) hHeld ?_ ?_; rotate_left 2; (· rintro w' ⟨_, _, _, _, _⟩; go_simp; with_reducible rfl); (· simp only [nrm]; rfl)
  refine pu_ (v := ?_) (a' := ?_) 15 (some 30) 65535 rfl rfl HT_ (by kernel_rfl) (.inl ⟨by rfl, ?_⟩) ?_ ?_; rotate_left 2; (· intro w'; go_simp; with_reducible rfl); (· simp only [nrm]; rfl)
  refine pu_ (v := ?_) (a' := ?_) 16 (some 31) 131071 rfl rfl HT_ (by kernel_rfl) (.inl ⟨by rfl, ?_⟩) ?_ ?_; rotate_left 2; (· intro w'; go_simp; with_reducible rfl); (· simp only [nrm]; rfl)
  refine pu_ (v := ?_) (a' := ?_) 17 (some 32) 262143 rfl rfl HT_ (by kernel_rfl) (.inl ⟨by rfl, ?_⟩) ?_ ?_; rotate_left 2; (· intro w'; go_simp; with_reducible rfl); (· simp only [nrm]; rfl)
  refine tk_ (v := ?_) (a' := ?_) 18 (some 33) 524287 rfl rfl HT_ HW_ (by kernel_rfl) (.inl ⟨by rfl, ?_⟩) hHeld ?_ ?_; rotate_left 2; (· rintro w' ⟨_, _, _, _, _⟩; go_simp; with_reducible rfl); (· simp only [nrm]; rfl)
  refine pu_ (v := ?_) (a' := ?_) 19 (some 34) 1048575 rfl rfl HT_ (by kernel_rfl) (.inl ⟨by rfl, ?_⟩) ?_ ?_; rotate_left 2; (· intro w'; go_simp; with_reducible rfl); (· simp only [nrm]; rfl)
  refine pu_ (v := ?_) (a' := ?_) 20 (some 35) 2097151 rfl rfl HT_ (by kernel_rfl) (.inl ⟨by rfl, ?_⟩) ?_ ?_; rotate_left 2; (· intro w'; go_simp; with_reducible rfl); (· simp only [nrm]; rfl)
  refine on_ 21 (some 6) 4194303 rfl rfl HT_ (by kernel_rfl) (by decide) (fun K hK => ?_)
  refine value_ (w1 := ?_) (v := ?_) (by rfl) rfl ?_ ?_
  rotate_left 2
  · go_simp
    constructor
    · rfl
    · rfl
  replace H := Aside.mk (H.out.alloc #[.int .i64 0, .int .i64 0, .int .i64 0, .int .i64 0, .int .i64 0] 168)
  replace H2 := Aside.mk (H2.out.alloc #[.int .i64 0, .int .i64 0, .int .i64 0, .int .i64 0, .int .i64 0] 168)
  replace H : Aside (St w (World.drew (World.alloc w2 (.cells #[.int .i64 0, .int .i64 0, .int .i64 0, .int .i64 0, .int .i64 0] 168 (0, 0)))) (blk w2.heap.size #[.int .i64 0, .int .i64 0, .int .i64 0, .int .i64 0, .int .i64 0] 168 :: [blk w.heap.size #[.int .i64 0, .int .i64 0, .int .i64 0, .int .i64 0, .int .i64 0] 168])) := H
  replace H2 : Aside (St w2 (World.drew (World.alloc w2 (.cells #[.int .i64 0, .int .i64 0, .int .i64 0, .int .i64 0, .int .i64 0] 168 (0, 0)))) [blk w2.heap.size #[.int .i64 0, .int .i64 0, .int .i64 0, .int .i64 0, .int .i64 0] 168]) := H2
  generalize World.drew _ = w4 at H H2 ⊢
  refine hK.out _ _ ⟨(pw_cell_below H2.out.below z0), (pw_cell_below H2.out.below z1), (pw_cell_below H2.out.below z2), (pw_cell_below H2.out.below z3), (pw_cell_below H2.out.below z5)⟩ (fun hHeld => ?_)
  clear hK K
  refine norm_ (a' := ?_) ?_ ?_
  rotate_left
  · show Act.put _ (some 6) _ = _
    simp only [nrm]
    rfl
  refine on_ 22 (none) 8388607 rfl rfl HT_ (by kernel_rfl) (by decide) (fun K hK => ?_)
  refine skip_ (by rfl) rfl (st_run_store (seg := [.int .i64 (wrap64 n0), .int .i64 (wrap64 n1), .int .i64 (wrap64 n2), .int .i64 (wrap64 n3), .int .i64 (wrap64 n5)]) rfl rfl rfl rfl (Nat.le_of_ble_eq_true rfl) (by simp [Value.oneCell']) H.out) ?_
  have h8 := H.out.setCells 0 [.int .i64 (wrap64 n0), .int .i64 (wrap64 n1), .int .i64 (wrap64 n2), .int .i64 (wrap64 n3), .int .i64 (wrap64 n5)] (Nat.le_of_ble_eq_true rfl)
  have h9 := H2.out.setCells 0 [.int .i64 (wrap64 n0), .int .i64 (wrap64 n1), .int .i64 (wrap64 n2), .int .i64 (wrap64 n3), .int .i64 (wrap64 n5)] (Nat.le_of_ble_eq_true rfl)
  generalize World.setCells _ _ _ _ = w5 at h8 h9 ⊢
  replace H2 := Aside.mk h9
  clear h9
  rw [HW0.out, HW1.out, HW2.out, HW3.out, HW5.out] at h8
  replace H : Aside (St w w5 (blk w2.heap.size #[.int .i64 n0, .int .i64 n1, .int .i64 n2, .int .i64 n3, .int .i64 n5] 168 :: [blk w.heap.size #[.int .i64 0, .int .i64 0, .int .i64 0, .int .i64 0, .int .i64 0] 168])) := Aside.mk h8
  clear h8
  refine hK.out _ _ ⟨(pw_cell_below H2.out.below z0), (pw_cell_below H2.out.below z1), (pw_cell_below H2.out.below z2), (pw_cell_below H2.out.below z3), (pw_cell_below H2.out.below z5)⟩ (fun hHeld => ?_)
  clear hK K
  refine done_ (done_of HT_.out (by kernel_rfl)) ?_
  clear HT_ HW_ hHeld
  clear z0 z1 z2 z3 z5 H2
  by_cases hi : isE n0 n1 n2 n3 n5 = true
  · by_cases hq : wordOf n0 n1 n2 n3 n5 = v
    · have hen := HEN.out
      rw [if_pos hi, hq] at hen
      have HEN2 := Aside.mk hen
      have HQ := Aside.mk hq
      have HI := Aside.mk hi
      clear hen HEN hi hq
      have y0 := H.out.cell 0
      have y1 := H.out.cell 1
      have y2 := H.out.cell 2
      have y3 := H.out.cell 3
      have y4 := H.out.cell 4
      go_wp2_with (first
        | (go_at_call 145; refine (header_EncodeEntry.calls (0 + 7) n0 n1 n2 n3 n5 _ _ _ HEN2.out).mono ?_; rintro e w6 ⟨rfl, hb⟩; replace H := Aside.mk (H.out.step hb); clear hb y0 y1 y2 y3 y4; have y0 := H.out.cell 0; have y1 := H.out.cell 1; have y2 := H.out.cell 2; have y3 := H.out.cell 3; have y4 := H.out.cell 4)
        | (with_reducible refine stop_at (.store 168 (.tmp 2) (.tmp 49)) rfl ?_))
      refine ⟨?_⟩
      refine st_store rfl rfl rfl [.int .i64 n0, .int .i64 n1, .int .i64 n2, .int .i64 n3, .int .i64 n5] #[.int .i64 n0, .int .i64 n1, .int .i64 n2, .int .i64 n3, .int .i64 n5] rfl rfl rfl (Nat.le_of_ble_eq_true rfl) (by simp [Value.oneCell']) (H.out.pick 1 rfl) rfl ?_
      intro w7 h7
      replace H := Aside.mk h7
      clear h7 y0 y1 y2 y3 y4
      go_wp2
      refine bodyPost_ret (results_ct rfl _ _ _ 168 #[.int .i64 n0, .int .i64 n1, .int .i64 n2, .int .i64 n3, .int .i64 n5] (0, 0) _ rfl H.out.heap Tryd.underlying168 rfl (by kernel_rfl)) rfl ?_
      have hd := HD.out
      rw [if_pos ⟨HI.out, HQ.out⟩] at hd
      simp only [Prod.mk.injEq] at hd
      obtain ⟨rfl, rfl, rfl, rfl, rfl, rfl⟩ := hd
      exact ⟨rfl, H.out.below⟩
    · have hen := HEN.out
      rw [if_pos hi] at hen
      have HQ := Aside.mk hq
      have hqb : (wordOf n0 n1 n2 n3 n5 != (v : Int)) = true := by simpa using hq
      generalize wordOf n0 n1 n2 n3 n5 = wo at hen hqb
      have HEN2 := Aside.mk hen
      clear hen HEN hi hq
      have y0 := H.out.cell 0
      have y1 := H.out.cell 1
      have y2 := H.out.cell 2
      have y3 := H.out.cell 3
      have y4 := H.out.cell 4
      go_wp2_with (first
        | (go_at_call 145; refine (header_EncodeEntry.calls (0 + 7) n0 n1 n2 n3 n5 _ _ _ HEN2.out).mono ?_; rintro e w6 ⟨rfl, hb⟩; replace H := Aside.mk (H.out.step hb); clear hb y0 y1 y2 y3 y4; have y0 := H.out.cell 0; have y1 := H.out.cell 1; have y2 := H.out.cell 2; have y3 := H.out.cell 3; have y4 := H.out.cell 4)
        | (with_reducible refine stop_at (.store 168 (.tmp 2) (.tmp 48)) rfl ?_))
      refine ⟨?_⟩
      refine st_store rfl rfl rfl [.int .i64 0, .int .i64 0, .int .i64 0, .int .i64 0, .int .i64 0] #[.int .i64 0, .int .i64 0, .int .i64 0, .int .i64 0, .int .i64 0] rfl rfl rfl (Nat.le_of_ble_eq_true rfl) (by simp [Value.oneCell']) (H.out.pick 1 rfl) rfl ?_
      intro w7 h7
      replace H := Aside.mk h7
      clear h7 y0 y1 y2 y3 y4
      go_wp2
      refine bodyPost_ret (results_ct rfl _ _ _ 168 #[.int .i64 0, .int .i64 0, .int .i64 0, .int .i64 0, .int .i64 0] (0, 0) _ rfl H.out.heap Tryd.underlying168 rfl (by kernel_rfl)) rfl ?_
      have hd := HD.out
      rw [if_neg (fun h => HQ.out h.2)] at hd
      simp only [Prod.mk.injEq] at hd
      obtain ⟨rfl, rfl, rfl, rfl, rfl, rfl⟩ := hd
      exact ⟨rfl, H.out.below⟩
  · have hen := HEN.out
    rw [if_neg hi] at hen
    have HEN2 := Aside.mk hen
    have HI := Aside.mk hi
    clear hen HEN hi
    have y0 := H.out.cell 0
    have y1 := H.out.cell 1
    have y2 := H.out.cell 2
    have y3 := H.out.cell 3
    have y4 := H.out.cell 4
    go_wp2_with (first
      | (go_at_call 145; refine (header_EncodeEntry.calls (0 + 7) n0 n1 n2 n3 n5 _ _ _ HEN2.out).mono ?_; rintro e w6 ⟨rfl, hb⟩; replace H := Aside.mk (H.out.step hb); clear hb y0 y1 y2 y3 y4; have y0 := H.out.cell 0; have y1 := H.out.cell 1; have y2 := H.out.cell 2; have y3 := H.out.cell 3; have y4 := H.out.cell 4)
      | (with_reducible refine stop_at (.store 168 (.tmp 2) (.tmp 48)) rfl ?_))
    refine ⟨?_⟩
    refine st_store rfl rfl rfl [.int .i64 0, .int .i64 0, .int .i64 0, .int .i64 0, .int .i64 0] #[.int .i64 0, .int .i64 0, .int .i64 0, .int .i64 0, .int .i64 0] rfl rfl rfl (Nat.le_of_ble_eq_true rfl) (by simp [Value.oneCell']) (H.out.pick 1 rfl) rfl ?_
    intro w7 h7
    replace H := Aside.mk h7
    clear h7 y0 y1 y2 y3 y4
    go_wp2
    refine bodyPost_ret (results_ct rfl _ _ _ 168 #[.int .i64 0, .int .i64 0, .int .i64 0, .int .i64 0, .int .i64 0] (0, 0) _ rfl H.out.heap Tryd.underlying168 rfl (by kernel_rfl)) rfl ?_
    have hd := HD.out
    rw [if_neg (fun h => HI.out h.1)] at hd
    simp only [Prod.mk.injEq] at hd
    obtain ⟨rfl, rfl, rfl, rfl, rfl, rfl⟩ := hd
    exact ⟨rfl, H.out.below⟩
theorem dec_ci {v : Int} (h0 : 0 ≤ v) (h1 : v < 18446744073709551616) {k c s o y f : Int} (hd : dec v = (k, c, s, o, y, f)) (w : World) :
    Calls Tryd.prog 86 #[.int .u64 v] w fun e w' => e = .returned (.tuple #[.agg #[.int .i64 k, .int .i64 c, .int .i64 s, .int .i64 o, .int .i64 y], .int .i64 f]) ∧ Below w.heap.size w w' := by
  obtain ⟨n, rfl⟩ := Int.eq_ofNat_of_zero_le h0
  exact dec_c n (Int.ofNat_lt.1 h1) hd w
end Go.Proofs.YtelfiegocdjnoaaDoor.Ar
