/- A word's header, in a closed form, for the code and the document: plain. Conditions: a word of 64 bits. -/
import Derived.Test.YtelfiegocdjnoaaDoorMgA
import Derived.Test.YtelfiegocdjnoaaDoorPg3
import Derived.Test.YtelfiegocdjnoaaDoorMrF0
import Derived.Test.YtelfiegocdjnoaaDoorMrF1
import Derived.Test.YtelfiegocdjnoaaDoorMgJ
namespace Go.Proofs.YtelfiegocdjnoaaDoor.Ar
set_option linter.unusedVariables false
set_option linter.unusedSimpArgs false
set_option maxHeartbeats 8000000
set_option maxRecDepth 100000
section
open Go Go.RowKit Go.Proofs.YtelfiegocdjnoaaDoor.Sep Go.Proofs.YtelfiegocdjnoaaDoor.Pg Go.Proofs.YtelfiegocdjnoaaDoorW.PrintWords Go.Proofs.YtelfiegocdjnoaaDoorW.PrintLast Go.Proofs.YtelfiegocdjnoaaDoorW.PrintMore Go.Proofs.YtelfiegocdjnoaaDoor.Q
/-- The header (c, k, n), and 0, if it has this word; or none, and 4. -/
def hdOf (c k n w : Int) : Int × Int × Int × Int := if isH c k n = true ∧ hdW c k n = w then (c, k, n, 0) else (0, 0, 0, 4)
def decH (w : Int) : Int × Int × Int × Int := hdOf (w / 256 % 256) (w % 256) (w / 65536 % 256) w
theorem dech0 {c k n : Int} (w x : Int) {o : Option (Int × Int)} (hx : hdW c k n = x) (h : o = some (if isH c k n = true then (x, 0) else (0, 4))) :
    (o.bind fun bt => (if bt.2 = 0 then (if bt.1 = w then (some (c, k, n, (0 : Int))) else (some (0, 0, 0, 4))) else (some (0, 0, 0, 4)))) = some (hdOf c k n w) := by
  rw [h]
  unfold hdOf
  rw [hx]
  by_cases h1 : isH c k n = true
  · rw [if_pos h1]
    simp only [Option.bind_some, h1, true_and, if_true]
    by_cases h2 : x = w
    · rw [if_pos h2, if_pos h2]
    · rw [if_neg h2, if_neg h2]
  · rw [if_neg h1, if_neg (fun q => h1 q.1)]
    rfl
theorem enc_x (c k n : Int) : ∃ x, hdW c k n = x ∧ header_EncodeHead.f 2 c k n = some (if isH c k n = true then (x, 0) else (0, 4)) := ⟨_, rfl, enc_c c k n⟩
theorem renc_x (c k n : Int) : ∃ x, hdW c k n = x ∧ windrowref02_EncodeHead.f 20 c k n = some (if isH c k n = true then (x, 0) else (0, 4)) := ⟨_, rfl, renc_c c k n⟩
theorem w8 (x : Int) (h0 : 0 ≤ x) (h : x < 256) : wrap64 x = x := by unfold wrap64; omega
theorem gg (w sh : Nat) (hw : w < 18446744073709551616) (h : sh + 8 ≤ 64) : word_Get.f (w : Int) (sh : Int) 8 = some ((((w / 2 ^ sh) % 2 ^ 8 : Nat) : Int), 0) := get_ w sh 8 hw (by decide) (by decide) h
theorem p0 (n : Nat) : n / 2 ^ 0 % 2 ^ 8 = n % 256 := by rw [show (2 : Nat) ^ 0 = 1 from rfl, show (2 : Nat) ^ 8 = 256 from rfl, Nat.div_one]
theorem p1 (n : Nat) : n / 2 ^ 8 % 2 ^ 8 = n / 256 % 256 := by rw [show (2 : Nat) ^ 8 = 256 from rfl]
theorem p2 (n : Nat) : n / 2 ^ 16 % 2 ^ 8 = n / 65536 % 256 := by rw [show (2 : Nat) ^ 16 = 65536 from rfl, show (2 : Nat) ^ 8 = 256 from rfl]
theorem gt0 (n : Nat) (hw : n < 18446744073709551616) : word_Get.f (n : Int) 0 8 = some ((n : Int) % 256, 0) := by
  have g := gg n 0 hw (by decide)
  rw [p0] at g
  exact g
theorem gt1 (n : Nat) (hw : n < 18446744073709551616) : word_Get.f (n : Int) 8 8 = some ((n : Int) / 256 % 256, 0) := by
  have g := gg n 8 hw (by decide)
  rw [p1] at g
  exact g
theorem gt2 (n : Nat) (hw : n < 18446744073709551616) : word_Get.f (n : Int) 16 8 = some ((n : Int) / 65536 % 256, 0) := by
  have g := gg n 16 hw (by decide)
  rw [p2] at g
  exact g
theorem rdech_c (w : Int) (h0 : 0 ≤ w) (h1 : w < 18446744073709551616) : windrowref02_DecodeHead.f 20 w = some (decH w) := by
  have t : ∀ a b : Int, 0 ≤ a → Int.tmod a b = a % b := fun a b h => Int.tmod_eq_emod_of_nonneg h
  have d : ∀ a b : Int, 0 ≤ a → Int.tdiv a b = a / b := fun a b h => Int.tdiv_eq_ediv_of_nonneg h
  unfold windrowref02_DecodeHead.f decH
  rw [d _ 256 h0, d _ 65536 h0, wu (w / 256) (by omega) (by omega), wu (w / 65536) (by omega) (by omega), t _ 256 h0, t (w / 256) _ (by omega), t (w / 65536) _ (by omega),
    w8 (w % 256) (by omega) (by omega), w8 (w / 256 % 256) (by omega) (by omega), w8 (w / 65536 % 256) (by omega) (by omega)]
  generalize w % 256 = k
  generalize w / 256 % 256 = c
  generalize w / 65536 % 256 = m
  obtain ⟨x, hx, he⟩ := renc_x c k m
  exact dech0 _ x hx he
theorem decH_ok {w : Int} (h : (decH w).2.2.2 = 0) : isH (decH w).1 (decH w).2.1 (decH w).2.2.1 = true := by
  unfold decH at h ⊢
  generalize w / 256 % 256 = c at h ⊢
  generalize w % 256 = k at h ⊢
  generalize w / 65536 % 256 = m at h ⊢
  unfold hdOf at h ⊢
  by_cases h2 : isH c k m = true ∧ hdW c k m = w
  · rw [if_pos h2]; exact h2.1
  · rw [if_neg h2] at h; cases h
end
section
open Go Go.RowKit Go.Proofs.YtelfiegocdjnoaaDoor.Sep Go.Proofs.YtelfiegocdjnoaaDoorW.PrintWords Go.Proofs.YtelfiegocdjnoaaDoorW.PrintLast Go.Proofs.YtelfiegocdjnoaaDoorW.PrintMore Go.Proofs.YtelfiegocdjnoaaDoor.Q
/-- A class in a table: its name; where its fields lie, how many, the row's capacity. -/
structure Cl where (nm : ByteArray) (ad : Option Addr) (n cap : Nat)
def Cl.vs (e : Cl) : List Value := [.string e.nm, .slice e.ad e.n e.cap]
abbrev tbX (E : List Cl) : List Value := E.flatMap Cl.vs
abbrev tbR (vL : Value) (E : List Cl) : HP := row 161 2 vL E.length (tbX E)
abbrev tbB (t : Nat) (vL vM : Value) : HP := blk t #[vL, vM] 157
def zCl : Cl := ⟨⟨#[]⟩, none, 0, 0⟩
theorem tbX_get (E : List Cl) : ∀ (j i : Nat), j < E.length → i < 2 → (tbX E)[j * 2 + i]? = (Cl.vs (E.getD j zCl))[i]? := by
  induction E with
  | nil => intro j i hj; simp at hj
  | cons x L ih =>
    intro j i hj hi
    have e : tbX (x :: L) = Cl.vs x ++ tbX L := by simp [tbX]
    rw [e]
    cases j with
    | zero => rw [Nat.zero_mul, Nat.zero_add, List.getElem?_append_left (by simp [Cl.vs]; omega)]; rfl
    | succ j =>
      rw [List.getElem?_append_right (by simp [Cl.vs]; omega)]
      have e2 : (j + 1) * 2 + i - (Cl.vs x).length = j * 2 + i := by simp [Cl.vs]; omega
      rw [e2, ih j i (by simpa using hj) hi]
      simp
/-- Can an object with this header be, where the classes have so many fields? -/
def fitT (ns : List Nat) (c k n : Int) : Bool := isH c k n && (decide (k ≠ 1) || (decide (c < (ns.length : Int)) && decide (n = ((ns.getD c.toNat 0 : Nat) : Int))))
variable {w0 w : World} {F : List HP} {t : Nat} {vL vM : Value} {E : List Cl}
theorem known_t {c : Int} (h : St w0 w (tbB t vL vM :: tbR vL E :: F)) : Calls Tryd.prog 140 #[.pointer (some ⟨t, 0, none⟩), .int .i64 c] w fun e w' => e = .returned (.bool (decide (0 ≤ c) && decide (c < (E.length : Int)))) ∧ w' = w := by
  obtain ⟨A, cap, rfl, hcap, _⟩ := (h.pick 1 rfl).row_slice
  have x0 := h.cell 0
  generalize E.length = m at *
  clear h hcap
  by_cases h0 : 0 ≤ c
  · have d0 : decide (0 ≤ c) = true := by simp; exact h0
    by_cases h1 : c < (m : Int)
    · have d1 : decide (c < (m : Int)) = true := by simp; exact h1
      rw [d0, d1]
      go_enter Tryd.func140, Tryd.ntmps140
      go_wp2
      go_ret
      exact ⟨rfl, rfl⟩
    · have d1 : decide (c < (m : Int)) = false := by simp; omega
      rw [d0, d1]
      go_enter Tryd.func140, Tryd.ntmps140
      go_wp2
      go_ret
      exact ⟨rfl, rfl⟩
  · have d0 : decide (0 ≤ c) = false := by simp; omega
    rw [d0, Bool.false_and]
    go_enter Tryd.func140, Tryd.ntmps140
    go_wp2
    go_ret
    exact ⟨rfl, rfl⟩
def ft3.T3 : Bool × List (List Nat × List Nat) := (true, [([], []), ([0], [0]), ([1], [1]), ([2], [2]), ([3], [3]), ([3], [3]), ([5, 3], [3, 5]), ([4, 6, 3, 3], [3, 4, 6]), ([7, 7, 3], [3, 7]), ([8], [8]), ([9, 8], [8, 9]), ([8], [8]), ([11, 8], [8, 11]), ([12, 8], [8, 12]), ([13, 8], [8, 13]), ([8], [8]), ([15, 8], [8, 15]), ([14, 16, 8], [8, 14, 16]), ([17, 8], [8, 17]), ([18, 8], [8, 18]), ([19, 8], [8, 19]), ([10, 20, 8], [8, 10, 20]), ([8, 21, 3], [3, 8, 21]), ([3, 22], [3, 22]), ([23, 8, 0, 1, 2, 3, 4, 5, 6, 7, 8, 9, 10, 11, 12, 13, 14, 15, 16, 17, 18, 19, 20, 21, 22, 23], [23])])
def ft3.B3 : List Nat := [0, 1, 3, 7, 15, 15, 47, 127, 255, 511, 1023, 511, 2559, 6655, 14847, 511, 33279, 129535, 260607, 522751, 1047039, 2097151, 4194303, 8388607, 16777215]
theorem ft3.tab3 : rtab .any (opsOf Tryd.f83 3) = ft3.T3 := by kernel_rfl
theorem ft3.bits3 : waitsOk ft3.T3.2 ft3.B3 = true := by kernel_rfl
theorem fits_t {c k n : Int} (h : St w0 w (tbB t vL vM :: tbR vL E :: F)) : Calls Tryd.prog 83 #[.pointer (some ⟨t, 0, none⟩), .agg #[.int .i64 c, .int .i64 k, .int .i64 n]] w fun e w' => e = .returned (.bool (fitT (E.map Cl.n) c k n)) ∧ St w0 w' (tbB t vL vM :: tbR vL E :: F) := by
  have HW := Aside.mk (hwords_ 1 c k n)
  have H : Aside (St w0 _ (blk w.heap.size #[.int .i64 c, .int .i64 k, .int .i64 n] 43 :: tbB t vL vM :: tbR vL E :: F)) := Aside.mk (h.alloc #[.int .i64 c, .int .i64 k, .int .i64 n] 43)
  unfold fitT
  by_cases hh : isH c k n = true
  case neg =>
    rw [show hwI c k n = 0 by unfold hwI; rw [if_neg hh]] at HW
    rw [show isH c k n = false by simpa using hh, Bool.false_and]
    clear h hh
    go_enter Tryd.func83, Tryd.ntmps83
    go_wp2_with (go_at_call 131; refine (header_Head_Words.calls _ _ _ _ _ _ HW.out).mono ?_; rintro e w1 ⟨rfl, hb⟩; replace H := Aside.mk (H.out.step hb); clear hb; have z0 := H.out.cell 0; have z1 := H.out.cell 1; have z2 := H.out.cell 2)
    go_ret
    exact ⟨rfl, H.out.rest⟩
  case pos =>
  have hn : 0 ≤ n ∧ n ≤ 255 := by simp only [isH, decide_eq_true_eq] at hh; omega
  obtain ⟨v, hv, hv0⟩ : ∃ v : Int, hwI c k n = v ∧ v ≠ 0 := ⟨_, rfl, by unfold hwI; rw [if_pos hh]; omega⟩
  rw [hv] at HW
  rw [hh, Bool.true_and]
  have bv : (v == 0) = false := by simp; exact hv0
  clear hv
  by_cases hk : k = 1
  case neg =>
    have dk : decide (k ≠ 1) = true := by simp; exact hk
    have bk : (k != 1) = true := by simp; exact hk
    rw [dk, Bool.true_or]
    clear h hh hn dk
    go_enter Tryd.func83, Tryd.ntmps83
    go_wp2_with (go_at_call 131; refine (header_Head_Words.calls _ _ _ _ _ _ HW.out).mono ?_; rintro e w1 ⟨rfl, hb⟩; replace H := Aside.mk (H.out.step hb); clear hb; have z0 := H.out.cell 0; have z1 := H.out.cell 1; have z2 := H.out.cell 2)
    replace H := Aside.mk H.out.drew
    refine start_ (n := 25) (S := fun w' => w'.cell? ⟨w.heap.size, 0, none⟩ = some (.int .i64 c) ∧ w'.cell? ⟨w.heap.size, 1, none⟩ = some (.int .i64 k) ∧ w'.cell? ⟨w.heap.size, 2, none⟩ = some (.int .i64 n)) (ds := []) (flg 25 0) (by kernel_rfl) rfl rfl (⟨H.out.cell 0, H.out.cell 1, H.out.cell 2⟩) (fun hHeld => ?_)
    refine with_tabW ft3.tab3 ft3.bits3 (fun HT_ HW_ => ?_)
    refine pu_ (v := ?_) (a' := ?_) 0 (some 8) 1 rfl rfl HT_ (by kernel_rfl) (.inl ⟨by rfl, ?_⟩) ?_ ?_; rotate_left 2; (· intro w'; go_simp; with_reducible rfl); (· simp only [nrm]; rfl)
    refine tk_ (v := ?_) (a' := ?_) 1 (some 9) 3 rfl rfl HT_ HW_ (by kernel_rfl) (.inl ⟨by rfl, ?_⟩) hHeld ?_ ?_; rotate_left 2; (· rintro w' ⟨_, _, _⟩; go_simp; with_reducible rfl); (· simp only [nrm]; rfl)
    refine pu_ (v := ?_) (a' := ?_) 2 (some 10) 7 rfl rfl HT_ (by kernel_rfl) (.inl ⟨by rfl, ?_⟩) ?_ ?_; rotate_left 2; (· intro w'; go_simp; with_reducible rfl); (· simp only [nrm]; rfl)
    refine pu_ (v := ?_) (a' := ?_) 3 (some 11) 15 rfl rfl HT_ (by kernel_rfl) (.inl ⟨by rfl, ?_⟩) ?_ ?_; rotate_left 2; (· intro w'; go_simp; with_reducible rfl); (· simp only [nrm]; rfl)
    refine pure_ (i := 4) (N := some 12) (v := undef) (a' := ?_) (flg 25 31) rfl rfl (any_of HT_.out (by kernel_rfl)) (fun _ _ _ h => h) (Or.inr ⟨by rfl, rfl⟩) ?_ ?_
    rotate_left
    · simp only [nrm]
      rfl
    refine pure_ (i := 5) (N := some 13) (v := undef) (a' := ?_) (flg 25 63) rfl rfl (any_of HT_.out (by kernel_rfl)) (fun _ _ _ h => h) (Or.inr ⟨by rfl, rfl⟩) ?_ ?_
    rotate_left
    · simp only [nrm]
      rfl
    refine pure_ (i := 6) (N := some 14) (v := undef) (a' := ?_) (flg 25 127) rfl rfl (any_of HT_.out (by kernel_rfl)) (fun _ _ _ h => h) (Or.inr ⟨by rfl, rfl⟩) ?_ ?_
    rotate_left
    · simp only [nrm]
      rfl
    refine pure_ (i := 7) (N := some 15) (v := undef) (a' := ?_) (flg 25 255) rfl rfl (any_of HT_.out (by kernel_rfl)) (fun _ _ _ h => h) (Or.inr ⟨by rfl, rfl⟩) ?_ ?_
    rotate_left
    · simp only [nrm]
      rfl
    refine pure_ (i := 8) (N := some 16) (v := undef) (a' := ?_) (flg 25 511) rfl rfl (any_of HT_.out (by kernel_rfl)) (fun _ _ _ h => h) (Or.inr ⟨by rfl, rfl⟩) ?_ ?_
    rotate_left
    · simp only [nrm]
      rfl
    refine pure_ (i := 9) (N := some 17) (v := undef) (a' := ?_) (flg 25 1023) rfl rfl (any_of HT_.out (by kernel_rfl)) (fun _ _ _ h => h) (Or.inr ⟨by rfl, rfl⟩) ?_ ?_
    rotate_left
    · simp only [nrm]
      rfl
    refine pure_ (i := 10) (N := some 18) (v := undef) (a' := ?_) (flg 25 2047) rfl rfl (any_of HT_.out (by kernel_rfl)) (fun _ _ _ h => h) (Or.inr ⟨by rfl, rfl⟩) ?_ ?_
    rotate_left
    · simp only [nrm]
      rfl
    refine pure_ (i := 11) (N := some 19) (v := undef) (a' := ?_) (flg 25 4095) rfl rfl (any_of HT_.out (by kernel_rfl)) (fun _ _ _ h => h) (Or.inr ⟨by rfl, rfl⟩) ?_ ?_
    rotate_left
    · simp only [nrm]
      rfl
    refine pure_ (i := 12) (N := some 20) (v := undef) (a' := ?_) (flg 25 8191) rfl rfl (any_of HT_.out (by kernel_rfl)) (fun _ _ _ h => h) (Or.inr ⟨by rfl, rfl⟩) ?_ ?_
    rotate_left
    · simp only [nrm]
      rfl
    refine pure_ (i := 13) (N := some 21) (v := undef) (a' := ?_) (flg 25 16383) rfl rfl (any_of HT_.out (by kernel_rfl)) (fun _ _ _ h => h) (Or.inr ⟨by rfl, rfl⟩) ?_ ?_
    rotate_left
    · simp only [nrm]
      rfl
    refine pure_ (i := 14) (N := some 22) (v := undef) (a' := ?_) (flg 25 32767) rfl rfl (any_of HT_.out (by kernel_rfl)) (fun _ _ _ h => h) (Or.inr ⟨by rfl, rfl⟩) ?_ ?_
    rotate_left
    · simp only [nrm]
      rfl
    refine pure_ (i := 15) (N := some 23) (v := undef) (a' := ?_) (flg 25 65535) rfl rfl (any_of HT_.out (by kernel_rfl)) (fun _ _ _ h => h) (Or.inr ⟨by rfl, rfl⟩) ?_ ?_
    rotate_left
    · simp only [nrm]
      rfl
    refine pure_ (i := 16) (N := some 24) (v := undef) (a' := ?_) (flg 25 131071) rfl rfl (any_of HT_.out (by kernel_rfl)) (fun _ _ _ h => h) (Or.inr ⟨by rfl, rfl⟩) ?_ ?_
    rotate_left
    · simp only [nrm]
      rfl
    refine pure_ (i := 17) (N := some 25) (v := undef) (a' := ?_) (flg 25 262143) rfl rfl (any_of HT_.out (by kernel_rfl)) (fun _ _ _ h => h) (Or.inr ⟨by rfl, rfl⟩) ?_ ?_
    rotate_left
    · simp only [nrm]
      rfl
    refine pure_ (i := 18) (N := some 26) (v := undef) (a' := ?_) (flg 25 524287) rfl rfl (any_of HT_.out (by kernel_rfl)) (fun _ _ _ h => h) (Or.inr ⟨by rfl, rfl⟩) ?_ ?_
    rotate_left
    · simp only [nrm]
      rfl
    refine pure_ (i := 19) (N := some 27) (v := undef) (a' := ?_) (flg 25 1048575) rfl rfl (any_of HT_.out (by kernel_rfl)) (fun _ _ _ h => h) (Or.inr ⟨by rfl, rfl⟩) ?_ ?_
    rotate_left
    · simp only [nrm]
      rfl
    refine pure_ (i := 20) (N := some 28) (v := undef) (a' := ?_) (flg 25 2097151) rfl rfl (any_of HT_.out (by kernel_rfl)) (fun _ _ _ h => h) (Or.inr ⟨by rfl, rfl⟩) ?_ ?_
    rotate_left
    · simp only [nrm]
      rfl
    refine pure_ (i := 21) (N := some 29) (v := undef) (a' := ?_) (flg 25 4194303) rfl rfl (any_of HT_.out (by kernel_rfl)) (fun _ _ _ h => h) (Or.inr ⟨by rfl, rfl⟩) ?_ ?_
    rotate_left
    · simp only [nrm]
      rfl
    refine pure_ (i := 22) (N := some 30) (v := undef) (a' := ?_) (flg 25 8388607) rfl rfl (any_of HT_.out (by kernel_rfl)) (fun _ _ _ h => h) (Or.inr ⟨by rfl, rfl⟩) ?_ ?_
    rotate_left
    · simp only [nrm]
      rfl
    refine pu_ (v := ?_) (a' := ?_) 23 (some 31) 16777215 rfl rfl HT_ (by kernel_rfl) (.inl ⟨by rfl, ?_⟩) ?_ ?_; rotate_left 2; (· intro w'; go_simp; with_reducible rfl); (· simp only [nrm]; rfl)
    refine pu_ (v := ?_) (a' := ?_) 24 (some 4) 33554431 rfl rfl HT_ (by kernel_rfl) (.inl ⟨by rfl, ?_⟩) ?_ ?_; rotate_left 2; (· intro w'; go_simp; with_reducible rfl); (· simp only [nrm]; rfl)
    refine done_ (done_of HT_.out (by kernel_rfl)) ?_
    clear HT_ HW_ hHeld
    go_wp2
    go_ret
    exact ⟨rfl, H.out.rest⟩
  case pos =>
  subst hk
  obtain ⟨cN, rfl⟩ : ∃ cN : Nat, c = cN := ⟨c.toNat, by simp only [isH, decide_eq_true_eq] at hh; omega⟩
  rw [show decide ((1 : Int) ≠ 1) = false by simp, Bool.false_or, List.length_map]
  obtain ⟨A, cap, rfl, hcap, _⟩ := (h.pick 1 rfl).row_slice
  have HK := Aside.mk (fun (w1 : World) (L : List HP) (h : St w0 w1 (tbB t (.slice A E.length cap) vM :: tbR (.slice A E.length cap) E :: L)) => known_t (c := (cN : Int)) h)
  rw [show decide ((0 : Int) ≤ (cN : Int)) = true by simp, Bool.true_and] at HK
  by_cases hc : cN < E.length
  case neg =>
    have dc : decide ((cN : Int) < (E.length : Int)) = false := by simp; omega
    rw [dc] at HK
    rw [dc, Bool.false_and]
    generalize E.length = m at *
    clear h hh hn dc hcap hc
    go_enter Tryd.func83, Tryd.ntmps83
    go_wp2_with (go_at_call 131; refine (header_Head_Words.calls _ _ _ _ _ _ HW.out).mono ?_; rintro e w1 ⟨rfl, hb⟩; replace H := Aside.mk (H.out.step hb); clear hb; have z0 := H.out.cell 0; have z1 := H.out.cell 1; have z2 := H.out.cell 2)
    replace H := Aside.mk H.out.drew
    refine start_ (n := 25) (S := fun w' => w'.cell? ⟨w.heap.size, 0, none⟩ = some (.int .i64 cN) ∧ w'.cell? ⟨w.heap.size, 1, none⟩ = some (.int .i64 1) ∧ w'.cell? ⟨w.heap.size, 2, none⟩ = some (.int .i64 n) ∧ w'.cell? ⟨t, 0, none⟩ = some (.slice A m cap)) (ds := []) (flg 25 0) (by kernel_rfl) rfl rfl (⟨H.out.cell 0, H.out.cell 1, H.out.cell 2, (H.out.pick 1 rfl).cell 0⟩) (fun hHeld => ?_)
    refine with_tabW ft3.tab3 ft3.bits3 (fun HT_ HW_ => ?_)
    refine pu_ (v := ?_) (a' := ?_) 0 (some 8) 1 rfl rfl HT_ (by kernel_rfl) (.inl ⟨by rfl, ?_⟩) ?_ ?_; rotate_left 2; (· intro w'; go_simp; with_reducible rfl); (· simp only [nrm]; rfl)
    refine tk_ (v := ?_) (a' := ?_) 1 (some 9) 3 rfl rfl HT_ HW_ (by kernel_rfl) (.inl ⟨by rfl, ?_⟩) hHeld ?_ ?_; rotate_left 2; (· rintro w' ⟨_, _, _, _⟩; go_simp; with_reducible rfl); (· simp only [nrm]; rfl)
    refine pu_ (v := ?_) (a' := ?_) 2 (some 10) 7 rfl rfl HT_ (by kernel_rfl) (.inl ⟨by rfl, ?_⟩) ?_ ?_; rotate_left 2; (· intro w'; go_simp; with_reducible rfl); (· simp only [nrm]; rfl)
    refine pu_ (v := ?_) (a' := ?_) 3 (some 11) 15 rfl rfl HT_ (by kernel_rfl) (.inl ⟨by rfl, ?_⟩) ?_ ?_; rotate_left 2; (· intro w'; go_simp; with_reducible rfl); (· simp only [nrm]; rfl)
    refine pu_ (v := ?_) (a' := ?_) 4 (some 12) 31 rfl rfl HT_ (by kernel_rfl) (.inl ⟨by rfl, ?_⟩) ?_ ?_; rotate_left 2; (· intro w'; go_simp; with_reducible rfl); (· simp only [nrm]; rfl)
    refine pu_ (v := ?_) (a' := ?_) 5 (some 13) 63 rfl rfl HT_ (by kernel_rfl) (.inl ⟨by rfl, ?_⟩) ?_ ?_; rotate_left 2; (· intro w'; go_simp; with_reducible rfl); (· simp only [nrm]; rfl)
    refine tk_ (v := ?_) (a' := ?_) 6 (some 14) 127 rfl rfl HT_ HW_ (by kernel_rfl) (.inl ⟨by rfl, ?_⟩) hHeld ?_ ?_; rotate_left 2; (· rintro w' ⟨_, _, _, _⟩; go_simp; with_reducible rfl); (· simp only [nrm]; rfl)
    refine on_ 7 (some 15) 255 rfl rfl HT_ (by kernel_rfl) (by decide) (fun K hK => ?_)
    refine goes_ Tryd.func140 (by kernel_rfl) rfl #[.pointer (some ⟨t, 0, none⟩), .int .i64 cN] (by rfl) rfl rfl (by (try simp only [List.map_toArray, List.map_cons, List.map_nil]); first | done | rfl) ?_
    refine (HK.out _ _ (H.out.order 3 [1, 2, 0] rfl rfl)).mono ?_
    rintro e w2 ⟨rfl, rfl⟩
    refine ⟨_, rfl, ?_⟩
    refine hK.out _ _ ⟨H.out.cell 0, H.out.cell 1, H.out.cell 2, (H.out.pick 1 rfl).cell 0⟩ (fun hHeld => ?_)
    clear hK K
    refine norm_ (a' := ?_) ?_ ?_
    rotate_left
    · show Act.put _ (some 15) _ = _
      simp only [nrm]
      rfl
    refine pu_ (v := ?_) (a' := ?_) 8 (some 16) 511 rfl rfl HT_ (by kernel_rfl) (.inl ⟨by rfl, ?_⟩) ?_ ?_; rotate_left 2; (· intro w'; go_simp; with_reducible rfl); (· simp only [nrm]; rfl)
    refine pure_ (i := 9) (N := some 17) (v := undef) (a' := ?_) (flg 25 1023) rfl rfl (any_of HT_.out (by kernel_rfl)) (fun _ _ _ h => h) (Or.inr ⟨by rfl, rfl⟩) ?_ ?_
    rotate_left
    · simp only [nrm]
      rfl
    refine pure_ (i := 10) (N := some 18) (v := undef) (a' := ?_) (flg 25 2047) rfl rfl (any_of HT_.out (by kernel_rfl)) (fun _ _ _ h => h) (Or.inr ⟨by rfl, rfl⟩) ?_ ?_
    rotate_left
    · simp only [nrm]
      rfl
    refine pure_ (i := 11) (N := some 19) (v := undef) (a' := ?_) (flg 25 4095) rfl rfl (any_of HT_.out (by kernel_rfl)) (fun _ _ _ h => h) (Or.inr ⟨by rfl, rfl⟩) ?_ ?_
    rotate_left
    · simp only [nrm]
      rfl
    refine pure_ (i := 12) (N := some 20) (v := undef) (a' := ?_) (flg 25 8191) rfl rfl (any_of HT_.out (by kernel_rfl)) (fun _ _ _ h => h) (Or.inr ⟨by rfl, rfl⟩) ?_ ?_
    rotate_left
    · simp only [nrm]
      rfl
    refine pure_ (i := 13) (N := some 21) (v := undef) (a' := ?_) (flg 25 16383) rfl rfl (any_of HT_.out (by kernel_rfl)) (fun _ _ _ h => h) (Or.inr ⟨by rfl, rfl⟩) ?_ ?_
    rotate_left
    · simp only [nrm]
      rfl
    refine pure_ (i := 14) (N := some 22) (v := undef) (a' := ?_) (flg 25 32767) rfl rfl (any_of HT_.out (by kernel_rfl)) (fun _ _ _ h => h) (Or.inr ⟨by rfl, rfl⟩) ?_ ?_
    rotate_left
    · simp only [nrm]
      rfl
    refine pure_ (i := 15) (N := some 23) (v := undef) (a' := ?_) (flg 25 65535) rfl rfl (any_of HT_.out (by kernel_rfl)) (fun _ _ _ h => h) (Or.inr ⟨by rfl, rfl⟩) ?_ ?_
    rotate_left
    · simp only [nrm]
      rfl
    refine pure_ (i := 16) (N := some 24) (v := undef) (a' := ?_) (flg 25 131071) rfl rfl (any_of HT_.out (by kernel_rfl)) (fun _ _ _ h => h) (Or.inr ⟨by rfl, rfl⟩) ?_ ?_
    rotate_left
    · simp only [nrm]
      rfl
    refine pure_ (i := 17) (N := some 25) (v := undef) (a' := ?_) (flg 25 262143) rfl rfl (any_of HT_.out (by kernel_rfl)) (fun _ _ _ h => h) (Or.inr ⟨by rfl, rfl⟩) ?_ ?_
    rotate_left
    · simp only [nrm]
      rfl
    refine pure_ (i := 18) (N := some 26) (v := undef) (a' := ?_) (flg 25 524287) rfl rfl (any_of HT_.out (by kernel_rfl)) (fun _ _ _ h => h) (Or.inr ⟨by rfl, rfl⟩) ?_ ?_
    rotate_left
    · simp only [nrm]
      rfl
    refine pure_ (i := 19) (N := some 27) (v := undef) (a' := ?_) (flg 25 1048575) rfl rfl (any_of HT_.out (by kernel_rfl)) (fun _ _ _ h => h) (Or.inr ⟨by rfl, rfl⟩) ?_ ?_
    rotate_left
    · simp only [nrm]
      rfl
    refine pure_ (i := 20) (N := some 28) (v := undef) (a' := ?_) (flg 25 2097151) rfl rfl (any_of HT_.out (by kernel_rfl)) (fun _ _ _ h => h) (Or.inr ⟨by rfl, rfl⟩) ?_ ?_
    rotate_left
    · simp only [nrm]
      rfl
    refine pure_ (i := 21) (N := some 29) (v := undef) (a' := ?_) (flg 25 4194303) rfl rfl (any_of HT_.out (by kernel_rfl)) (fun _ _ _ h => h) (Or.inr ⟨by rfl, rfl⟩) ?_ ?_
    rotate_left
    · simp only [nrm]
      rfl
    refine pu_ (v := ?_) (a' := ?_) 22 (some 30) 8388607 rfl rfl HT_ (by kernel_rfl) (.inl ⟨by rfl, ?_⟩) ?_ ?_; rotate_left 2; (· intro w'; go_simp; with_reducible rfl); (· simp only [nrm]; rfl)
    refine pu_ (v := ?_) (a' := ?_) 23 (some 31) 16777215 rfl rfl HT_ (by kernel_rfl) (.inl ⟨by rfl, ?_⟩) ?_ ?_; rotate_left 2; (· intro w'; go_simp; with_reducible rfl); (· simp only [nrm]; rfl)
    refine pu_ (v := ?_) (a' := ?_) 24 (some 4) 33554431 rfl rfl HT_ (by kernel_rfl) (.inl ⟨by rfl, ?_⟩) ?_ ?_; rotate_left 2; (· intro w'; go_simp; with_reducible rfl); (· simp only [nrm]; rfl)
    refine done_ (done_of HT_.out (by kernel_rfl)) ?_
    clear HT_ HW_ hHeld
    go_wp2
    go_ret
    exact ⟨rfl, H.out.rest⟩
  case pos =>
    have dc : decide ((cN : Int) < (E.length : Int)) = true := by simp; omega
    have nc : (cN : Int) < (E.length : Int) := by omega
    rw [dc] at HK
    rw [dc, Bool.true_and]
    obtain ⟨ad, hA⟩ : ∃ ad : Addr, A = some ad := by
      obtain ⟨g, c', e, _⟩ := (h.pick 1 rfl).row_some (by omega)
      injection e with e1
      exact ⟨_, e1⟩
    subst hA
    obtain ⟨q, hq⟩ : ∃ q, q = E.getD cN zCl := ⟨_, rfl⟩
    have hm : ((E.map Cl.n).getD (cN : Int).toNat 0) = q.n := by rw [hq]; simp [List.getD_eq_getElem?_getD, hc]
    rw [hm]
    have HC : Aside (∀ (w1 : World) (L : List HP), St w0 w1 (blk w.heap.size #[.int .i64 cN, .int .i64 1, .int .i64 n] 43 :: tbB t (.slice (some ad) E.length cap) vM :: tbR (.slice (some ad) E.length cap) E :: L) → w1.cell? ⟨(ad.add (cN * 2)).block, (ad.add (cN * 2)).off + 1, none⟩ = some (.slice q.ad q.n q.cap)) := by
      refine ⟨fun w1 L h => ?_⟩
      obtain ⟨g, c', e, _, hcell⟩ := (h.pick 2 rfl).row_some (by omega)
      injection e with e1
      injection e1 with e1
      subst e1
      rw [show (⟨g, 0, none⟩ : Addr).add (cN * 2) = ⟨g, cN * 2, none⟩ by unfold Addr.add; split <;> simp_all]
      exact hcell (cN * 2 + 1) _ (by rw [tbX_get E cN 1 hc (by decide), ← hq]; rfl)
    generalize q.ad = cA at *
    generalize q.n = cn at *
    generalize q.cap = cc at *
    generalize E.length = m at *
    clear h hh hn hcap hc hm hq
    by_cases hnn : n = (cn : Int)
    · have bn : (n == (cn : Int)) = true := by simp; exact hnn
      rw [show decide (n = (cn : Int)) = true by simp; exact hnn]
      clear hnn
      go_enter Tryd.func83, Tryd.ntmps83
      go_wp2_with (go_at_call 131; refine (header_Head_Words.calls _ _ _ _ _ _ HW.out).mono ?_; rintro e w1 ⟨rfl, hb⟩; replace H := Aside.mk (H.out.step hb); clear hb; have z0 := H.out.cell 0; have z1 := H.out.cell 1; have z2 := H.out.cell 2)
      replace H := Aside.mk H.out.drew
      refine start_ (n := 25) (S := fun w' => w'.cell? ⟨w.heap.size, 0, none⟩ = some (.int .i64 cN) ∧ w'.cell? ⟨w.heap.size, 1, none⟩ = some (.int .i64 1) ∧ w'.cell? ⟨w.heap.size, 2, none⟩ = some (.int .i64 n) ∧ w'.cell? ⟨t, 0, none⟩ = some (.slice (some ad) m cap) ∧ w'.cell? ⟨(ad.add (cN * 2)).block, (ad.add (cN * 2)).off + 1, none⟩ = some (.slice cA cn cc)) (ds := []) (flg 25 0) (by kernel_rfl) rfl rfl (⟨H.out.cell 0, H.out.cell 1, H.out.cell 2, (H.out.pick 1 rfl).cell 0, HC.out _ _ H.out⟩) (fun hHeld => ?_)
      refine with_tabW ft3.tab3 ft3.bits3 (fun HT_ HW_ => ?_)
      refine pu_ (v := ?_) (a' := ?_) 0 (some 8) 1 rfl rfl HT_ (by kernel_rfl) (.inl ⟨by rfl, ?_⟩) ?_ ?_; rotate_left 2; (· intro w'; go_simp; with_reducible rfl); (· simp only [nrm]; rfl)
      refine tk_ (v := ?_) (a' := ?_) 1 (some 9) 3 rfl rfl HT_ HW_ (by kernel_rfl) (.inl ⟨by rfl, ?_⟩) hHeld ?_ ?_; rotate_left 2; (· rintro w' ⟨_, _, _, _, _⟩; go_simp; with_reducible rfl); (· simp only [nrm]; rfl)
      refine pu_ (v := ?_) (a' := ?_) 2 (some 10) 7 rfl rfl HT_ (by kernel_rfl) (.inl ⟨by rfl, ?_⟩) ?_ ?_; rotate_left 2; (· intro w'; go_simp; with_reducible rfl); (· simp only [nrm]; rfl)
      refine pu_ (v := ?_) (a' := ?_) 3 (some 11) 15 rfl rfl HT_ (by kernel_rfl) (.inl ⟨by rfl, ?_⟩) ?_ ?_; rotate_left 2; (· intro w'; go_simp; with_reducible rfl); (· simp only [nrm]; rfl)
      refine pu_ (v := ?_) (a' := ?_) 4 (some 12) 31 rfl rfl HT_ (by kernel_rfl) (.inl ⟨by rfl, ?_⟩) ?_ ?_; rotate_left 2; (· intro w'; go_simp; with_reducible rfl); (· simp only [nrm]; rfl)
      refine pu_ (v := ?_) (a' := ?_) 5 (some 13) 63 rfl rfl HT_ (by kernel_rfl) (.inl ⟨by rfl, ?_⟩) ?_ ?_; rotate_left 2; (· intro w'; go_simp; with_reducible rfl); (· simp only [nrm]; rfl)
      refine tk_ (v := ?_) (a' := ?_) 6 (some 14) 127 rfl rfl HT_ HW_ (by kernel_rfl) (.inl ⟨by rfl, ?_⟩) hHeld ?_ ?_; rotate_left 2; (· rintro w' ⟨_, _, _, _, _⟩; go_simp; with_reducible rfl); (· simp only [nrm]; rfl)
      refine on_ 7 (some 15) 255 rfl rfl HT_ (by kernel_rfl) (by decide) (fun K hK => ?_)
      refine goes_ Tryd.func140 (by kernel_rfl) rfl #[.pointer (some ⟨t, 0, none⟩), .int .i64 cN] (by rfl) rfl rfl (by (try simp only [List.map_toArray, List.map_cons, List.map_nil]); first | done | rfl) ?_
      refine (HK.out _ _ (H.out.order 3 [1, 2, 0] rfl rfl)).mono ?_
      rintro e w2 ⟨rfl, rfl⟩
      refine ⟨_, rfl, ?_⟩
      refine hK.out _ _ ⟨H.out.cell 0, H.out.cell 1, H.out.cell 2, (H.out.pick 1 rfl).cell 0, HC.out _ _ H.out⟩ (fun hHeld => ?_)
      clear hK K
      refine norm_ (a' := ?_) ?_ ?_
      rotate_left
      · show Act.put _ (some 15) _ = _
        simp only [nrm]
        rfl
      refine pu_ (v := ?_) (a' := ?_) 8 (some 16) 511 rfl rfl HT_ (by kernel_rfl) (.inl ⟨by rfl, ?_⟩) ?_ ?_; rotate_left 2; (· intro w'; go_simp; with_reducible rfl); (· simp only [nrm]; rfl)
      refine pu_ (v := ?_) (a' := ?_) 9 (some 17) 1023 rfl rfl HT_ (by kernel_rfl) (.inl ⟨by rfl, ?_⟩) ?_ ?_; rotate_left 2; (· intro w'; go_simp; with_reducible rfl); (· simp only [nrm]; rfl)
      refine tk_ (v := ?_) (a' := ?_) 10 (some 18) 2047 rfl rfl HT_ HW_ (by kernel_rfl) (.inl ⟨by rfl, ?_⟩) hHeld ?_ ?_; rotate_left 2; (· rintro w' ⟨_, _, _, _, _⟩; go_simp; with_reducible rfl); (· simp only [nrm]; rfl)
      refine pu_ (v := ?_) (a' := ?_) 11 (some 19) 4095 rfl rfl HT_ (by kernel_rfl) (.inl ⟨by rfl, ?_⟩) ?_ ?_; rotate_left 2; (· intro w'; go_simp; with_reducible rfl); (· simp only [nrm]; rfl)
      refine pu_ (v := ?_) (a' := ?_) 12 (some 20) 8191 rfl rfl HT_ (by kernel_rfl) (.inl ⟨by rfl, ?_⟩) ?_ ?_; rotate_left 2; (· intro w'; go_simp; with_reducible rfl); (· simp only [nrm]; rfl)
      refine pu_ (v := ?_) (a' := ?_) 13 (some 21) 16383 rfl rfl HT_ (by kernel_rfl) (.inl ⟨by rfl, ?_⟩) ?_ ?_; rotate_left 2; (· intro w'; go_simp; with_reducible rfl); (· simp only [nrm]; rfl)
      refine tk_ (v := ?_) (a' := ?_) 14 (some 22) 32767 rfl rfl HT_ HW_ (by kernel_rfl) (.inl ⟨by rfl, ?_⟩) hHeld ?_ ?_; rotate_left 2; (· rintro w' ⟨_, _, _, _, _⟩; go_simp; with_reducible rfl); (· simp only [nrm]; rfl)
      refine pu_ (v := ?_) (a' := ?_) 15 (some 23) 65535 rfl rfl HT_ (by kernel_rfl) (.inl ⟨by rfl, ?_⟩) ?_ ?_; rotate_left 2; (· intro w'; go_simp; with_reducible rfl); (· simp only [nrm]; rfl)
      refine tk_ (v := ?_) (a' := ?_) 16 (some 24) 131071 rfl rfl HT_ HW_ (by kernel_rfl) (.inl ⟨by rfl, ?_⟩) hHeld ?_ ?_; rotate_left 2; (· rintro w' ⟨_, _, _, _, _⟩; go_simp; with_reducible rfl); (· simp only [nrm]; rfl)
      refine pu_ (v := ?_) (a' := ?_) 17 (some 25) 262143 rfl rfl HT_ (by kernel_rfl) (.inl ⟨by rfl, ?_⟩) ?_ ?_; rotate_left 2; (· intro w'; go_simp; with_reducible rfl); (· simp only [nrm]; rfl)
      refine pu_ (v := ?_) (a' := ?_) 18 (some 26) 524287 rfl rfl HT_ (by kernel_rfl) (.inl ⟨by rfl, ?_⟩) ?_ ?_; rotate_left 2; (· intro w'; go_simp; with_reducible rfl); (· simp only [nrm]; rfl)
      refine tk_ (v := ?_) (a' := ?_) 19 (some 27) 1048575 rfl rfl HT_ HW_ (by kernel_rfl) (.inl ⟨by rfl, ?_⟩) hHeld ?_ ?_; rotate_left 2; (· rintro w' ⟨_, _, _, _, _⟩; go_simp; with_reducible rfl); (· simp only [nrm]; rfl)
      refine pu_ (v := ?_) (a' := ?_) 20 (some 28) 2097151 rfl rfl HT_ (by kernel_rfl) (.inl ⟨by rfl, ?_⟩) ?_ ?_; rotate_left 2; (· intro w'; go_simp; with_reducible rfl); (· simp only [nrm]; rfl)
      refine pu_ (v := ?_) (a' := ?_) 21 (some 29) 4194303 rfl rfl HT_ (by kernel_rfl) (.inl ⟨by rfl, ?_⟩) ?_ ?_; rotate_left 2; (· intro w'; go_simp; with_reducible rfl); (· simp only [nrm]; rfl)
      refine pu_ (v := ?_) (a' := ?_) 22 (some 30) 8388607 rfl rfl HT_ (by kernel_rfl) (.inl ⟨by rfl, ?_⟩) ?_ ?_; rotate_left 2; (· intro w'; go_simp; with_reducible rfl); (· simp only [nrm]; rfl)
      refine pu_ (v := ?_) (a' := ?_) 23 (some 31) 16777215 rfl rfl HT_ (by kernel_rfl) (.inl ⟨by rfl, ?_⟩) ?_ ?_; rotate_left 2; (· intro w'; go_simp; with_reducible rfl); (· simp only [nrm]; rfl)
      refine pu_ (v := ?_) (a' := ?_) 24 (some 4) 33554431 rfl rfl HT_ (by kernel_rfl) (.inl ⟨by rfl, ?_⟩) ?_ ?_; rotate_left 2; (· intro w'; go_simp; with_reducible rfl); (· simp only [nrm]; rfl)
      refine done_ (done_of HT_.out (by kernel_rfl)) ?_
      clear HT_ HW_ hHeld
      go_wp2
      go_ret
      exact ⟨rfl, H.out.rest⟩
    · have bn : (n == (cn : Int)) = false := by simp; exact hnn
      rw [show decide (n = (cn : Int)) = false by simp; exact hnn]
      clear hnn
      go_enter Tryd.func83, Tryd.ntmps83
      go_wp2_with (go_at_call 131; refine (header_Head_Words.calls _ _ _ _ _ _ HW.out).mono ?_; rintro e w1 ⟨rfl, hb⟩; replace H := Aside.mk (H.out.step hb); clear hb; have z0 := H.out.cell 0; have z1 := H.out.cell 1; have z2 := H.out.cell 2)
      replace H := Aside.mk H.out.drew
      refine start_ (n := 25) (S := fun w' => w'.cell? ⟨w.heap.size, 0, none⟩ = some (.int .i64 cN) ∧ w'.cell? ⟨w.heap.size, 1, none⟩ = some (.int .i64 1) ∧ w'.cell? ⟨w.heap.size, 2, none⟩ = some (.int .i64 n) ∧ w'.cell? ⟨t, 0, none⟩ = some (.slice (some ad) m cap) ∧ w'.cell? ⟨(ad.add (cN * 2)).block, (ad.add (cN * 2)).off + 1, none⟩ = some (.slice cA cn cc)) (ds := []) (flg 25 0) (by kernel_rfl) rfl rfl (⟨H.out.cell 0, H.out.cell 1, H.out.cell 2, (H.out.pick 1 rfl).cell 0, HC.out _ _ H.out⟩) (fun hHeld => ?_)
      refine with_tabW ft3.tab3 ft3.bits3 (fun HT_ HW_ => ?_)
      refine pu_ (v := ?_) (a' := ?_) 0 (some 8) 1 rfl rfl HT_ (by kernel_rfl) (.inl ⟨by rfl, ?_⟩) ?_ ?_; rotate_left 2; (· intro w'; go_simp; with_reducible rfl); (· simp only [nrm]; rfl)
      refine tk_ (v := ?_) (a' := ?_) 1 (some 9) 3 rfl rfl HT_ HW_ (by kernel_rfl) (.inl ⟨by rfl, ?_⟩) hHeld ?_ ?_; rotate_left 2; (· rintro w' ⟨_, _, _, _, _⟩; go_simp; with_reducible rfl); (· simp only [nrm]; rfl)
      refine pu_ (v := ?_) (a' := ?_) 2 (some 10) 7 rfl rfl HT_ (by kernel_rfl) (.inl ⟨by rfl, ?_⟩) ?_ ?_; rotate_left 2; (· intro w'; go_simp; with_reducible rfl); (· simp only [nrm]; rfl)
      refine pu_ (v := ?_) (a' := ?_) 3 (some 11) 15 rfl rfl HT_ (by kernel_rfl) (.inl ⟨by rfl, ?_⟩) ?_ ?_; rotate_left 2; (· intro w'; go_simp; with_reducible rfl); (· simp only [nrm]; rfl)
      refine pu_ (v := ?_) (a' := ?_) 4 (some 12) 31 rfl rfl HT_ (by kernel_rfl) (.inl ⟨by rfl, ?_⟩) ?_ ?_; rotate_left 2; (· intro w'; go_simp; with_reducible rfl); (· simp only [nrm]; rfl)
      refine pu_ (v := ?_) (a' := ?_) 5 (some 13) 63 rfl rfl HT_ (by kernel_rfl) (.inl ⟨by rfl, ?_⟩) ?_ ?_; rotate_left 2; (· intro w'; go_simp; with_reducible rfl); (· simp only [nrm]; rfl)
      refine tk_ (v := ?_) (a' := ?_) 6 (some 14) 127 rfl rfl HT_ HW_ (by kernel_rfl) (.inl ⟨by rfl, ?_⟩) hHeld ?_ ?_; rotate_left 2; (· rintro w' ⟨_, _, _, _, _⟩; go_simp; with_reducible rfl); (· simp only [nrm]; rfl)
      refine on_ 7 (some 15) 255 rfl rfl HT_ (by kernel_rfl) (by decide) (fun K hK => ?_)
      refine goes_ Tryd.func140 (by kernel_rfl) rfl #[.pointer (some ⟨t, 0, none⟩), .int .i64 cN] (by rfl) rfl rfl (by (try simp only [List.map_toArray, List.map_cons, List.map_nil]); first | done | rfl) ?_
      refine (HK.out _ _ (H.out.order 3 [1, 2, 0] rfl rfl)).mono ?_
      rintro e w2 ⟨rfl, rfl⟩
      refine ⟨_, rfl, ?_⟩
      refine hK.out _ _ ⟨H.out.cell 0, H.out.cell 1, H.out.cell 2, (H.out.pick 1 rfl).cell 0, HC.out _ _ H.out⟩ (fun hHeld => ?_)
      clear hK K
      refine norm_ (a' := ?_) ?_ ?_
      rotate_left
      · show Act.put _ (some 15) _ = _
        simp only [nrm]
        rfl
      refine pu_ (v := ?_) (a' := ?_) 8 (some 16) 511 rfl rfl HT_ (by kernel_rfl) (.inl ⟨by rfl, ?_⟩) ?_ ?_; rotate_left 2; (· intro w'; go_simp; with_reducible rfl); (· simp only [nrm]; rfl)
      refine pu_ (v := ?_) (a' := ?_) 9 (some 17) 1023 rfl rfl HT_ (by kernel_rfl) (.inl ⟨by rfl, ?_⟩) ?_ ?_; rotate_left 2; (· intro w'; go_simp; with_reducible rfl); (· simp only [nrm]; rfl)
      refine tk_ (v := ?_) (a' := ?_) 10 (some 18) 2047 rfl rfl HT_ HW_ (by kernel_rfl) (.inl ⟨by rfl, ?_⟩) hHeld ?_ ?_; rotate_left 2; (· rintro w' ⟨_, _, _, _, _⟩; go_simp; with_reducible rfl); (· simp only [nrm]; rfl)
      refine pu_ (v := ?_) (a' := ?_) 11 (some 19) 4095 rfl rfl HT_ (by kernel_rfl) (.inl ⟨by rfl, ?_⟩) ?_ ?_; rotate_left 2; (· intro w'; go_simp; with_reducible rfl); (· simp only [nrm]; rfl)
      refine pu_ (v := ?_) (a' := ?_) 12 (some 20) 8191 rfl rfl HT_ (by kernel_rfl) (.inl ⟨by rfl, ?_⟩) ?_ ?_; rotate_left 2; (· intro w'; go_simp; with_reducible rfl); (· simp only [nrm]; rfl)
      refine pu_ (v := ?_) (a' := ?_) 13 (some 21) 16383 rfl rfl HT_ (by kernel_rfl) (.inl ⟨by rfl, ?_⟩) ?_ ?_; rotate_left 2; (· intro w'; go_simp; with_reducible rfl); (· simp only [nrm]; rfl)
      refine tk_ (v := ?_) (a' := ?_) 14 (some 22) 32767 rfl rfl HT_ HW_ (by kernel_rfl) (.inl ⟨by rfl, ?_⟩) hHeld ?_ ?_; rotate_left 2; (· rintro w' ⟨_, _, _, _, _⟩; go_simp; with_reducible rfl); (· simp only [nrm]; rfl)
      refine pu_ (v := ?_) (a' := ?_) 15 (some 23) 65535 rfl rfl HT_ (by kernel_rfl) (.inl ⟨by rfl, ?_⟩) ?_ ?_; rotate_left 2; (· intro w'; go_simp; with_reducible rfl); (· simp only [nrm]; rfl)
      refine tk_ (v := ?_) (a' := ?_) 16 (some 24) 131071 rfl rfl HT_ HW_ (by kernel_rfl) (.inl ⟨by rfl, ?_⟩) hHeld ?_ ?_; rotate_left 2; (· rintro w' ⟨_, _, _, _, _⟩; go_simp; with_reducible rfl); (· simp only [nrm]; rfl)
      refine pu_ (v := ?_) (a' := ?_) 17 (some 25) 262143 rfl rfl HT_ (by kernel_rfl) (.inl ⟨by rfl, ?_⟩) ?_ ?_; rotate_left 2; (· intro w'; go_simp; with_reducible rfl); (· simp only [nrm]; rfl)
      refine pu_ (v := ?_) (a' := ?_) 18 (some 26) 524287 rfl rfl HT_ (by kernel_rfl) (.inl ⟨by rfl, ?_⟩) ?_ ?_; rotate_left 2; (· intro w'; go_simp; with_reducible rfl); (· simp only [nrm]; rfl)
      refine tk_ (v := ?_) (a' := ?_) 19 (some 27) 1048575 rfl rfl HT_ HW_ (by kernel_rfl) (.inl ⟨by rfl, ?_⟩) hHeld ?_ ?_; rotate_left 2; (· rintro w' ⟨_, _, _, _, _⟩; go_simp; with_reducible rfl); (· simp only [nrm]; rfl)
      refine pu_ (v := ?_) (a' := ?_) 20 (some 28) 2097151 rfl rfl HT_ (by kernel_rfl) (.inl ⟨by rfl, ?_⟩) ?_ ?_; rotate_left 2; (· intro w'; go_simp; with_reducible rfl); (· simp only [nrm]; rfl)
      refine pu_ (v := ?_) (a' := ?_) 21 (some 29) 4194303 rfl rfl HT_ (by kernel_rfl) (.inl ⟨by rfl, ?_⟩) ?_ ?_; rotate_left 2; (· intro w'; go_simp; with_reducible rfl); (· simp only [nrm]; rfl)
      refine pu_ (v := ?_) (a' := ?_) 22 (some 30) 8388607 rfl rfl HT_ (by kernel_rfl) (.inl ⟨by rfl, ?_⟩) ?_ ?_; rotate_left 2; (· intro w'; go_simp; with_reducible rfl); (· simp only [nrm]; rfl)
      refine pu_ (v := ?_) (a' := ?_) 23 (some 31) 16777215 rfl rfl HT_ (by kernel_rfl) (.inl ⟨by rfl, ?_⟩) ?_ ?_; rotate_left 2; (· intro w'; go_simp; with_reducible rfl); (· simp only [nrm]; rfl)
      refine pu_ (v := ?_) (a' := ?_) 24 (some 4) 33554431 rfl rfl HT_ (by kernel_rfl) (.inl ⟨by rfl, ?_⟩) ?_ ?_; rotate_left 2; (· intro w'; go_simp; with_reducible rfl); (· simp only [nrm]; rfl)
      refine done_ (done_of HT_.out (by kernel_rfl)) ?_
      clear HT_ HW_ hHeld
      go_wp2
      go_ret
      exact ⟨rfl, H.out.rest⟩
end
end Go.Proofs.YtelfiegocdjnoaaDoor.Ar
