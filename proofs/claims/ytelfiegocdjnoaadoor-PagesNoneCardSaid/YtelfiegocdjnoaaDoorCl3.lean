/- A claim cleans: a step of the sweep that it has. Conditions: the arena's port has a grant; the plan is right. -/
import Derived.Test.YtelfiegocdjnoaaDoorCl1
namespace Go.Proofs.YtelfiegocdjnoaaDoor.Ar
open Go Go.RowKit Go.Proofs.YtelfiegocdjnoaaDoor.Sep Go.Proofs.YtelfiegocdjnoaaDoor.Pg Go.Proofs.YtelfiegocdjnoaaDoorW.PrintWords Go.Proofs.YtelfiegocdjnoaaDoorW.PrintLast Go.Proofs.YtelfiegocdjnoaaDoorW.PrintMore Go.Proofs.YtelfiegocdjnoaaDoor.Q
set_option linter.unusedVariables false
set_option linter.unusedSimpArgs false
set_option maxHeartbeats 8000000
set_option maxRecDepth 100000
def cln.T1 : Bool × List (List Nat × List Nat) := (true, [([], []), ([], []), ([1], [1]), ([2], [2]), ([3], [3]), ([], []), ([5], [5]), ([6], [6]), ([7], [7]), ([], []), ([9], [9]), ([10], [10]), ([11], [11]), ([], []), ([13], [13]), ([14], [14]), ([15], [15]), ([4, 8, 12, 16], [4, 8, 12, 16]), ([17], [17]), ([18], [18]), ([18], [18]), ([0, 0, 1, 2, 3, 4, 5, 6, 7, 8, 9, 10, 11, 12, 13, 14, 15, 16, 17, 18, 19], [0]), ([21, 0, 1, 2, 3, 4, 5, 6, 7, 8, 9, 10, 11, 12, 13, 14, 15, 16, 17, 18, 19], [21]), ([22, 19, 17, 0, 1, 2, 3, 4, 5, 6, 7, 8, 9, 10, 11, 12, 13, 14, 15, 16, 17, 18, 19], [19, 22])])
def cln.B1 : List Nat := [0, 0, 2, 6, 14, 0, 32, 96, 224, 0, 512, 1536, 3584, 0, 8192, 24576, 57344, 131070, 262142, 524286, 524286, 1048575, 3145727, 7340031]
theorem cln.tab1 : rtab .any (opsOf Tryd.f126 1) = cln.T1 := by kernel_rfl
theorem cln.bits1 : waitsOk cln.T1.2 cln.B1 = true := by kernel_rfl
variable {w0 w : World} {F : List HP} {a gC p g : Nat} {lv : Value} {l : List Acc} {cn fl who : Int} {X : List Int} {q : Cp} {x : Cl}
/-- A claim, with the sweep that it has, beside other parts. -/
def ClSt (w0 w : World) (L : List HP) (g : Nat) (q : Cp) (x : Cl) (F : List HP) : Prop :=
  match x.sw with
  | none => St w0 w (L ++ clB g q x (.pointer none) :: F)
  | some y => ∃ s, St w0 w (L ++ clB g q x (swP s) :: swB s y :: F)
theorem ClSt.none_ {L : List HP} (h : x.sw = none) (hs : St w0 w (L ++ clB g q x (.pointer none) :: F)) : ClSt w0 w L g q x F := by unfold ClSt; rw [h]; exact hs
theorem ClSt.some_ {L : List HP} {y : Sw} (h : x.sw = some y) {s : Nat} (hs : St w0 w (L ++ clB g q x (swP s) :: swB s y :: F)) : ClSt w0 w L g q x F := by unfold ClSt; rw [h]; exact ⟨s, hs⟩
theorem next_sw (q : Cp) (x : Cl) : (x.next q).sw = none := by unfold Cl.next; split <;> rfl
theorem clclean_some (hq : q.Right) (hp : x.pg < q.P + 1) (hr : x.rd = 0 ∨ x.rd = 2) (hX : X.length = 128 + 64 * q.P) (hl : l.length ≤ 100000) (hc0 : 0 ≤ cn) (hc1 : cn ≤ 100000) {y : Sw} (hsw : x.sw = some y) {s : Nat} (hpl : Pl q.P q.T x.pg y) (hgd : y.Good q.P x.pg) (h8 : y.at_ ≠ 8) (hv : u64 (X.getD (y.acc q.P q.T x.pg).2.1 0))
    (h : St w0 w (Are p a gC who true X lv l cn fl ++ clB g q x (swP s) :: swB s y :: F)) :
    Calls Tryd.prog 126 #[clP g, .pointer (some ⟨p, 0, none⟩)] w fun e w' => ∃ lv1, e = .returned (.tuple #[]) ∧ ClSt w0 w' (Are p a gC who false (upd X (y.acc q.P q.T x.pg)) lv1 (l ++ [⟨who, (y.acc q.P q.T x.pg).1, (y.acc q.P q.T x.pg).2.1, (y.acc q.P q.T x.pg).2.2.1, (y.acc q.P q.T x.pg).2.2.2, X.getD (y.acc q.P q.T x.pg).2.1 0, leftOf (y.acc q.P q.T x.pg).1 (X.getD (y.acc q.P q.T x.pg).2.1 0) (y.acc q.P q.T x.pg).2.2.1 (y.acc q.P q.T x.pg).2.2.2⟩]) (cn + 1) fl) g q (x.swept q (y.aft (X.getD (y.acc q.P q.T x.pg).2.1 0))) F := by
  have hstep := fun (s : Nat) (F' : List HP) (w : World) (h : St w0 w (Are p a gC who true X lv l cn fl ++ swB s y :: F')) => step_ hpl hgd h8 hX hl hc0 hc1 hv h
  obtain ⟨Z, hZ⟩ : ∃ Z : Value → List HP, ∀ lv1, Z lv1 = Are p a gC who false (upd X (y.acc q.P q.T x.pg)) lv1 (l ++ [⟨who, (y.acc q.P q.T x.pg).1, (y.acc q.P q.T x.pg).2.1, (y.acc q.P q.T x.pg).2.2.1, (y.acc q.P q.T x.pg).2.2.2, X.getD (y.acc q.P q.T x.pg).2.1 0, leftOf (y.acc q.P q.T x.pg).1 (X.getD (y.acc q.P q.T x.pg).2.1 0) (y.acc q.P q.T x.pg).2.2.1 (y.acc q.P q.T x.pg).2.2.2⟩]) (cn + 1) fl := ⟨_, fun _ => rfl⟩
  have HP4 : ∀ lv1, ∃ e1 e2 e3 e4, Z lv1 = [e1, e2, e3, e4] := fun lv1 => ⟨_, _, _, _, hZ lv1⟩
  simp only [← hZ] at hstep ⊢
  obtain ⟨y2, hy2⟩ : ∃ y2, y2 = y.aft (X.getD (y.acc q.P q.T x.pg).2.1 0) := ⟨_, rfl⟩
  rw [← hy2] at hstep ⊢
  have HST := Aside.mk hstep
  have HPG := Aside.mk hp
  have HP5 := Aside.mk hq.hP
  have HR := Aside.mk hr
  have HN := Aside.mk (fun (F' : List HP) (w1 : World) (h1 : St w0 w1 (clB g q x (.pointer none) :: F')) => clnext_ HPG.out HP5.out (by rcases HR.out with h | h <;> simp [h]) h1)
  obtain ⟨z, hz⟩ : ∃ z, z = x.swept q y2 := ⟨_, rfl⟩
  have key : (y2.at_ ≠ 8 ∧ z = { x with sw := some y2 }) ∨ (y2.at_ = 8 ∧ x.rd = 0 ∧ y2.swept = true ∧ y2.empty = false ∧ z = { x with at_ := 0, sw := none }) ∨ (y2.at_ = 8 ∧ x.rd = 0 ∧ y2.swept = false ∧ z = x.next q) ∨ (y2.at_ = 8 ∧ x.rd = 0 ∧ y2.swept = true ∧ y2.empty = true ∧ z = x.next q) ∨
      (y2.at_ = 8 ∧ x.rd = 2 ∧ y2.swept = true ∧ y2.empty = true ∧ z = { x with at_ := 5, sw := none }) ∨ (y2.at_ = 8 ∧ x.rd = 2 ∧ y2.swept = false ∧ z = x.next q) ∨ (y2.at_ = 8 ∧ x.rd = 2 ∧ y2.swept = true ∧ y2.empty = false ∧ z = x.next q) := by
    rw [hz]
    unfold Cl.swept
    by_cases h9 : y2.at_ = 8
    · rw [if_pos h9]
      rcases hr with hr | hr <;> cases h1 : y2.swept <;> cases h2 : y2.empty <;> simp [h9, hr]
    · rw [if_neg h9]
      exact .inl ⟨h9, rfl⟩
  rw [← hz]
  have HK := Aside.mk key
  clear key hz
  have H : Aside (St w0 w (Are p a gC who true X lv l cn fl ++ swB s y :: clB g q x (swP s) :: F)) := Aside.mk (h.perm (List.Perm.append_left _ (.swap _ _ _)))
  have x15 : w.cell? ⟨g, 15, none⟩ = some (swP s) := (H.out.pick 5 rfl).cell 15
  clear h hstep hpl hgd h8 hX hl hc0 hc1 hv hp hr hZ hy2 hq
  rcases HK.out with HK | HK | HK | HK | HK | HK | HK
  · obtain ⟨h9, rfl⟩ := HK
    have b9 : (y2.at_ == 8) = false := by simpa using h9
    clear h9
    go_enter Tryd.func126, Tryd.ntmps126
    go_wp2_with (go_at_call 112; refine (HST.out s _ _ H.out).mono ?_; rintro e w5 ⟨lv1, rfl, h5⟩; obtain ⟨e1, e2, e3, e4, hz4⟩ := HP4 lv1; rw [hz4] at h5; replace H : Aside (St w0 w5 (e1 :: e2 :: e3 :: e4 :: swB s y2 :: clB g q x (swP s) :: F)) := Aside.mk h5; clear h5; have hz5 := Aside.mk hz4; clear hz4; have x15 : w5.cell? ⟨g, 15, none⟩ = some (swP s) := (H.out.pick 5 rfl).cell 15)
    refine bodyPost_ret (results_none rfl _ _ _) rfl ?_
    exact ⟨lv1, rfl, .some_ (y := y2) rfl (s := s) (by rw [hz5.out]; exact H.out.order 6 [0, 1, 2, 3, 5, 4] rfl rfl)⟩
  · obtain ⟨h9, hr, b1, b2, rfl⟩ := HK
    have b9 : (y2.at_ == 8) = true := by simp [h9]
    clear h9
    go_enter Tryd.func126, Tryd.ntmps126
    go_wp2_with (first | (go_at_call 112; refine (HST.out s _ _ H.out).mono ?_; rintro e w5 ⟨lv1, rfl, h5⟩; obtain ⟨e1, e2, e3, e4, hz4⟩ := HP4 lv1; rw [hz4] at h5; replace H : Aside (St w0 w5 (e1 :: e2 :: e3 :: e4 :: swB s y2 :: clB g q x (swP s) :: F)) := Aside.mk h5; clear h5; have hz5 := Aside.mk hz4; clear hz4; have x15 : w5.cell? ⟨g, 15, none⟩ = some (swP s) := (H.out.pick 5 rfl).cell 15) | (with_reducible refine stop_at (.store 193 (.tmp 46) (.const (.pointer none))) rfl ?_))
    refine ⟨?_⟩
    refine st_store rfl rfl rfl [.pointer none] (Cl.cells q x (.pointer none)) rfl rfl rfl (Nat.le_of_ble_eq_true rfl) (by simp [Value.oneCell']) (H.out.pick 5 rfl) rfl ?_
    intro w6 h6
    replace H : Aside (St w0 w6 (swB s y2 :: clB g q x (.pointer none) :: e1 :: e2 :: e3 :: e4 :: F)) := Aside.mk (h6.pick 5 rfl)
    clear h6 x15 b9
    have x6 : w6.cell? ⟨g, 6, none⟩ = some (.int .i64 x.rd) := (H.out.pick 1 rfl).cell 6
    rw [hr] at x6
    go_wp2_with (first | (go_at_call 113; refine (sswept_ H.out).mono ?_; rintro e w7 ⟨rfl, h7⟩; replace H := Aside.mk h7; clear h7; have x6 : w7.cell? ⟨g, 6, none⟩ = some (.int .i64 _) := (H.out.pick 1 rfl).cell 6; rw [hr] at x6) | (go_at_call 114; refine (sempty_ H.out).mono ?_; rintro e w8 ⟨rfl, h8⟩; replace H := Aside.mk h8; clear h8; have x6 : w8.cell? ⟨g, 6, none⟩ = some (.int .i64 _) := (H.out.pick 1 rfl).cell 6; rw [hr] at x6) | (with_reducible refine stop_at (.store 3 (.tmp 66) (.const (.int .i64 0))) rfl ?_))
    refine ⟨?_⟩
    refine st_store rfl rfl rfl [.int .i64 0] (Cl.cells q { x with at_ := 0, sw := none } (.pointer none)) rfl rfl rfl (Nat.le_of_ble_eq_true rfl) (by simp [Value.oneCell']) (H.out.pick 1 rfl) rfl ?_
    intro w9 h9
    have H9 := Aside.mk h9
    clear h9
    go_wp2
    go_end0
    exact ⟨lv1, rfl, .none_ rfl (by rw [hz5.out]; exact ((H9.out.pick 1 rfl).rest).order 5 [1, 2, 3, 4, 0] rfl rfl)⟩
  · obtain ⟨h9, hr, b1, rfl⟩ := HK
    have b9 : (y2.at_ == 8) = true := by simp [h9]
    clear h9
    go_enter Tryd.func126, Tryd.ntmps126
    go_wp2_with (first | (go_at_call 112; refine (HST.out s _ _ H.out).mono ?_; rintro e w5 ⟨lv1, rfl, h5⟩; obtain ⟨e1, e2, e3, e4, hz4⟩ := HP4 lv1; rw [hz4] at h5; replace H : Aside (St w0 w5 (e1 :: e2 :: e3 :: e4 :: swB s y2 :: clB g q x (swP s) :: F)) := Aside.mk h5; clear h5; have hz5 := Aside.mk hz4; clear hz4; have x15 : w5.cell? ⟨g, 15, none⟩ = some (swP s) := (H.out.pick 5 rfl).cell 15) | (with_reducible refine stop_at (.store 193 (.tmp 46) (.const (.pointer none))) rfl ?_))
    refine ⟨?_⟩
    refine st_store rfl rfl rfl [.pointer none] (Cl.cells q x (.pointer none)) rfl rfl rfl (Nat.le_of_ble_eq_true rfl) (by simp [Value.oneCell']) (H.out.pick 5 rfl) rfl ?_
    intro w6 h6
    replace H : Aside (St w0 w6 (swB s y2 :: clB g q x (.pointer none) :: e1 :: e2 :: e3 :: e4 :: F)) := Aside.mk (h6.pick 5 rfl)
    clear h6 x15 b9
    have x6 : w6.cell? ⟨g, 6, none⟩ = some (.int .i64 x.rd) := (H.out.pick 1 rfl).cell 6
    rw [hr] at x6
    go_wp2_with (first | (go_at_call 113; refine (sswept_ H.out).mono ?_; rintro e w7 ⟨rfl, h7⟩; replace H := Aside.mk h7; clear h7; have x6 : w7.cell? ⟨g, 6, none⟩ = some (.int .i64 _) := (H.out.pick 1 rfl).cell 6; rw [hr] at x6) | (go_at_call 114; refine (sempty_ H.out).mono ?_; rintro e w8 ⟨rfl, h8⟩; replace H := Aside.mk h8; clear h8; have x6 : w8.cell? ⟨g, 6, none⟩ = some (.int .i64 _) := (H.out.pick 1 rfl).cell 6; rw [hr] at x6) | (go_at_call 121; refine (HN.out _ _ (H.out.pick 1 rfl)).mono ?_; rintro e w9 ⟨rfl, h9⟩; have H9 := Aside.mk h9; clear h9))
    go_end0
    exact ⟨lv1, rfl, .none_ (next_sw _ _) (by rw [hz5.out]; exact ((H9.out.pick 1 rfl).rest).order 5 [1, 2, 3, 4, 0] rfl rfl)⟩
  · obtain ⟨h9, hr, b1, b2, rfl⟩ := HK
    have b9 : (y2.at_ == 8) = true := by simp [h9]
    clear h9
    go_enter Tryd.func126, Tryd.ntmps126
    go_wp2_with (first | (go_at_call 112; refine (HST.out s _ _ H.out).mono ?_; rintro e w5 ⟨lv1, rfl, h5⟩; obtain ⟨e1, e2, e3, e4, hz4⟩ := HP4 lv1; rw [hz4] at h5; replace H : Aside (St w0 w5 (e1 :: e2 :: e3 :: e4 :: swB s y2 :: clB g q x (swP s) :: F)) := Aside.mk h5; clear h5; have hz5 := Aside.mk hz4; clear hz4; have x15 : w5.cell? ⟨g, 15, none⟩ = some (swP s) := (H.out.pick 5 rfl).cell 15) | (with_reducible refine stop_at (.store 193 (.tmp 46) (.const (.pointer none))) rfl ?_))
    refine ⟨?_⟩
    refine st_store rfl rfl rfl [.pointer none] (Cl.cells q x (.pointer none)) rfl rfl rfl (Nat.le_of_ble_eq_true rfl) (by simp [Value.oneCell']) (H.out.pick 5 rfl) rfl ?_
    intro w6 h6
    replace H : Aside (St w0 w6 (swB s y2 :: clB g q x (.pointer none) :: e1 :: e2 :: e3 :: e4 :: F)) := Aside.mk (h6.pick 5 rfl)
    clear h6 x15 b9
    have x6 : w6.cell? ⟨g, 6, none⟩ = some (.int .i64 x.rd) := (H.out.pick 1 rfl).cell 6
    rw [hr] at x6
    go_wp2_with (first | (go_at_call 113; refine (sswept_ H.out).mono ?_; rintro e w7 ⟨rfl, h7⟩; replace H := Aside.mk h7; clear h7; have x6 : w7.cell? ⟨g, 6, none⟩ = some (.int .i64 _) := (H.out.pick 1 rfl).cell 6; rw [hr] at x6) | (go_at_call 114; refine (sempty_ H.out).mono ?_; rintro e w8 ⟨rfl, h8⟩; replace H := Aside.mk h8; clear h8; have x6 : w8.cell? ⟨g, 6, none⟩ = some (.int .i64 _) := (H.out.pick 1 rfl).cell 6; rw [hr] at x6) | (go_at_call 121; refine (HN.out _ _ (H.out.pick 1 rfl)).mono ?_; rintro e w9 ⟨rfl, h9⟩; have H9 := Aside.mk h9; clear h9))
    go_end0
    exact ⟨lv1, rfl, .none_ (next_sw _ _) (by rw [hz5.out]; exact ((H9.out.pick 1 rfl).rest).order 5 [1, 2, 3, 4, 0] rfl rfl)⟩
  · obtain ⟨h9, hr, b1, b2, rfl⟩ := HK
    have b9 : (y2.at_ == 8) = true := by simp [h9]
    clear h9
    go_enter Tryd.func126, Tryd.ntmps126
    go_wp2_with (first | (go_at_call 112; refine (HST.out s _ _ H.out).mono ?_; rintro e w5 ⟨lv1, rfl, h5⟩; obtain ⟨e1, e2, e3, e4, hz4⟩ := HP4 lv1; rw [hz4] at h5; replace H : Aside (St w0 w5 (e1 :: e2 :: e3 :: e4 :: swB s y2 :: clB g q x (swP s) :: F)) := Aside.mk h5; clear h5; have hz5 := Aside.mk hz4; clear hz4; have x15 : w5.cell? ⟨g, 15, none⟩ = some (swP s) := (H.out.pick 5 rfl).cell 15) | (with_reducible refine stop_at (.store 193 (.tmp 46) (.const (.pointer none))) rfl ?_))
    refine ⟨?_⟩
    refine st_store rfl rfl rfl [.pointer none] (Cl.cells q x (.pointer none)) rfl rfl rfl (Nat.le_of_ble_eq_true rfl) (by simp [Value.oneCell']) (H.out.pick 5 rfl) rfl ?_
    intro w6 h6
    replace H : Aside (St w0 w6 (swB s y2 :: clB g q x (.pointer none) :: e1 :: e2 :: e3 :: e4 :: F)) := Aside.mk (h6.pick 5 rfl)
    clear h6 x15 b9
    have x6 : w6.cell? ⟨g, 6, none⟩ = some (.int .i64 x.rd) := (H.out.pick 1 rfl).cell 6
    rw [hr] at x6
    go_wp2_with (first | (go_at_call 113; refine (sswept_ H.out).mono ?_; rintro e w7 ⟨rfl, h7⟩; replace H := Aside.mk h7; clear h7; have x6 : w7.cell? ⟨g, 6, none⟩ = some (.int .i64 _) := (H.out.pick 1 rfl).cell 6; rw [hr] at x6) | (go_at_call 114; refine (sempty_ H.out).mono ?_; rintro e w8 ⟨rfl, h8⟩; replace H := Aside.mk h8; clear h8; have x6 : w8.cell? ⟨g, 6, none⟩ = some (.int .i64 _) := (H.out.pick 1 rfl).cell 6; rw [hr] at x6) | (with_reducible refine stop_at (.store 3 (.tmp 79) (.const (.int .i64 5))) rfl ?_))
    refine ⟨?_⟩
    refine st_store rfl rfl rfl [.int .i64 5] (Cl.cells q { x with at_ := 5, sw := none } (.pointer none)) rfl rfl rfl (Nat.le_of_ble_eq_true rfl) (by simp [Value.oneCell']) (H.out.pick 1 rfl) rfl ?_
    intro w9 h9
    have H9 := Aside.mk h9
    clear h9
    go_wp2
    go_end0
    exact ⟨lv1, rfl, .none_ rfl (by rw [hz5.out]; exact ((H9.out.pick 1 rfl).rest).order 5 [1, 2, 3, 4, 0] rfl rfl)⟩
  · obtain ⟨h9, hr, b1, rfl⟩ := HK
    have b9 : (y2.at_ == 8) = true := by simp [h9]
    clear h9
    go_enter Tryd.func126, Tryd.ntmps126
    go_wp2_with (first | (go_at_call 112; refine (HST.out s _ _ H.out).mono ?_; rintro e w5 ⟨lv1, rfl, h5⟩; obtain ⟨e1, e2, e3, e4, hz4⟩ := HP4 lv1; rw [hz4] at h5; replace H : Aside (St w0 w5 (e1 :: e2 :: e3 :: e4 :: swB s y2 :: clB g q x (swP s) :: F)) := Aside.mk h5; clear h5; have hz5 := Aside.mk hz4; clear hz4; have x15 : w5.cell? ⟨g, 15, none⟩ = some (swP s) := (H.out.pick 5 rfl).cell 15) | (with_reducible refine stop_at (.store 193 (.tmp 46) (.const (.pointer none))) rfl ?_))
    refine ⟨?_⟩
    refine st_store rfl rfl rfl [.pointer none] (Cl.cells q x (.pointer none)) rfl rfl rfl (Nat.le_of_ble_eq_true rfl) (by simp [Value.oneCell']) (H.out.pick 5 rfl) rfl ?_
    intro w6 h6
    replace H : Aside (St w0 w6 (swB s y2 :: clB g q x (.pointer none) :: e1 :: e2 :: e3 :: e4 :: F)) := Aside.mk (h6.pick 5 rfl)
    clear h6 x15 b9
    have x6 : w6.cell? ⟨g, 6, none⟩ = some (.int .i64 x.rd) := (H.out.pick 1 rfl).cell 6
    rw [hr] at x6
    go_wp2_with (first | (go_at_call 113; refine (sswept_ H.out).mono ?_; rintro e w7 ⟨rfl, h7⟩; replace H := Aside.mk h7; clear h7; have x6 : w7.cell? ⟨g, 6, none⟩ = some (.int .i64 _) := (H.out.pick 1 rfl).cell 6; rw [hr] at x6) | (go_at_call 114; refine (sempty_ H.out).mono ?_; rintro e w8 ⟨rfl, h8⟩; replace H := Aside.mk h8; clear h8; have x6 : w8.cell? ⟨g, 6, none⟩ = some (.int .i64 _) := (H.out.pick 1 rfl).cell 6; rw [hr] at x6) | (go_at_call 121; refine (HN.out _ _ (H.out.pick 1 rfl)).mono ?_; rintro e w9 ⟨rfl, h9⟩; have H9 := Aside.mk h9; clear h9))
    go_end0
    exact ⟨lv1, rfl, .none_ (next_sw _ _) (by rw [hz5.out]; exact ((H9.out.pick 1 rfl).rest).order 5 [1, 2, 3, 4, 0] rfl rfl)⟩
  · obtain ⟨h9, hr, b1, b2, rfl⟩ := HK
    have b9 : (y2.at_ == 8) = true := by simp [h9]
    clear h9
    go_enter Tryd.func126, Tryd.ntmps126
    go_wp2_with (first | (go_at_call 112; refine (HST.out s _ _ H.out).mono ?_; rintro e w5 ⟨lv1, rfl, h5⟩; obtain ⟨e1, e2, e3, e4, hz4⟩ := HP4 lv1; rw [hz4] at h5; replace H : Aside (St w0 w5 (e1 :: e2 :: e3 :: e4 :: swB s y2 :: clB g q x (swP s) :: F)) := Aside.mk h5; clear h5; have hz5 := Aside.mk hz4; clear hz4; have x15 : w5.cell? ⟨g, 15, none⟩ = some (swP s) := (H.out.pick 5 rfl).cell 15) | (with_reducible refine stop_at (.store 193 (.tmp 46) (.const (.pointer none))) rfl ?_))
    refine ⟨?_⟩
    refine st_store rfl rfl rfl [.pointer none] (Cl.cells q x (.pointer none)) rfl rfl rfl (Nat.le_of_ble_eq_true rfl) (by simp [Value.oneCell']) (H.out.pick 5 rfl) rfl ?_
    intro w6 h6
    replace H : Aside (St w0 w6 (swB s y2 :: clB g q x (.pointer none) :: e1 :: e2 :: e3 :: e4 :: F)) := Aside.mk (h6.pick 5 rfl)
    clear h6 x15 b9
    have x6 : w6.cell? ⟨g, 6, none⟩ = some (.int .i64 x.rd) := (H.out.pick 1 rfl).cell 6
    rw [hr] at x6
    go_wp2_with (first | (go_at_call 113; refine (sswept_ H.out).mono ?_; rintro e w7 ⟨rfl, h7⟩; replace H := Aside.mk h7; clear h7; have x6 : w7.cell? ⟨g, 6, none⟩ = some (.int .i64 _) := (H.out.pick 1 rfl).cell 6; rw [hr] at x6) | (go_at_call 114; refine (sempty_ H.out).mono ?_; rintro e w8 ⟨rfl, h8⟩; replace H := Aside.mk h8; clear h8; have x6 : w8.cell? ⟨g, 6, none⟩ = some (.int .i64 _) := (H.out.pick 1 rfl).cell 6; rw [hr] at x6) | (go_at_call 121; refine (HN.out _ _ (H.out.pick 1 rfl)).mono ?_; rintro e w9 ⟨rfl, h9⟩; have H9 := Aside.mk h9; clear h9))
    go_end0
    exact ⟨lv1, rfl, .none_ (next_sw _ _) (by rw [hz5.out]; exact ((H9.out.pick 1 rfl).rest).order 5 [1, 2, 3, 4, 0] rfl rfl)⟩
theorem clclean_none (hq : q.Right) (hp : x.pg < q.P + 1) (hr : x.rd = 0 ∨ x.rd = 2) (hX : X.length = 128 + 64 * q.P) (hl : l.length ≤ 100000) (hc0 : 0 ≤ cn) (hc1 : cn ≤ 100000) (hsw : x.sw = none) {y : Sw} (hy : y = sw0 q.P q.T q.t q.cyc x.pg) (hpl : Pl q.P q.T x.pg y) (hgd : y.Good q.P x.pg) (h8 : y.at_ ≠ 8) (hv : u64 (X.getD (y.acc q.P q.T x.pg).2.1 0))
    (h : St w0 w (Are p a gC who true X lv l cn fl ++ clB g q x (.pointer none) :: F)) :
    Calls Tryd.prog 126 #[clP g, .pointer (some ⟨p, 0, none⟩)] w fun e w' => ∃ lv1, e = .returned (.tuple #[]) ∧ ClSt w0 w' (Are p a gC who false (upd X (y.acc q.P q.T x.pg)) lv1 (l ++ [⟨who, (y.acc q.P q.T x.pg).1, (y.acc q.P q.T x.pg).2.1, (y.acc q.P q.T x.pg).2.2.1, (y.acc q.P q.T x.pg).2.2.2, X.getD (y.acc q.P q.T x.pg).2.1 0, leftOf (y.acc q.P q.T x.pg).1 (X.getD (y.acc q.P q.T x.pg).2.1 0) (y.acc q.P q.T x.pg).2.2.1 (y.acc q.P q.T x.pg).2.2.2⟩]) (cn + 1) fl) g q (x.swept q (y.aft (X.getD (y.acc q.P q.T x.pg).2.1 0))) F := by
  have hstep := fun (s : Nat) (F' : List HP) (w : World) (h : St w0 w (Are p a gC who true X lv l cn fl ++ swB s y :: F')) => step_ hpl hgd h8 hX hl hc0 hc1 hv h
  obtain ⟨Z, hZ⟩ : ∃ Z : Value → List HP, ∀ lv1, Z lv1 = Are p a gC who false (upd X (y.acc q.P q.T x.pg)) lv1 (l ++ [⟨who, (y.acc q.P q.T x.pg).1, (y.acc q.P q.T x.pg).2.1, (y.acc q.P q.T x.pg).2.2.1, (y.acc q.P q.T x.pg).2.2.2, X.getD (y.acc q.P q.T x.pg).2.1 0, leftOf (y.acc q.P q.T x.pg).1 (X.getD (y.acc q.P q.T x.pg).2.1 0) (y.acc q.P q.T x.pg).2.2.1 (y.acc q.P q.T x.pg).2.2.2⟩]) (cn + 1) fl := ⟨_, fun _ => rfl⟩
  have HP4 : ∀ lv1, ∃ e1 e2 e3 e4, Z lv1 = [e1, e2, e3, e4] := fun lv1 => ⟨_, _, _, _, hZ lv1⟩
  simp only [← hZ] at hstep ⊢
  obtain ⟨y2, hy2⟩ : ∃ y2, y2 = y.aft (X.getD (y.acc q.P q.T x.pg).2.1 0) := ⟨_, rfl⟩
  rw [← hy2] at hstep ⊢
  have HST := Aside.mk hstep
  have HPG := Aside.mk hp
  have HP5 := Aside.mk hq.hP
  have HR := Aside.mk hr
  have HN := Aside.mk (fun (F' : List HP) (w1 : World) (h1 : St w0 w1 (clB g q x (.pointer none) :: F')) => clnext_ HPG.out HP5.out (by rcases HR.out with h | h <;> simp [h]) h1)
  obtain ⟨z, hz⟩ : ∃ z, z = x.swept q y2 := ⟨_, rfl⟩
  have key : (y2.at_ ≠ 8 ∧ z = { x with sw := some y2 }) ∨ (y2.at_ = 8 ∧ x.rd = 0 ∧ y2.swept = true ∧ y2.empty = false ∧ z = { x with at_ := 0, sw := none }) ∨ (y2.at_ = 8 ∧ x.rd = 0 ∧ y2.swept = false ∧ z = x.next q) ∨ (y2.at_ = 8 ∧ x.rd = 0 ∧ y2.swept = true ∧ y2.empty = true ∧ z = x.next q) ∨
      (y2.at_ = 8 ∧ x.rd = 2 ∧ y2.swept = true ∧ y2.empty = true ∧ z = { x with at_ := 5, sw := none }) ∨ (y2.at_ = 8 ∧ x.rd = 2 ∧ y2.swept = false ∧ z = x.next q) ∨ (y2.at_ = 8 ∧ x.rd = 2 ∧ y2.swept = true ∧ y2.empty = false ∧ z = x.next q) := by
    rw [hz]
    unfold Cl.swept
    by_cases h9 : y2.at_ = 8
    · rw [if_pos h9]
      rcases hr with hr | hr <;> cases h1 : y2.swept <;> cases h2 : y2.empty <;> simp [h9, hr]
    · rw [if_neg h9]
      exact .inl ⟨h9, rfl⟩
  rw [← hz]
  have HK := Aside.mk key
  clear key hz
  have HNS := Aside.mk (fun (F' : List HP) (w : World) (h : St w0 w F') => newsweep_yes hq.hP hq.hT (who := q.t) (cyc := q.cyc) (page := (x.pg : Int)) (by omega) (by omega) (.inl hq.ht) hq.hy h)
  rw [← hy] at HNS
  have H := Aside.mk h
  have x15 : w.cell? ⟨g, 15, none⟩ = some (.pointer none) := (H.out.pick 4 rfl).cell 15
  clear h hstep hpl hgd h8 hX hl hc0 hc1 hv hp hr hZ hy2 hq hy
  rcases HK.out with HK | HK | HK | HK | HK | HK | HK
  · obtain ⟨h9, rfl⟩ := HK
    have b9 : (y2.at_ == 8) = false := by simpa using h9
    clear h9
    go_enter Tryd.func126, Tryd.ntmps126
    go_wp2_with fail
    replace H := Aside.mk H.out.drew
    clear x15
    refine start_ (n := 24) (S := fun w' => w'.cell? ⟨g, 0, none⟩ = some (.int .i64 ((q.P : Int) + 1)) ∧ w'.cell? ⟨g, 1, none⟩ = some (.int .i64 ((q.T : Int) + 1)) ∧ w'.cell? ⟨g, 2, none⟩ = some (.int .i64 1) ∧ w'.cell? ⟨g, 3, none⟩ = some (.int .i64 q.t) ∧ w'.cell? ⟨g, 4, none⟩ = some (.int .i64 q.cyc) ∧ w'.cell? ⟨g, 8, none⟩ = some (.int .i64 (x.pg : Int))) (ds := [23]) (flg 24 0) (by kernel_rfl) rfl rfl (⟨(H.out.pick 4 rfl).cell 0, (H.out.pick 4 rfl).cell 1, (H.out.pick 4 rfl).cell 2, (H.out.pick 4 rfl).cell 3, (H.out.pick 4 rfl).cell 4, (H.out.pick 4 rfl).cell 8⟩) (fun hHeld => ?_)
    refine with_tabW cln.tab1 cln.bits1 (fun HT_ HW_ => ?_)
    refine pu_ (v := ?_) (a' := ?_) 0 (some 11) 1 rfl rfl HT_ (by kernel_rfl) (.inl ⟨by rfl, ?_⟩) ?_ ?_; rotate_left 2; (· intro w'; go_simp; with_reducible rfl); (· simp only [nrm]; rfl)
    refine pu_ (v := ?_) (a' := ?_) 1 (some 12) 3 rfl rfl HT_ (by kernel_rfl) (.inl ⟨by rfl, ?_⟩) ?_ ?_; rotate_left 2; (· intro w'; go_simp; with_reducible rfl); (· simp only [nrm]; rfl)
    refine pu_ (v := ?_) (a' := ?_) 2 (some 13) 7 rfl rfl HT_ (by kernel_rfl) (.inl ⟨by rfl, ?_⟩) ?_ ?_; rotate_left 2; (· intro w'; go_simp; with_reducible rfl); (· simp only [nrm]; rfl)
    refine pu_ (v := ?_) (a' := ?_) 3 (some 14) 15 rfl rfl HT_ (by kernel_rfl) (.inl ⟨by rfl, ?_⟩) ?_ ?_; rotate_left 2; (· intro w'; go_simp; with_reducible rfl); (· simp only [nrm]; rfl)
    refine tk_ (v := ?_) (a' := ?_) 4 (some 15) 31 rfl rfl HT_ HW_ (by kernel_rfl) (.inl ⟨by rfl, ?_⟩) hHeld ?_ ?_; rotate_left 2; (· rintro w' ⟨_, _, _, _, _, _⟩; go_simp; with_reducible rfl); (· simp only [nrm]; rfl)
    refine pu_ (v := ?_) (a' := ?_) 5 (some 16) 63 rfl rfl HT_ (by kernel_rfl) (.inl ⟨by rfl, ?_⟩) ?_ ?_; rotate_left 2; (· intro w'; go_simp; with_reducible rfl); (· simp only [nrm]; rfl)
    refine pu_ (v := ?_) (a' := ?_) 6 (some 17) 127 rfl rfl HT_ (by kernel_rfl) (.inl ⟨by rfl, ?_⟩) ?_ ?_; rotate_left 2; (· intro w'; go_simp; with_reducible rfl); (· simp only [nrm]; rfl)
    refine pu_ (v := ?_) (a' := ?_) 7 (some 18) 255 rfl rfl HT_ (by kernel_rfl) (.inl ⟨by rfl, ?_⟩) ?_ ?_; rotate_left 2; (· intro w'; go_simp; with_reducible rfl); (· simp only [nrm]; rfl)
    refine tk_ (v := ?_) (a' := ?_) 8 (some 19) 511 rfl rfl HT_ HW_ (by kernel_rfl) (.inl ⟨by rfl, ?_⟩) hHeld ?_ ?_; rotate_left 2; (· rintro w' ⟨_, _, _, _, _, _⟩; go_simp; with_reducible rfl); (· simp only [nrm]; rfl)
    refine pu_ (v := ?_) (a' := ?_) 9 (some 20) 1023 rfl rfl HT_ (by kernel_rfl) (.inl ⟨by rfl, ?_⟩) ?_ ?_; rotate_left 2; (· intro w'; go_simp; with_reducible rfl); (· simp only [nrm]; rfl)
    refine pu_ (v := ?_) (a' := ?_) 10 (some 21) 2047 rfl rfl HT_ (by kernel_rfl) (.inl ⟨by rfl, ?_⟩) ?_ ?_; rotate_left 2; (· intro w'; go_simp; with_reducible rfl); (· simp only [nrm]; rfl)
    refine pu_ (v := ?_) (a' := ?_) 11 (some 22) 4095 rfl rfl HT_ (by kernel_rfl) (.inl ⟨by rfl, ?_⟩) ?_ ?_; rotate_left 2; (· intro w'; go_simp; with_reducible rfl); (· simp only [nrm]; rfl)
    refine tk_ (v := ?_) (a' := ?_) 12 (some 23) 8191 rfl rfl HT_ HW_ (by kernel_rfl) (.inl ⟨by rfl, ?_⟩) hHeld ?_ ?_; rotate_left 2; (· rintro w' ⟨_, _, _, _, _, _⟩; go_simp; with_reducible rfl); (· simp only [nrm]; rfl)
    refine pu_ (v := ?_) (a' := ?_) 13 (some 24) 16383 rfl rfl HT_ (by kernel_rfl) (.inl ⟨by rfl, ?_⟩) ?_ ?_; rotate_left 2; (· intro w'; go_simp; with_reducible rfl); (· simp only [nrm]; rfl)
    refine pu_ (v := ?_) (a' := ?_) 14 (some 25) 32767 rfl rfl HT_ (by kernel_rfl) (.inl ⟨by rfl, ?_⟩) ?_ ?_; rotate_left 2; (· intro w'; go_simp; with_reducible rfl); (· simp only [nrm]; rfl)
    refine pu_ (v := ?_) (a' := ?_) 15 (some 26) 65535 rfl rfl HT_ (by kernel_rfl) (.inl ⟨by rfl, ?_⟩) ?_ ?_; rotate_left 2; (· intro w'; go_simp; with_reducible rfl); (· simp only [nrm]; rfl)
    refine tk_ (v := ?_) (a' := ?_) 16 (some 27) 131071 rfl rfl HT_ HW_ (by kernel_rfl) (.inl ⟨by rfl, ?_⟩) hHeld ?_ ?_; rotate_left 2; (· rintro w' ⟨_, _, _, _, _, _⟩; go_simp; with_reducible rfl); (· simp only [nrm]; rfl)
    refine on_ 17 (some 28) 262143 rfl rfl HT_ (by kernel_rfl) (by decide) (fun K hK => ?_)
    refine goes_ Tryd.func110 (by kernel_rfl) rfl #[.agg #[.int .i64 ((q.P : Int) + 1), .int .i64 ((q.T : Int) + 1), .int .i64 1], .int .i64 q.t, .int .i64 q.cyc, .int .i64 (x.pg : Int)] (by rfl) rfl rfl (by (try simp only [List.map_toArray, List.map_cons, List.map_nil]); first | done | rfl) ?_
    refine (HNS.out _ _ H.out).mono ?_
    rintro e w2 ⟨s, rfl, h2⟩
    replace H : Aside (St w0 w2 (swB s y :: (Are p a gC who true X lv l cn fl ++ clB g q x (.pointer none) :: F))) := Aside.mk h2
    clear h2
    refine ⟨_, rfl, ?_⟩
    refine hK.out _ _ ⟨(H.out.pick 5 rfl).cell 0, (H.out.pick 5 rfl).cell 1, (H.out.pick 5 rfl).cell 2, (H.out.pick 5 rfl).cell 3, (H.out.pick 5 rfl).cell 4, (H.out.pick 5 rfl).cell 8⟩ (fun hHeld => ?_)
    clear hK K
    refine norm_ (a' := ?_) ?_ ?_
    rotate_left
    · show Act.put _ (some 28) _ = _
      simp only [nrm]
      rfl
    refine pu_ (v := ?_) (a' := ?_) 18 (some 10) 524287 rfl rfl HT_ (by kernel_rfl) (.inl ⟨by rfl, ?_⟩) ?_ ?_; rotate_left 2; (· intro w'; go_simp; with_reducible rfl); (· simp only [nrm]; rfl)
    refine pu_ (v := ?_) (a' := ?_) 19 (some 29) 1048575 rfl rfl HT_ (by kernel_rfl) (.inl ⟨by rfl, ?_⟩) ?_ ?_; rotate_left 2; (· intro w'; go_simp; with_reducible rfl); (· simp only [nrm]; rfl)
    refine pu_ (v := ?_) (a' := ?_) 20 (some 30) 2097151 rfl rfl HT_ (by kernel_rfl) (.inl ⟨by rfl, ?_⟩) ?_ ?_; rotate_left 2; (· intro w'; go_simp; with_reducible rfl); (· simp only [nrm]; rfl)
    refine pu_ (v := ?_) (a' := ?_) 21 (some 31) 4194303 rfl rfl HT_ (by kernel_rfl) (.inl ⟨by rfl, ?_⟩) ?_ ?_; rotate_left 2; (· intro w'; go_simp; with_reducible rfl); (· simp only [nrm]; rfl)
    refine pu_ (v := ?_) (a' := ?_) 22 (some 32) 8388607 rfl rfl HT_ (by kernel_rfl) (.inl ⟨by rfl, ?_⟩) ?_ ?_; rotate_left 2; (· intro w'; go_simp; with_reducible rfl); (· simp only [nrm]; rfl)
    refine last_ (i := 23) (N := none) (flg 24 16777215) rfl rfl (one_of HT_.out (by kernel_rfl)) (by decide) (fun K hK => ?_)
    have k1 := (H.out.pick 5 rfl).cell 15
    have kf := (H.out.pick 5 rfl).frozen 15
    refine skip_ (w1 := ?_) (by rfl) rfl ?_ ?_
    rotate_left
    · go_simp
      rfl
    have h3 := (H.out.pick 5 rfl).put 15 (swP s) rfl
    clear k1 kf
    refine hK.out _ _ ?_
    clear hK K hHeld
    generalize World.setCell _ _ _ = w3 at h3 ⊢
    refine done_ (done_of HT_.out (by kernel_rfl)) ?_
    clear HT_ HW_
    replace H : Aside (St w0 w3 (Are p a gC who true X lv l cn fl ++ swB s y :: clB g q x (swP s) :: F)) := Aside.mk (h3.order 6 [2, 3, 4, 5, 1, 0] rfl rfl)
    clear h3
    have x15 : w3.cell? ⟨g, 15, none⟩ = some (swP s) := (H.out.pick 5 rfl).cell 15
    go_wp2_with (go_at_call 112; refine (HST.out s _ _ H.out).mono ?_; rintro e w5 ⟨lv1, rfl, h5⟩; obtain ⟨e1, e2, e3, e4, hz4⟩ := HP4 lv1; rw [hz4] at h5; replace H : Aside (St w0 w5 (e1 :: e2 :: e3 :: e4 :: swB s y2 :: clB g q x (swP s) :: F)) := Aside.mk h5; clear h5; have hz5 := Aside.mk hz4; clear hz4; have x15 : w5.cell? ⟨g, 15, none⟩ = some (swP s) := (H.out.pick 5 rfl).cell 15)
    refine bodyPost_ret (results_none rfl _ _ _) rfl ?_
    exact ⟨lv1, rfl, .some_ (y := y2) rfl (s := s) (by rw [hz5.out]; exact H.out.order 6 [0, 1, 2, 3, 5, 4] rfl rfl)⟩
  · obtain ⟨h9, hr, b1, b2, rfl⟩ := HK
    have b9 : (y2.at_ == 8) = true := by simp [h9]
    clear h9
    go_enter Tryd.func126, Tryd.ntmps126
    go_wp2_with fail
    replace H := Aside.mk H.out.drew
    clear x15
    refine start_ (n := 24) (S := fun w' => w'.cell? ⟨g, 0, none⟩ = some (.int .i64 ((q.P : Int) + 1)) ∧ w'.cell? ⟨g, 1, none⟩ = some (.int .i64 ((q.T : Int) + 1)) ∧ w'.cell? ⟨g, 2, none⟩ = some (.int .i64 1) ∧ w'.cell? ⟨g, 3, none⟩ = some (.int .i64 q.t) ∧ w'.cell? ⟨g, 4, none⟩ = some (.int .i64 q.cyc) ∧ w'.cell? ⟨g, 8, none⟩ = some (.int .i64 (x.pg : Int))) (ds := [23]) (flg 24 0) (by kernel_rfl) rfl rfl (⟨(H.out.pick 4 rfl).cell 0, (H.out.pick 4 rfl).cell 1, (H.out.pick 4 rfl).cell 2, (H.out.pick 4 rfl).cell 3, (H.out.pick 4 rfl).cell 4, (H.out.pick 4 rfl).cell 8⟩) (fun hHeld => ?_)
    refine with_tabW cln.tab1 cln.bits1 (fun HT_ HW_ => ?_)
    refine pu_ (v := ?_) (a' := ?_) 0 (some 11) 1 rfl rfl HT_ (by kernel_rfl) (.inl ⟨by rfl, ?_⟩) ?_ ?_; rotate_left 2; (· intro w'; go_simp; with_reducible rfl); (· simp only [nrm]; rfl)
    refine pu_ (v := ?_) (a' := ?_) 1 (some 12) 3 rfl rfl HT_ (by kernel_rfl) (.inl ⟨by rfl, ?_⟩) ?_ ?_; rotate_left 2; (· intro w'; go_simp; with_reducible rfl); (· simp only [nrm]; rfl)
    refine pu_ (v := ?_) (a' := ?_) 2 (some 13) 7 rfl rfl HT_ (by kernel_rfl) (.inl ⟨by rfl, ?_⟩) ?_ ?_; rotate_left 2; (· intro w'; go_simp; with_reducible rfl); (· simp only [nrm]; rfl)
    refine pu_ (v := ?_) (a' := ?_) 3 (some 14) 15 rfl rfl HT_ (by kernel_rfl) (.inl ⟨by rfl, ?_⟩) ?_ ?_; rotate_left 2; (· intro w'; go_simp; with_reducible rfl); (· simp only [nrm]; rfl)
    refine tk_ (v := ?_) (a' := ?_) 4 (some 15) 31 rfl rfl HT_ HW_ (by kernel_rfl) (.inl ⟨by rfl, ?_⟩) hHeld ?_ ?_; rotate_left 2; (· rintro w' ⟨_, _, _, _, _, _⟩; go_simp; with_reducible rfl); (· simp only [nrm]; rfl)
    refine pu_ (v := ?_) (a' := ?_) 5 (some 16) 63 rfl rfl HT_ (by kernel_rfl) (.inl ⟨by rfl, ?_⟩) ?_ ?_; rotate_left 2; (· intro w'; go_simp; with_reducible rfl); (· simp only [nrm]; rfl)
    refine pu_ (v := ?_) (a' := ?_) 6 (some 17) 127 rfl rfl HT_ (by kernel_rfl) (.inl ⟨by rfl, ?_⟩) ?_ ?_; rotate_left 2; (· intro w'; go_simp; with_reducible rfl); (· simp only [nrm]; rfl)
    refine pu_ (v := ?_) (a' := ?_) 7 (some 18) 255 rfl rfl HT_ (by kernel_rfl) (.inl ⟨by rfl, ?_⟩) ?_ ?_; rotate_left 2; (· intro w'; go_simp; with_reducible rfl); (· simp only [nrm]; rfl)
    refine tk_ (v := ?_) (a' := ?_) 8 (some 19) 511 rfl rfl HT_ HW_ (by kernel_rfl) (.inl ⟨by rfl, ?_⟩) hHeld ?_ ?_; rotate_left 2; (· rintro w' ⟨_, _, _, _, _, _⟩; go_simp; with_reducible rfl); (· simp only [nrm]; rfl)
    refine pu_ (v := ?_) (a' := ?_) 9 (some 20) 1023 rfl rfl HT_ (by kernel_rfl) (.inl ⟨by rfl, ?_⟩) ?_ ?_; rotate_left 2; (· intro w'; go_simp; with_reducible rfl); (· simp only [nrm]; rfl)
    refine pu_ (v := ?_) (a' := ?_) 10 (some 21) 2047 rfl rfl HT_ (by kernel_rfl) (.inl ⟨by rfl, ?_⟩) ?_ ?_; rotate_left 2; (· intro w'; go_simp; with_reducible rfl); (· simp only [nrm]; rfl)
    refine pu_ (v := ?_) (a' := ?_) 11 (some 22) 4095 rfl rfl HT_ (by kernel_rfl) (.inl ⟨by rfl, ?_⟩) ?_ ?_; rotate_left 2; (· intro w'; go_simp; with_reducible rfl); (· simp only [nrm]; rfl)
    refine tk_ (v := ?_) (a' := ?_) 12 (some 23) 8191 rfl rfl HT_ HW_ (by kernel_rfl) (.inl ⟨by rfl, ?_⟩) hHeld ?_ ?_; rotate_left 2; (· rintro w' ⟨_, _, _, _, _, _⟩; go_simp; with_reducible rfl); (· simp only [nrm]; rfl)
    refine pu_ (v := ?_) (a' := ?_) 13 (some 24) 16383 rfl rfl HT_ (by kernel_rfl) (.inl ⟨by rfl, ?_⟩) ?_ ?_; rotate_left 2; (· intro w'; go_simp; with_reducible rfl); (· simp only [nrm]; rfl)
    refine pu_ (v := ?_) (a' := ?_) 14 (some 25) 32767 rfl rfl HT_ (by kernel_rfl) (.inl ⟨by rfl, ?_⟩) ?_ ?_; rotate_left 2; (· intro w'; go_simp; with_reducible rfl); (· simp only [nrm]; rfl)
    refine pu_ (v := ?_) (a' := ?_) 15 (some 26) 65535 rfl rfl HT_ (by kernel_rfl) (.inl ⟨by rfl, ?_⟩) ?_ ?_; rotate_left 2; (· intro w'; go_simp; with_reducible rfl); (· simp only [nrm]; rfl)
    refine tk_ (v := ?_) (a' := ?_) 16 (some 27) 131071 rfl rfl HT_ HW_ (by kernel_rfl) (.inl ⟨by rfl, ?_⟩) hHeld ?_ ?_; rotate_left 2; (· rintro w' ⟨_, _, _, _, _, _⟩; go_simp; with_reducible rfl); (· simp only [nrm]; rfl)
    refine on_ 17 (some 28) 262143 rfl rfl HT_ (by kernel_rfl) (by decide) (fun K hK => ?_)
    refine goes_ Tryd.func110 (by kernel_rfl) rfl #[.agg #[.int .i64 ((q.P : Int) + 1), .int .i64 ((q.T : Int) + 1), .int .i64 1], .int .i64 q.t, .int .i64 q.cyc, .int .i64 (x.pg : Int)] (by rfl) rfl rfl (by (try simp only [List.map_toArray, List.map_cons, List.map_nil]); first | done | rfl) ?_
    refine (HNS.out _ _ H.out).mono ?_
    rintro e w2 ⟨s, rfl, h2⟩
    replace H : Aside (St w0 w2 (swB s y :: (Are p a gC who true X lv l cn fl ++ clB g q x (.pointer none) :: F))) := Aside.mk h2
    clear h2
    refine ⟨_, rfl, ?_⟩
    refine hK.out _ _ ⟨(H.out.pick 5 rfl).cell 0, (H.out.pick 5 rfl).cell 1, (H.out.pick 5 rfl).cell 2, (H.out.pick 5 rfl).cell 3, (H.out.pick 5 rfl).cell 4, (H.out.pick 5 rfl).cell 8⟩ (fun hHeld => ?_)
    clear hK K
    refine norm_ (a' := ?_) ?_ ?_
    rotate_left
    · show Act.put _ (some 28) _ = _
      simp only [nrm]
      rfl
    refine pu_ (v := ?_) (a' := ?_) 18 (some 10) 524287 rfl rfl HT_ (by kernel_rfl) (.inl ⟨by rfl, ?_⟩) ?_ ?_; rotate_left 2; (· intro w'; go_simp; with_reducible rfl); (· simp only [nrm]; rfl)
    refine pu_ (v := ?_) (a' := ?_) 19 (some 29) 1048575 rfl rfl HT_ (by kernel_rfl) (.inl ⟨by rfl, ?_⟩) ?_ ?_; rotate_left 2; (· intro w'; go_simp; with_reducible rfl); (· simp only [nrm]; rfl)
    refine pu_ (v := ?_) (a' := ?_) 20 (some 30) 2097151 rfl rfl HT_ (by kernel_rfl) (.inl ⟨by rfl, ?_⟩) ?_ ?_; rotate_left 2; (· intro w'; go_simp; with_reducible rfl); (· simp only [nrm]; rfl)
    refine pu_ (v := ?_) (a' := ?_) 21 (some 31) 4194303 rfl rfl HT_ (by kernel_rfl) (.inl ⟨by rfl, ?_⟩) ?_ ?_; rotate_left 2; (· intro w'; go_simp; with_reducible rfl); (· simp only [nrm]; rfl)
    refine pu_ (v := ?_) (a' := ?_) 22 (some 32) 8388607 rfl rfl HT_ (by kernel_rfl) (.inl ⟨by rfl, ?_⟩) ?_ ?_; rotate_left 2; (· intro w'; go_simp; with_reducible rfl); (· simp only [nrm]; rfl)
    refine last_ (i := 23) (N := none) (flg 24 16777215) rfl rfl (one_of HT_.out (by kernel_rfl)) (by decide) (fun K hK => ?_)
    have k1 := (H.out.pick 5 rfl).cell 15
    have kf := (H.out.pick 5 rfl).frozen 15
    refine skip_ (w1 := ?_) (by rfl) rfl ?_ ?_
    rotate_left
    · go_simp
      rfl
    have h3 := (H.out.pick 5 rfl).put 15 (swP s) rfl
    clear k1 kf
    refine hK.out _ _ ?_
    clear hK K hHeld
    generalize World.setCell _ _ _ = w3 at h3 ⊢
    refine done_ (done_of HT_.out (by kernel_rfl)) ?_
    clear HT_ HW_
    replace H : Aside (St w0 w3 (Are p a gC who true X lv l cn fl ++ swB s y :: clB g q x (swP s) :: F)) := Aside.mk (h3.order 6 [2, 3, 4, 5, 1, 0] rfl rfl)
    clear h3
    have x15 : w3.cell? ⟨g, 15, none⟩ = some (swP s) := (H.out.pick 5 rfl).cell 15
    go_wp2_with (first | (go_at_call 112; refine (HST.out s _ _ H.out).mono ?_; rintro e w5 ⟨lv1, rfl, h5⟩; obtain ⟨e1, e2, e3, e4, hz4⟩ := HP4 lv1; rw [hz4] at h5; replace H : Aside (St w0 w5 (e1 :: e2 :: e3 :: e4 :: swB s y2 :: clB g q x (swP s) :: F)) := Aside.mk h5; clear h5; have hz5 := Aside.mk hz4; clear hz4; have x15 : w5.cell? ⟨g, 15, none⟩ = some (swP s) := (H.out.pick 5 rfl).cell 15) | (with_reducible refine stop_at (.store 193 (.tmp 46) (.const (.pointer none))) rfl ?_))
    refine ⟨?_⟩
    refine st_store rfl rfl rfl [.pointer none] (Cl.cells q x (.pointer none)) rfl rfl rfl (Nat.le_of_ble_eq_true rfl) (by simp [Value.oneCell']) (H.out.pick 5 rfl) rfl ?_
    intro w6 h6
    replace H : Aside (St w0 w6 (swB s y2 :: clB g q x (.pointer none) :: e1 :: e2 :: e3 :: e4 :: F)) := Aside.mk (h6.pick 5 rfl)
    clear h6 x15 b9
    have x6 : w6.cell? ⟨g, 6, none⟩ = some (.int .i64 x.rd) := (H.out.pick 1 rfl).cell 6
    rw [hr] at x6
    go_wp2_with (first | (go_at_call 113; refine (sswept_ H.out).mono ?_; rintro e w7 ⟨rfl, h7⟩; replace H := Aside.mk h7; clear h7; have x6 : w7.cell? ⟨g, 6, none⟩ = some (.int .i64 _) := (H.out.pick 1 rfl).cell 6; rw [hr] at x6) | (go_at_call 114; refine (sempty_ H.out).mono ?_; rintro e w8 ⟨rfl, h8⟩; replace H := Aside.mk h8; clear h8; have x6 : w8.cell? ⟨g, 6, none⟩ = some (.int .i64 _) := (H.out.pick 1 rfl).cell 6; rw [hr] at x6) | (with_reducible refine stop_at (.store 3 (.tmp 66) (.const (.int .i64 0))) rfl ?_))
    refine ⟨?_⟩
    refine st_store rfl rfl rfl [.int .i64 0] (Cl.cells q { x with at_ := 0, sw := none } (.pointer none)) rfl rfl rfl (Nat.le_of_ble_eq_true rfl) (by simp [Value.oneCell']) (H.out.pick 1 rfl) rfl ?_
    intro w9 h9
    have H9 := Aside.mk h9
    clear h9
    go_wp2
    go_end0
    exact ⟨lv1, rfl, .none_ rfl (by rw [hz5.out]; exact ((H9.out.pick 1 rfl).rest).order 5 [1, 2, 3, 4, 0] rfl rfl)⟩
  · obtain ⟨h9, hr, b1, rfl⟩ := HK
    have b9 : (y2.at_ == 8) = true := by simp [h9]
    clear h9
    go_enter Tryd.func126, Tryd.ntmps126
    go_wp2_with fail
    replace H := Aside.mk H.out.drew
    clear x15
    refine start_ (n := 24) (S := fun w' => w'.cell? ⟨g, 0, none⟩ = some (.int .i64 ((q.P : Int) + 1)) ∧ w'.cell? ⟨g, 1, none⟩ = some (.int .i64 ((q.T : Int) + 1)) ∧ w'.cell? ⟨g, 2, none⟩ = some (.int .i64 1) ∧ w'.cell? ⟨g, 3, none⟩ = some (.int .i64 q.t) ∧ w'.cell? ⟨g, 4, none⟩ = some (.int .i64 q.cyc) ∧ w'.cell? ⟨g, 8, none⟩ = some (.int .i64 (x.pg : Int))) (ds := [23]) (flg 24 0) (by kernel_rfl) rfl rfl (⟨(H.out.pick 4 rfl).cell 0, (H.out.pick 4 rfl).cell 1, (H.out.pick 4 rfl).cell 2, (H.out.pick 4 rfl).cell 3, (H.out.pick 4 rfl).cell 4, (H.out.pick 4 rfl).cell 8⟩) (fun hHeld => ?_)
    refine with_tabW cln.tab1 cln.bits1 (fun HT_ HW_ => ?_)
    refine pu_ (v := ?_) (a' := ?_) 0 (some 11) 1 rfl rfl HT_ (by kernel_rfl) (.inl ⟨by rfl, ?_⟩) ?_ ?_; rotate_left 2; (· intro w'; go_simp; with_reducible rfl); (· simp only [nrm]; rfl)
    refine pu_ (v := ?_) (a' := ?_) 1 (some 12) 3 rfl rfl HT_ (by kernel_rfl) (.inl ⟨by rfl, ?_⟩) ?_ ?_; rotate_left 2; (· intro w'; go_simp; with_reducible rfl); (· simp only [nrm]; rfl)
    refine pu_ (v := ?_) (a' := ?_) 2 (some 13) 7 rfl rfl HT_ (by kernel_rfl) (.inl ⟨by rfl, ?_⟩) ?_ ?_; rotate_left 2; (· intro w'; go_simp; with_reducible rfl); (· simp only [nrm]; rfl)
    refine pu_ (v := ?_) (a' := ?_) 3 (some 14) 15 rfl rfl HT_ (by kernel_rfl) (.inl ⟨by rfl, ?_⟩) ?_ ?_; rotate_left 2; (· intro w'; go_simp; with_reducible rfl); (· simp only [nrm]; rfl)
    refine tk_ (v := ?_) (a' := ?_) 4 (some 15) 31 rfl rfl HT_ HW_ (by kernel_rfl) (.inl ⟨by rfl, ?_⟩) hHeld ?_ ?_; rotate_left 2; (· rintro w' ⟨_, _, _, _, _, _⟩; go_simp; with_reducible rfl); (· simp only [nrm]; rfl)
    refine pu_ (v := ?_) (a' := ?_) 5 (some 16) 63 rfl rfl HT_ (by kernel_rfl) (.inl ⟨by rfl, ?_⟩) ?_ ?_; rotate_left 2; (· intro w'; go_simp; with_reducible rfl); (· simp only [nrm]; rfl)
    refine pu_ (v := ?_) (a' := ?_) 6 (some 17) 127 rfl rfl HT_ (by kernel_rfl) (.inl ⟨by rfl, ?_⟩) ?_ ?_; rotate_left 2; (· intro w'; go_simp; with_reducible rfl); (· simp only [nrm]; rfl)
    refine pu_ (v := ?_) (a' := ?_) 7 (some 18) 255 rfl rfl HT_ (by kernel_rfl) (.inl ⟨by rfl, ?_⟩) ?_ ?_; rotate_left 2; (· intro w'; go_simp; with_reducible rfl); (· simp only [nrm]; rfl)
    refine tk_ (v := ?_) (a' := ?_) 8 (some 19) 511 rfl rfl HT_ HW_ (by kernel_rfl) (.inl ⟨by rfl, ?_⟩) hHeld ?_ ?_; rotate_left 2; (· rintro w' ⟨_, _, _, _, _, _⟩; go_simp; with_reducible rfl); (· simp only [nrm]; rfl)
    refine pu_ (v := ?_) (a' := ?_) 9 (some 20) 1023 rfl rfl HT_ (by kernel_rfl) (.inl ⟨by rfl, ?_⟩) ?_ ?_; rotate_left 2; (· intro w'; go_simp; with_reducible rfl); (· simp only [nrm]; rfl)
    refine pu_ (v := ?_) (a' := ?_) 10 (some 21) 2047 rfl rfl HT_ (by kernel_rfl) (.inl ⟨by rfl, ?_⟩) ?_ ?_; rotate_left 2; (· intro w'; go_simp; with_reducible rfl); (· simp only [nrm]; rfl)
    refine pu_ (v := ?_) (a' := ?_) 11 (some 22) 4095 rfl rfl HT_ (by kernel_rfl) (.inl ⟨by rfl, ?_⟩) ?_ ?_; rotate_left 2; (· intro w'; go_simp; with_reducible rfl); (· simp only [nrm]; rfl)
    refine tk_ (v := ?_) (a' := ?_) 12 (some 23) 8191 rfl rfl HT_ HW_ (by kernel_rfl) (.inl ⟨by rfl, ?_⟩) hHeld ?_ ?_; rotate_left 2; (· rintro w' ⟨_, _, _, _, _, _⟩; go_simp; with_reducible rfl); (· simp only [nrm]; rfl)
    refine pu_ (v := ?_) (a' := ?_) 13 (some 24) 16383 rfl rfl HT_ (by kernel_rfl) (.inl ⟨by rfl, ?_⟩) ?_ ?_; rotate_left 2; (· intro w'; go_simp; with_reducible rfl); (· simp only [nrm]; rfl)
    refine pu_ (v := ?_) (a' := ?_) 14 (some 25) 32767 rfl rfl HT_ (by kernel_rfl) (.inl ⟨by rfl, ?_⟩) ?_ ?_; rotate_left 2; (· intro w'; go_simp; with_reducible rfl); (· simp only [nrm]; rfl)
    refine pu_ (v := ?_) (a' := ?_) 15 (some 26) 65535 rfl rfl HT_ (by kernel_rfl) (.inl ⟨by rfl, ?_⟩) ?_ ?_; rotate_left 2; (· intro w'; go_simp; with_reducible rfl); (· simp only [nrm]; rfl)
    refine tk_ (v := ?_) (a' := ?_) 16 (some 27) 131071 rfl rfl HT_ HW_ (by kernel_rfl) (.inl ⟨by rfl, ?_⟩) hHeld ?_ ?_; rotate_left 2; (· rintro w' ⟨_, _, _, _, _, _⟩; go_simp; with_reducible rfl); (· simp only [nrm]; rfl)
    refine on_ 17 (some 28) 262143 rfl rfl HT_ (by kernel_rfl) (by decide) (fun K hK => ?_)
    refine goes_ Tryd.func110 (by kernel_rfl) rfl #[.agg #[.int .i64 ((q.P : Int) + 1), .int .i64 ((q.T : Int) + 1), .int .i64 1], .int .i64 q.t, .int .i64 q.cyc, .int .i64 (x.pg : Int)] (by rfl) rfl rfl (by (try simp only [List.map_toArray, List.map_cons, List.map_nil]); first | done | rfl) ?_
    refine (HNS.out _ _ H.out).mono ?_
    rintro e w2 ⟨s, rfl, h2⟩
    replace H : Aside (St w0 w2 (swB s y :: (Are p a gC who true X lv l cn fl ++ clB g q x (.pointer none) :: F))) := Aside.mk h2
    clear h2
    refine ⟨_, rfl, ?_⟩
    refine hK.out _ _ ⟨(H.out.pick 5 rfl).cell 0, (H.out.pick 5 rfl).cell 1, (H.out.pick 5 rfl).cell 2, (H.out.pick 5 rfl).cell 3, (H.out.pick 5 rfl).cell 4, (H.out.pick 5 rfl).cell 8⟩ (fun hHeld => ?_)
    clear hK K
    refine norm_ (a' := ?_) ?_ ?_
    rotate_left
    · show Act.put _ (some 28) _ = _
      simp only [nrm]
      rfl
    refine pu_ (v := ?_) (a' := ?_) 18 (some 10) 524287 rfl rfl HT_ (by kernel_rfl) (.inl ⟨by rfl, ?_⟩) ?_ ?_; rotate_left 2; (· intro w'; go_simp; with_reducible rfl); (· simp only [nrm]; rfl)
    refine pu_ (v := ?_) (a' := ?_) 19 (some 29) 1048575 rfl rfl HT_ (by kernel_rfl) (.inl ⟨by rfl, ?_⟩) ?_ ?_; rotate_left 2; (· intro w'; go_simp; with_reducible rfl); (· simp only [nrm]; rfl)
    refine pu_ (v := ?_) (a' := ?_) 20 (some 30) 2097151 rfl rfl HT_ (by kernel_rfl) (.inl ⟨by rfl, ?_⟩) ?_ ?_; rotate_left 2; (· intro w'; go_simp; with_reducible rfl); (· simp only [nrm]; rfl)
    refine pu_ (v := ?_) (a' := ?_) 21 (some 31) 4194303 rfl rfl HT_ (by kernel_rfl) (.inl ⟨by rfl, ?_⟩) ?_ ?_; rotate_left 2; (· intro w'; go_simp; with_reducible rfl); (· simp only [nrm]; rfl)
    refine pu_ (v := ?_) (a' := ?_) 22 (some 32) 8388607 rfl rfl HT_ (by kernel_rfl) (.inl ⟨by rfl, ?_⟩) ?_ ?_; rotate_left 2; (· intro w'; go_simp; with_reducible rfl); (· simp only [nrm]; rfl)
    refine last_ (i := 23) (N := none) (flg 24 16777215) rfl rfl (one_of HT_.out (by kernel_rfl)) (by decide) (fun K hK => ?_)
    have k1 := (H.out.pick 5 rfl).cell 15
    have kf := (H.out.pick 5 rfl).frozen 15
    refine skip_ (w1 := ?_) (by rfl) rfl ?_ ?_
    rotate_left
    · go_simp
      rfl
    have h3 := (H.out.pick 5 rfl).put 15 (swP s) rfl
    clear k1 kf
    refine hK.out _ _ ?_
    clear hK K hHeld
    generalize World.setCell _ _ _ = w3 at h3 ⊢
    refine done_ (done_of HT_.out (by kernel_rfl)) ?_
    clear HT_ HW_
    replace H : Aside (St w0 w3 (Are p a gC who true X lv l cn fl ++ swB s y :: clB g q x (swP s) :: F)) := Aside.mk (h3.order 6 [2, 3, 4, 5, 1, 0] rfl rfl)
    clear h3
    have x15 : w3.cell? ⟨g, 15, none⟩ = some (swP s) := (H.out.pick 5 rfl).cell 15
    go_wp2_with (first | (go_at_call 112; refine (HST.out s _ _ H.out).mono ?_; rintro e w5 ⟨lv1, rfl, h5⟩; obtain ⟨e1, e2, e3, e4, hz4⟩ := HP4 lv1; rw [hz4] at h5; replace H : Aside (St w0 w5 (e1 :: e2 :: e3 :: e4 :: swB s y2 :: clB g q x (swP s) :: F)) := Aside.mk h5; clear h5; have hz5 := Aside.mk hz4; clear hz4; have x15 : w5.cell? ⟨g, 15, none⟩ = some (swP s) := (H.out.pick 5 rfl).cell 15) | (with_reducible refine stop_at (.store 193 (.tmp 46) (.const (.pointer none))) rfl ?_))
    refine ⟨?_⟩
    refine st_store rfl rfl rfl [.pointer none] (Cl.cells q x (.pointer none)) rfl rfl rfl (Nat.le_of_ble_eq_true rfl) (by simp [Value.oneCell']) (H.out.pick 5 rfl) rfl ?_
    intro w6 h6
    replace H : Aside (St w0 w6 (swB s y2 :: clB g q x (.pointer none) :: e1 :: e2 :: e3 :: e4 :: F)) := Aside.mk (h6.pick 5 rfl)
    clear h6 x15 b9
    have x6 : w6.cell? ⟨g, 6, none⟩ = some (.int .i64 x.rd) := (H.out.pick 1 rfl).cell 6
    rw [hr] at x6
    go_wp2_with (first | (go_at_call 113; refine (sswept_ H.out).mono ?_; rintro e w7 ⟨rfl, h7⟩; replace H := Aside.mk h7; clear h7; have x6 : w7.cell? ⟨g, 6, none⟩ = some (.int .i64 _) := (H.out.pick 1 rfl).cell 6; rw [hr] at x6) | (go_at_call 114; refine (sempty_ H.out).mono ?_; rintro e w8 ⟨rfl, h8⟩; replace H := Aside.mk h8; clear h8; have x6 : w8.cell? ⟨g, 6, none⟩ = some (.int .i64 _) := (H.out.pick 1 rfl).cell 6; rw [hr] at x6) | (go_at_call 121; refine (HN.out _ _ (H.out.pick 1 rfl)).mono ?_; rintro e w9 ⟨rfl, h9⟩; have H9 := Aside.mk h9; clear h9))
    go_end0
    exact ⟨lv1, rfl, .none_ (next_sw _ _) (by rw [hz5.out]; exact ((H9.out.pick 1 rfl).rest).order 5 [1, 2, 3, 4, 0] rfl rfl)⟩
  · obtain ⟨h9, hr, b1, b2, rfl⟩ := HK
    have b9 : (y2.at_ == 8) = true := by simp [h9]
    clear h9
    go_enter Tryd.func126, Tryd.ntmps126
    go_wp2_with fail
    replace H := Aside.mk H.out.drew
    clear x15
    refine start_ (n := 24) (S := fun w' => w'.cell? ⟨g, 0, none⟩ = some (.int .i64 ((q.P : Int) + 1)) ∧ w'.cell? ⟨g, 1, none⟩ = some (.int .i64 ((q.T : Int) + 1)) ∧ w'.cell? ⟨g, 2, none⟩ = some (.int .i64 1) ∧ w'.cell? ⟨g, 3, none⟩ = some (.int .i64 q.t) ∧ w'.cell? ⟨g, 4, none⟩ = some (.int .i64 q.cyc) ∧ w'.cell? ⟨g, 8, none⟩ = some (.int .i64 (x.pg : Int))) (ds := [23]) (flg 24 0) (by kernel_rfl) rfl rfl (⟨(H.out.pick 4 rfl).cell 0, (H.out.pick 4 rfl).cell 1, (H.out.pick 4 rfl).cell 2, (H.out.pick 4 rfl).cell 3, (H.out.pick 4 rfl).cell 4, (H.out.pick 4 rfl).cell 8⟩) (fun hHeld => ?_)
    refine with_tabW cln.tab1 cln.bits1 (fun HT_ HW_ => ?_)
    refine pu_ (v := ?_) (a' := ?_) 0 (some 11) 1 rfl rfl HT_ (by kernel_rfl) (.inl ⟨by rfl, ?_⟩) ?_ ?_; rotate_left 2; (· intro w'; go_simp; with_reducible rfl); (· simp only [nrm]; rfl)
    refine pu_ (v := ?_) (a' := ?_) 1 (some 12) 3 rfl rfl HT_ (by kernel_rfl) (.inl ⟨by rfl, ?_⟩) ?_ ?_; rotate_left 2; (· intro w'; go_simp; with_reducible rfl); (· simp only [nrm]; rfl)
    refine pu_ (v := ?_) (a' := ?_) 2 (some 13) 7 rfl rfl HT_ (by kernel_rfl) (.inl ⟨by rfl, ?_⟩) ?_ ?_; rotate_left 2; (· intro w'; go_simp; with_reducible rfl); (· simp only [nrm]; rfl)
    refine pu_ (v := ?_) (a' := ?_) 3 (some 14) 15 rfl rfl HT_ (by kernel_rfl) (.inl ⟨by rfl, ?_⟩) ?_ ?_; rotate_left 2; (· intro w'; go_simp; with_reducible rfl); (· simp only [nrm]; rfl)
    refine tk_ (v := ?_) (a' := ?_) 4 (some 15) 31 rfl rfl HT_ HW_ (by kernel_rfl) (.inl ⟨by rfl, ?_⟩) hHeld ?_ ?_; rotate_left 2; (· rintro w' ⟨_, _, _, _, _, _⟩; go_simp; with_reducible rfl); (· simp only [nrm]; rfl)
    refine pu_ (v := ?_) (a' := ?_) 5 (some 16) 63 rfl rfl HT_ (by kernel_rfl) (.inl ⟨by rfl, ?_⟩) ?_ ?_; rotate_left 2; (· intro w'; go_simp; with_reducible rfl); (· simp only [nrm]; rfl)
    refine pu_ (v := ?_) (a' := ?_) 6 (some 17) 127 rfl rfl HT_ (by kernel_rfl) (.inl ⟨by rfl, ?_⟩) ?_ ?_; rotate_left 2; (· intro w'; go_simp; with_reducible rfl); (· simp only [nrm]; rfl)
    refine pu_ (v := ?_) (a' := ?_) 7 (some 18) 255 rfl rfl HT_ (by kernel_rfl) (.inl ⟨by rfl, ?_⟩) ?_ ?_; rotate_left 2; (· intro w'; go_simp; with_reducible rfl); (· simp only [nrm]; rfl)
    refine tk_ (v := ?_) (a' := ?_) 8 (some 19) 511 rfl rfl HT_ HW_ (by kernel_rfl) (.inl ⟨by rfl, ?_⟩) hHeld ?_ ?_; rotate_left 2; (· rintro w' ⟨_, _, _, _, _, _⟩; go_simp; with_reducible rfl); (· simp only [nrm]; rfl)
    refine pu_ (v := ?_) (a' := ?_) 9 (some 20) 1023 rfl rfl HT_ (by kernel_rfl) (.inl ⟨by rfl, ?_⟩) ?_ ?_; rotate_left 2; (· intro w'; go_simp; with_reducible rfl); (· simp only [nrm]; rfl)
    refine pu_ (v := ?_) (a' := ?_) 10 (some 21) 2047 rfl rfl HT_ (by kernel_rfl) (.inl ⟨by rfl, ?_⟩) ?_ ?_; rotate_left 2; (· intro w'; go_simp; with_reducible rfl); (· simp only [nrm]; rfl)
    refine pu_ (v := ?_) (a' := ?_) 11 (some 22) 4095 rfl rfl HT_ (by kernel_rfl) (.inl ⟨by rfl, ?_⟩) ?_ ?_; rotate_left 2; (· intro w'; go_simp; with_reducible rfl); (· simp only [nrm]; rfl)
    refine tk_ (v := ?_) (a' := ?_) 12 (some 23) 8191 rfl rfl HT_ HW_ (by kernel_rfl) (.inl ⟨by rfl, ?_⟩) hHeld ?_ ?_; rotate_left 2; (· rintro w' ⟨_, _, _, _, _, _⟩; go_simp; with_reducible rfl); (· simp only [nrm]; rfl)
    refine pu_ (v := ?_) (a' := ?_) 13 (some 24) 16383 rfl rfl HT_ (by kernel_rfl) (.inl ⟨by rfl, ?_⟩) ?_ ?_; rotate_left 2; (· intro w'; go_simp; with_reducible rfl); (· simp only [nrm]; rfl)
    refine pu_ (v := ?_) (a' := ?_) 14 (some 25) 32767 rfl rfl HT_ (by kernel_rfl) (.inl ⟨by rfl, ?_⟩) ?_ ?_; rotate_left 2; (· intro w'; go_simp; with_reducible rfl); (· simp only [nrm]; rfl)
    refine pu_ (v := ?_) (a' := ?_) 15 (some 26) 65535 rfl rfl HT_ (by kernel_rfl) (.inl ⟨by rfl, ?_⟩) ?_ ?_; rotate_left 2; (· intro w'; go_simp; with_reducible rfl); (· simp only [nrm]; rfl)
    refine tk_ (v := ?_) (a' := ?_) 16 (some 27) 131071 rfl rfl HT_ HW_ (by kernel_rfl) (.inl ⟨by rfl, ?_⟩) hHeld ?_ ?_; rotate_left 2; (· rintro w' ⟨_, _, _, _, _, _⟩; go_simp; with_reducible rfl); (· simp only [nrm]; rfl)
    refine on_ 17 (some 28) 262143 rfl rfl HT_ (by kernel_rfl) (by decide) (fun K hK => ?_)
    refine goes_ Tryd.func110 (by kernel_rfl) rfl #[.agg #[.int .i64 ((q.P : Int) + 1), .int .i64 ((q.T : Int) + 1), .int .i64 1], .int .i64 q.t, .int .i64 q.cyc, .int .i64 (x.pg : Int)] (by rfl) rfl rfl (by (try simp only [List.map_toArray, List.map_cons, List.map_nil]); first | done | rfl) ?_
    refine (HNS.out _ _ H.out).mono ?_
    rintro e w2 ⟨s, rfl, h2⟩
    replace H : Aside (St w0 w2 (swB s y :: (Are p a gC who true X lv l cn fl ++ clB g q x (.pointer none) :: F))) := Aside.mk h2
    clear h2
    refine ⟨_, rfl, ?_⟩
    refine hK.out _ _ ⟨(H.out.pick 5 rfl).cell 0, (H.out.pick 5 rfl).cell 1, (H.out.pick 5 rfl).cell 2, (H.out.pick 5 rfl).cell 3, (H.out.pick 5 rfl).cell 4, (H.out.pick 5 rfl).cell 8⟩ (fun hHeld => ?_)
    clear hK K
    refine norm_ (a' := ?_) ?_ ?_
    rotate_left
    · show Act.put _ (some 28) _ = _
      simp only [nrm]
      rfl
    refine pu_ (v := ?_) (a' := ?_) 18 (some 10) 524287 rfl rfl HT_ (by kernel_rfl) (.inl ⟨by rfl, ?_⟩) ?_ ?_; rotate_left 2; (· intro w'; go_simp; with_reducible rfl); (· simp only [nrm]; rfl)
    refine pu_ (v := ?_) (a' := ?_) 19 (some 29) 1048575 rfl rfl HT_ (by kernel_rfl) (.inl ⟨by rfl, ?_⟩) ?_ ?_; rotate_left 2; (· intro w'; go_simp; with_reducible rfl); (· simp only [nrm]; rfl)
    refine pu_ (v := ?_) (a' := ?_) 20 (some 30) 2097151 rfl rfl HT_ (by kernel_rfl) (.inl ⟨by rfl, ?_⟩) ?_ ?_; rotate_left 2; (· intro w'; go_simp; with_reducible rfl); (· simp only [nrm]; rfl)
    refine pu_ (v := ?_) (a' := ?_) 21 (some 31) 4194303 rfl rfl HT_ (by kernel_rfl) (.inl ⟨by rfl, ?_⟩) ?_ ?_; rotate_left 2; (· intro w'; go_simp; with_reducible rfl); (· simp only [nrm]; rfl)
    refine pu_ (v := ?_) (a' := ?_) 22 (some 32) 8388607 rfl rfl HT_ (by kernel_rfl) (.inl ⟨by rfl, ?_⟩) ?_ ?_; rotate_left 2; (· intro w'; go_simp; with_reducible rfl); (· simp only [nrm]; rfl)
    refine last_ (i := 23) (N := none) (flg 24 16777215) rfl rfl (one_of HT_.out (by kernel_rfl)) (by decide) (fun K hK => ?_)
    have k1 := (H.out.pick 5 rfl).cell 15
    have kf := (H.out.pick 5 rfl).frozen 15
    refine skip_ (w1 := ?_) (by rfl) rfl ?_ ?_
    rotate_left
    · go_simp
      rfl
    have h3 := (H.out.pick 5 rfl).put 15 (swP s) rfl
    clear k1 kf
    refine hK.out _ _ ?_
    clear hK K hHeld
    generalize World.setCell _ _ _ = w3 at h3 ⊢
    refine done_ (done_of HT_.out (by kernel_rfl)) ?_
    clear HT_ HW_
    replace H : Aside (St w0 w3 (Are p a gC who true X lv l cn fl ++ swB s y :: clB g q x (swP s) :: F)) := Aside.mk (h3.order 6 [2, 3, 4, 5, 1, 0] rfl rfl)
    clear h3
    have x15 : w3.cell? ⟨g, 15, none⟩ = some (swP s) := (H.out.pick 5 rfl).cell 15
    go_wp2_with (first | (go_at_call 112; refine (HST.out s _ _ H.out).mono ?_; rintro e w5 ⟨lv1, rfl, h5⟩; obtain ⟨e1, e2, e3, e4, hz4⟩ := HP4 lv1; rw [hz4] at h5; replace H : Aside (St w0 w5 (e1 :: e2 :: e3 :: e4 :: swB s y2 :: clB g q x (swP s) :: F)) := Aside.mk h5; clear h5; have hz5 := Aside.mk hz4; clear hz4; have x15 : w5.cell? ⟨g, 15, none⟩ = some (swP s) := (H.out.pick 5 rfl).cell 15) | (with_reducible refine stop_at (.store 193 (.tmp 46) (.const (.pointer none))) rfl ?_))
    refine ⟨?_⟩
    refine st_store rfl rfl rfl [.pointer none] (Cl.cells q x (.pointer none)) rfl rfl rfl (Nat.le_of_ble_eq_true rfl) (by simp [Value.oneCell']) (H.out.pick 5 rfl) rfl ?_
    intro w6 h6
    replace H : Aside (St w0 w6 (swB s y2 :: clB g q x (.pointer none) :: e1 :: e2 :: e3 :: e4 :: F)) := Aside.mk (h6.pick 5 rfl)
    clear h6 x15 b9
    have x6 : w6.cell? ⟨g, 6, none⟩ = some (.int .i64 x.rd) := (H.out.pick 1 rfl).cell 6
    rw [hr] at x6
    go_wp2_with (first | (go_at_call 113; refine (sswept_ H.out).mono ?_; rintro e w7 ⟨rfl, h7⟩; replace H := Aside.mk h7; clear h7; have x6 : w7.cell? ⟨g, 6, none⟩ = some (.int .i64 _) := (H.out.pick 1 rfl).cell 6; rw [hr] at x6) | (go_at_call 114; refine (sempty_ H.out).mono ?_; rintro e w8 ⟨rfl, h8⟩; replace H := Aside.mk h8; clear h8; have x6 : w8.cell? ⟨g, 6, none⟩ = some (.int .i64 _) := (H.out.pick 1 rfl).cell 6; rw [hr] at x6) | (go_at_call 121; refine (HN.out _ _ (H.out.pick 1 rfl)).mono ?_; rintro e w9 ⟨rfl, h9⟩; have H9 := Aside.mk h9; clear h9))
    go_end0
    exact ⟨lv1, rfl, .none_ (next_sw _ _) (by rw [hz5.out]; exact ((H9.out.pick 1 rfl).rest).order 5 [1, 2, 3, 4, 0] rfl rfl)⟩
  · obtain ⟨h9, hr, b1, b2, rfl⟩ := HK
    have b9 : (y2.at_ == 8) = true := by simp [h9]
    clear h9
    go_enter Tryd.func126, Tryd.ntmps126
    go_wp2_with fail
    replace H := Aside.mk H.out.drew
    clear x15
    refine start_ (n := 24) (S := fun w' => w'.cell? ⟨g, 0, none⟩ = some (.int .i64 ((q.P : Int) + 1)) ∧ w'.cell? ⟨g, 1, none⟩ = some (.int .i64 ((q.T : Int) + 1)) ∧ w'.cell? ⟨g, 2, none⟩ = some (.int .i64 1) ∧ w'.cell? ⟨g, 3, none⟩ = some (.int .i64 q.t) ∧ w'.cell? ⟨g, 4, none⟩ = some (.int .i64 q.cyc) ∧ w'.cell? ⟨g, 8, none⟩ = some (.int .i64 (x.pg : Int))) (ds := [23]) (flg 24 0) (by kernel_rfl) rfl rfl (⟨(H.out.pick 4 rfl).cell 0, (H.out.pick 4 rfl).cell 1, (H.out.pick 4 rfl).cell 2, (H.out.pick 4 rfl).cell 3, (H.out.pick 4 rfl).cell 4, (H.out.pick 4 rfl).cell 8⟩) (fun hHeld => ?_)
    refine with_tabW cln.tab1 cln.bits1 (fun HT_ HW_ => ?_)
    refine pu_ (v := ?_) (a' := ?_) 0 (some 11) 1 rfl rfl HT_ (by kernel_rfl) (.inl ⟨by rfl, ?_⟩) ?_ ?_; rotate_left 2; (· intro w'; go_simp; with_reducible rfl); (· simp only [nrm]; rfl)
    refine pu_ (v := ?_) (a' := ?_) 1 (some 12) 3 rfl rfl HT_ (by kernel_rfl) (.inl ⟨by rfl, ?_⟩) ?_ ?_; rotate_left 2; (· intro w'; go_simp; with_reducible rfl); (· simp only [nrm]; rfl)
    refine pu_ (v := ?_) (a' := ?_) 2 (some 13) 7 rfl rfl HT_ (by kernel_rfl) (.inl ⟨by rfl, ?_⟩) ?_ ?_; rotate_left 2; (· intro w'; go_simp; with_reducible rfl); (· simp only [nrm]; rfl)
    refine pu_ (v := ?_) (a' := ?_) 3 (some 14) 15 rfl rfl HT_ (by kernel_rfl) (.inl ⟨by rfl, ?_⟩) ?_ ?_; rotate_left 2; (· intro w'; go_simp; with_reducible rfl); (· simp only [nrm]; rfl)
    refine tk_ (v := ?_) (a' := ?_) 4 (some 15) 31 rfl rfl HT_ HW_ (by kernel_rfl) (.inl ⟨by rfl, ?_⟩) hHeld ?_ ?_; rotate_left 2; (· rintro w' ⟨_, _, _, _, _, _⟩; go_simp; with_reducible rfl); (· simp only [nrm]; rfl)
    refine pu_ (v := ?_) (a' := ?_) 5 (some 16) 63 rfl rfl HT_ (by kernel_rfl) (.inl ⟨by rfl, ?_⟩) ?_ ?_; rotate_left 2; (· intro w'; go_simp; with_reducible rfl); (· simp only [nrm]; rfl)
    refine pu_ (v := ?_) (a' := ?_) 6 (some 17) 127 rfl rfl HT_ (by kernel_rfl) (.inl ⟨by rfl, ?_⟩) ?_ ?_; rotate_left 2; (· intro w'; go_simp; with_reducible rfl); (· simp only [nrm]; rfl)
    refine pu_ (v := ?_) (a' := ?_) 7 (some 18) 255 rfl rfl HT_ (by kernel_rfl) (.inl ⟨by rfl, ?_⟩) ?_ ?_; rotate_left 2; (· intro w'; go_simp; with_reducible rfl); (· simp only [nrm]; rfl)
    refine tk_ (v := ?_) (a' := ?_) 8 (some 19) 511 rfl rfl HT_ HW_ (by kernel_rfl) (.inl ⟨by rfl, ?_⟩) hHeld ?_ ?_; rotate_left 2; (· rintro w' ⟨_, _, _, _, _, _⟩; go_simp; with_reducible rfl); (· simp only [nrm]; rfl)
    refine pu_ (v := ?_) (a' := ?_) 9 (some 20) 1023 rfl rfl HT_ (by kernel_rfl) (.inl ⟨by rfl, ?_⟩) ?_ ?_; rotate_left 2; (· intro w'; go_simp; with_reducible rfl); (· simp only [nrm]; rfl)
    refine pu_ (v := ?_) (a' := ?_) 10 (some 21) 2047 rfl rfl HT_ (by kernel_rfl) (.inl ⟨by rfl, ?_⟩) ?_ ?_; rotate_left 2; (· intro w'; go_simp; with_reducible rfl); (· simp only [nrm]; rfl)
    refine pu_ (v := ?_) (a' := ?_) 11 (some 22) 4095 rfl rfl HT_ (by kernel_rfl) (.inl ⟨by rfl, ?_⟩) ?_ ?_; rotate_left 2; (· intro w'; go_simp; with_reducible rfl); (· simp only [nrm]; rfl)
    refine tk_ (v := ?_) (a' := ?_) 12 (some 23) 8191 rfl rfl HT_ HW_ (by kernel_rfl) (.inl ⟨by rfl, ?_⟩) hHeld ?_ ?_; rotate_left 2; (· rintro w' ⟨_, _, _, _, _, _⟩; go_simp; with_reducible rfl); (· simp only [nrm]; rfl)
    refine pu_ (v := ?_) (a' := ?_) 13 (some 24) 16383 rfl rfl HT_ (by kernel_rfl) (.inl ⟨by rfl, ?_⟩) ?_ ?_; rotate_left 2; (· intro w'; go_simp; with_reducible rfl); (· simp only [nrm]; rfl)
    refine pu_ (v := ?_) (a' := ?_) 14 (some 25) 32767 rfl rfl HT_ (by kernel_rfl) (.inl ⟨by rfl, ?_⟩) ?_ ?_; rotate_left 2; (· intro w'; go_simp; with_reducible rfl); (· simp only [nrm]; rfl)
    refine pu_ (v := ?_) (a' := ?_) 15 (some 26) 65535 rfl rfl HT_ (by kernel_rfl) (.inl ⟨by rfl, ?_⟩) ?_ ?_; rotate_left 2; (· intro w'; go_simp; with_reducible rfl); (· simp only [nrm]; rfl)
    refine tk_ (v := ?_) (a' := ?_) 16 (some 27) 131071 rfl rfl HT_ HW_ (by kernel_rfl) (.inl ⟨by rfl, ?_⟩) hHeld ?_ ?_; rotate_left 2; (· rintro w' ⟨_, _, _, _, _, _⟩; go_simp; with_reducible rfl); (· simp only [nrm]; rfl)
    refine on_ 17 (some 28) 262143 rfl rfl HT_ (by kernel_rfl) (by decide) (fun K hK => ?_)
    refine goes_ Tryd.func110 (by kernel_rfl) rfl #[.agg #[.int .i64 ((q.P : Int) + 1), .int .i64 ((q.T : Int) + 1), .int .i64 1], .int .i64 q.t, .int .i64 q.cyc, .int .i64 (x.pg : Int)] (by rfl) rfl rfl (by (try simp only [List.map_toArray, List.map_cons, List.map_nil]); first | done | rfl) ?_
    refine (HNS.out _ _ H.out).mono ?_
    rintro e w2 ⟨s, rfl, h2⟩
    replace H : Aside (St w0 w2 (swB s y :: (Are p a gC who true X lv l cn fl ++ clB g q x (.pointer none) :: F))) := Aside.mk h2
    clear h2
    refine ⟨_, rfl, ?_⟩
    refine hK.out _ _ ⟨(H.out.pick 5 rfl).cell 0, (H.out.pick 5 rfl).cell 1, (H.out.pick 5 rfl).cell 2, (H.out.pick 5 rfl).cell 3, (H.out.pick 5 rfl).cell 4, (H.out.pick 5 rfl).cell 8⟩ (fun hHeld => ?_)
    clear hK K
    refine norm_ (a' := ?_) ?_ ?_
    rotate_left
    · show Act.put _ (some 28) _ = _
      simp only [nrm]
      rfl
    refine pu_ (v := ?_) (a' := ?_) 18 (some 10) 524287 rfl rfl HT_ (by kernel_rfl) (.inl ⟨by rfl, ?_⟩) ?_ ?_; rotate_left 2; (· intro w'; go_simp; with_reducible rfl); (· simp only [nrm]; rfl)
    refine pu_ (v := ?_) (a' := ?_) 19 (some 29) 1048575 rfl rfl HT_ (by kernel_rfl) (.inl ⟨by rfl, ?_⟩) ?_ ?_; rotate_left 2; (· intro w'; go_simp; with_reducible rfl); (· simp only [nrm]; rfl)
    refine pu_ (v := ?_) (a' := ?_) 20 (some 30) 2097151 rfl rfl HT_ (by kernel_rfl) (.inl ⟨by rfl, ?_⟩) ?_ ?_; rotate_left 2; (· intro w'; go_simp; with_reducible rfl); (· simp only [nrm]; rfl)
    refine pu_ (v := ?_) (a' := ?_) 21 (some 31) 4194303 rfl rfl HT_ (by kernel_rfl) (.inl ⟨by rfl, ?_⟩) ?_ ?_; rotate_left 2; (· intro w'; go_simp; with_reducible rfl); (· simp only [nrm]; rfl)
    refine pu_ (v := ?_) (a' := ?_) 22 (some 32) 8388607 rfl rfl HT_ (by kernel_rfl) (.inl ⟨by rfl, ?_⟩) ?_ ?_; rotate_left 2; (· intro w'; go_simp; with_reducible rfl); (· simp only [nrm]; rfl)
    refine last_ (i := 23) (N := none) (flg 24 16777215) rfl rfl (one_of HT_.out (by kernel_rfl)) (by decide) (fun K hK => ?_)
    have k1 := (H.out.pick 5 rfl).cell 15
    have kf := (H.out.pick 5 rfl).frozen 15
    refine skip_ (w1 := ?_) (by rfl) rfl ?_ ?_
    rotate_left
    · go_simp
      rfl
    have h3 := (H.out.pick 5 rfl).put 15 (swP s) rfl
    clear k1 kf
    refine hK.out _ _ ?_
    clear hK K hHeld
    generalize World.setCell _ _ _ = w3 at h3 ⊢
    refine done_ (done_of HT_.out (by kernel_rfl)) ?_
    clear HT_ HW_
    replace H : Aside (St w0 w3 (Are p a gC who true X lv l cn fl ++ swB s y :: clB g q x (swP s) :: F)) := Aside.mk (h3.order 6 [2, 3, 4, 5, 1, 0] rfl rfl)
    clear h3
    have x15 : w3.cell? ⟨g, 15, none⟩ = some (swP s) := (H.out.pick 5 rfl).cell 15
    go_wp2_with (first | (go_at_call 112; refine (HST.out s _ _ H.out).mono ?_; rintro e w5 ⟨lv1, rfl, h5⟩; obtain ⟨e1, e2, e3, e4, hz4⟩ := HP4 lv1; rw [hz4] at h5; replace H : Aside (St w0 w5 (e1 :: e2 :: e3 :: e4 :: swB s y2 :: clB g q x (swP s) :: F)) := Aside.mk h5; clear h5; have hz5 := Aside.mk hz4; clear hz4; have x15 : w5.cell? ⟨g, 15, none⟩ = some (swP s) := (H.out.pick 5 rfl).cell 15) | (with_reducible refine stop_at (.store 193 (.tmp 46) (.const (.pointer none))) rfl ?_))
    refine ⟨?_⟩
    refine st_store rfl rfl rfl [.pointer none] (Cl.cells q x (.pointer none)) rfl rfl rfl (Nat.le_of_ble_eq_true rfl) (by simp [Value.oneCell']) (H.out.pick 5 rfl) rfl ?_
    intro w6 h6
    replace H : Aside (St w0 w6 (swB s y2 :: clB g q x (.pointer none) :: e1 :: e2 :: e3 :: e4 :: F)) := Aside.mk (h6.pick 5 rfl)
    clear h6 x15 b9
    have x6 : w6.cell? ⟨g, 6, none⟩ = some (.int .i64 x.rd) := (H.out.pick 1 rfl).cell 6
    rw [hr] at x6
    go_wp2_with (first | (go_at_call 113; refine (sswept_ H.out).mono ?_; rintro e w7 ⟨rfl, h7⟩; replace H := Aside.mk h7; clear h7; have x6 : w7.cell? ⟨g, 6, none⟩ = some (.int .i64 _) := (H.out.pick 1 rfl).cell 6; rw [hr] at x6) | (go_at_call 114; refine (sempty_ H.out).mono ?_; rintro e w8 ⟨rfl, h8⟩; replace H := Aside.mk h8; clear h8; have x6 : w8.cell? ⟨g, 6, none⟩ = some (.int .i64 _) := (H.out.pick 1 rfl).cell 6; rw [hr] at x6) | (with_reducible refine stop_at (.store 3 (.tmp 79) (.const (.int .i64 5))) rfl ?_))
    refine ⟨?_⟩
    refine st_store rfl rfl rfl [.int .i64 5] (Cl.cells q { x with at_ := 5, sw := none } (.pointer none)) rfl rfl rfl (Nat.le_of_ble_eq_true rfl) (by simp [Value.oneCell']) (H.out.pick 1 rfl) rfl ?_
    intro w9 h9
    have H9 := Aside.mk h9
    clear h9
    go_wp2
    go_end0
    exact ⟨lv1, rfl, .none_ rfl (by rw [hz5.out]; exact ((H9.out.pick 1 rfl).rest).order 5 [1, 2, 3, 4, 0] rfl rfl)⟩
  · obtain ⟨h9, hr, b1, rfl⟩ := HK
    have b9 : (y2.at_ == 8) = true := by simp [h9]
    clear h9
    go_enter Tryd.func126, Tryd.ntmps126
    go_wp2_with fail
    replace H := Aside.mk H.out.drew
    clear x15
    refine start_ (n := 24) (S := fun w' => w'.cell? ⟨g, 0, none⟩ = some (.int .i64 ((q.P : Int) + 1)) ∧ w'.cell? ⟨g, 1, none⟩ = some (.int .i64 ((q.T : Int) + 1)) ∧ w'.cell? ⟨g, 2, none⟩ = some (.int .i64 1) ∧ w'.cell? ⟨g, 3, none⟩ = some (.int .i64 q.t) ∧ w'.cell? ⟨g, 4, none⟩ = some (.int .i64 q.cyc) ∧ w'.cell? ⟨g, 8, none⟩ = some (.int .i64 (x.pg : Int))) (ds := [23]) (flg 24 0) (by kernel_rfl) rfl rfl (⟨(H.out.pick 4 rfl).cell 0, (H.out.pick 4 rfl).cell 1, (H.out.pick 4 rfl).cell 2, (H.out.pick 4 rfl).cell 3, (H.out.pick 4 rfl).cell 4, (H.out.pick 4 rfl).cell 8⟩) (fun hHeld => ?_)
    refine with_tabW cln.tab1 cln.bits1 (fun HT_ HW_ => ?_)
    refine pu_ (v := ?_) (a' := ?_) 0 (some 11) 1 rfl rfl HT_ (by kernel_rfl) (.inl ⟨by rfl, ?_⟩) ?_ ?_; rotate_left 2; (· intro w'; go_simp; with_reducible rfl); (· simp only [nrm]; rfl)
    refine pu_ (v := ?_) (a' := ?_) 1 (some 12) 3 rfl rfl HT_ (by kernel_rfl) (.inl ⟨by rfl, ?_⟩) ?_ ?_; rotate_left 2; (· intro w'; go_simp; with_reducible rfl); (· simp only [nrm]; rfl)
    refine pu_ (v := ?_) (a' := ?_) 2 (some 13) 7 rfl rfl HT_ (by kernel_rfl) (.inl ⟨by rfl, ?_⟩) ?_ ?_; rotate_left 2; (· intro w'; go_simp; with_reducible rfl); (· simp only [nrm]; rfl)
    refine pu_ (v := ?_) (a' := ?_) 3 (some 14) 15 rfl rfl HT_ (by kernel_rfl) (.inl ⟨by rfl, ?_⟩) ?_ ?_; rotate_left 2; (· intro w'; go_simp; with_reducible rfl); (· simp only [nrm]; rfl)
    refine tk_ (v := ?_) (a' := ?_) 4 (some 15) 31 rfl rfl HT_ HW_ (by kernel_rfl) (.inl ⟨by rfl, ?_⟩) hHeld ?_ ?_; rotate_left 2; (· rintro w' ⟨_, _, _, _, _, _⟩; go_simp; with_reducible rfl); (· simp only [nrm]; rfl)
    refine pu_ (v := ?_) (a' := ?_) 5 (some 16) 63 rfl rfl HT_ (by kernel_rfl) (.inl ⟨by rfl, ?_⟩) ?_ ?_; rotate_left 2; (· intro w'; go_simp; with_reducible rfl); (· simp only [nrm]; rfl)
    refine pu_ (v := ?_) (a' := ?_) 6 (some 17) 127 rfl rfl HT_ (by kernel_rfl) (.inl ⟨by rfl, ?_⟩) ?_ ?_; rotate_left 2; (· intro w'; go_simp; with_reducible rfl); (· simp only [nrm]; rfl)
    refine pu_ (v := ?_) (a' := ?_) 7 (some 18) 255 rfl rfl HT_ (by kernel_rfl) (.inl ⟨by rfl, ?_⟩) ?_ ?_; rotate_left 2; (· intro w'; go_simp; with_reducible rfl); (· simp only [nrm]; rfl)
    refine tk_ (v := ?_) (a' := ?_) 8 (some 19) 511 rfl rfl HT_ HW_ (by kernel_rfl) (.inl ⟨by rfl, ?_⟩) hHeld ?_ ?_; rotate_left 2; (· rintro w' ⟨_, _, _, _, _, _⟩; go_simp; with_reducible rfl); (· simp only [nrm]; rfl)
    refine pu_ (v := ?_) (a' := ?_) 9 (some 20) 1023 rfl rfl HT_ (by kernel_rfl) (.inl ⟨by rfl, ?_⟩) ?_ ?_; rotate_left 2; (· intro w'; go_simp; with_reducible rfl); (· simp only [nrm]; rfl)
    refine pu_ (v := ?_) (a' := ?_) 10 (some 21) 2047 rfl rfl HT_ (by kernel_rfl) (.inl ⟨by rfl, ?_⟩) ?_ ?_; rotate_left 2; (· intro w'; go_simp; with_reducible rfl); (· simp only [nrm]; rfl)
    refine pu_ (v := ?_) (a' := ?_) 11 (some 22) 4095 rfl rfl HT_ (by kernel_rfl) (.inl ⟨by rfl, ?_⟩) ?_ ?_; rotate_left 2; (· intro w'; go_simp; with_reducible rfl); (· simp only [nrm]; rfl)
    refine tk_ (v := ?_) (a' := ?_) 12 (some 23) 8191 rfl rfl HT_ HW_ (by kernel_rfl) (.inl ⟨by rfl, ?_⟩) hHeld ?_ ?_; rotate_left 2; (· rintro w' ⟨_, _, _, _, _, _⟩; go_simp; with_reducible rfl); (· simp only [nrm]; rfl)
    refine pu_ (v := ?_) (a' := ?_) 13 (some 24) 16383 rfl rfl HT_ (by kernel_rfl) (.inl ⟨by rfl, ?_⟩) ?_ ?_; rotate_left 2; (· intro w'; go_simp; with_reducible rfl); (· simp only [nrm]; rfl)
    refine pu_ (v := ?_) (a' := ?_) 14 (some 25) 32767 rfl rfl HT_ (by kernel_rfl) (.inl ⟨by rfl, ?_⟩) ?_ ?_; rotate_left 2; (· intro w'; go_simp; with_reducible rfl); (· simp only [nrm]; rfl)
    refine pu_ (v := ?_) (a' := ?_) 15 (some 26) 65535 rfl rfl HT_ (by kernel_rfl) (.inl ⟨by rfl, ?_⟩) ?_ ?_; rotate_left 2; (· intro w'; go_simp; with_reducible rfl); (· simp only [nrm]; rfl)
    refine tk_ (v := ?_) (a' := ?_) 16 (some 27) 131071 rfl rfl HT_ HW_ (by kernel_rfl) (.inl ⟨by rfl, ?_⟩) hHeld ?_ ?_; rotate_left 2; (· rintro w' ⟨_, _, _, _, _, _⟩; go_simp; with_reducible rfl); (· simp only [nrm]; rfl)
    refine on_ 17 (some 28) 262143 rfl rfl HT_ (by kernel_rfl) (by decide) (fun K hK => ?_)
    refine goes_ Tryd.func110 (by kernel_rfl) rfl #[.agg #[.int .i64 ((q.P : Int) + 1), .int .i64 ((q.T : Int) + 1), .int .i64 1], .int .i64 q.t, .int .i64 q.cyc, .int .i64 (x.pg : Int)] (by rfl) rfl rfl (by (try simp only [List.map_toArray, List.map_cons, List.map_nil]); first | done | rfl) ?_
    refine (HNS.out _ _ H.out).mono ?_
    rintro e w2 ⟨s, rfl, h2⟩
    replace H : Aside (St w0 w2 (swB s y :: (Are p a gC who true X lv l cn fl ++ clB g q x (.pointer none) :: F))) := Aside.mk h2
    clear h2
    refine ⟨_, rfl, ?_⟩
    refine hK.out _ _ ⟨(H.out.pick 5 rfl).cell 0, (H.out.pick 5 rfl).cell 1, (H.out.pick 5 rfl).cell 2, (H.out.pick 5 rfl).cell 3, (H.out.pick 5 rfl).cell 4, (H.out.pick 5 rfl).cell 8⟩ (fun hHeld => ?_)
    clear hK K
    refine norm_ (a' := ?_) ?_ ?_
    rotate_left
    · show Act.put _ (some 28) _ = _
      simp only [nrm]
      rfl
    refine pu_ (v := ?_) (a' := ?_) 18 (some 10) 524287 rfl rfl HT_ (by kernel_rfl) (.inl ⟨by rfl, ?_⟩) ?_ ?_; rotate_left 2; (· intro w'; go_simp; with_reducible rfl); (· simp only [nrm]; rfl)
    refine pu_ (v := ?_) (a' := ?_) 19 (some 29) 1048575 rfl rfl HT_ (by kernel_rfl) (.inl ⟨by rfl, ?_⟩) ?_ ?_; rotate_left 2; (· intro w'; go_simp; with_reducible rfl); (· simp only [nrm]; rfl)
    refine pu_ (v := ?_) (a' := ?_) 20 (some 30) 2097151 rfl rfl HT_ (by kernel_rfl) (.inl ⟨by rfl, ?_⟩) ?_ ?_; rotate_left 2; (· intro w'; go_simp; with_reducible rfl); (· simp only [nrm]; rfl)
    refine pu_ (v := ?_) (a' := ?_) 21 (some 31) 4194303 rfl rfl HT_ (by kernel_rfl) (.inl ⟨by rfl, ?_⟩) ?_ ?_; rotate_left 2; (· intro w'; go_simp; with_reducible rfl); (· simp only [nrm]; rfl)
    refine pu_ (v := ?_) (a' := ?_) 22 (some 32) 8388607 rfl rfl HT_ (by kernel_rfl) (.inl ⟨by rfl, ?_⟩) ?_ ?_; rotate_left 2; (· intro w'; go_simp; with_reducible rfl); (· simp only [nrm]; rfl)
    refine last_ (i := 23) (N := none) (flg 24 16777215) rfl rfl (one_of HT_.out (by kernel_rfl)) (by decide) (fun K hK => ?_)
    have k1 := (H.out.pick 5 rfl).cell 15
    have kf := (H.out.pick 5 rfl).frozen 15
    refine skip_ (w1 := ?_) (by rfl) rfl ?_ ?_
    rotate_left
    · go_simp
      rfl
    have h3 := (H.out.pick 5 rfl).put 15 (swP s) rfl
    clear k1 kf
    refine hK.out _ _ ?_
    clear hK K hHeld
    generalize World.setCell _ _ _ = w3 at h3 ⊢
    refine done_ (done_of HT_.out (by kernel_rfl)) ?_
    clear HT_ HW_
    replace H : Aside (St w0 w3 (Are p a gC who true X lv l cn fl ++ swB s y :: clB g q x (swP s) :: F)) := Aside.mk (h3.order 6 [2, 3, 4, 5, 1, 0] rfl rfl)
    clear h3
    have x15 : w3.cell? ⟨g, 15, none⟩ = some (swP s) := (H.out.pick 5 rfl).cell 15
    go_wp2_with (first | (go_at_call 112; refine (HST.out s _ _ H.out).mono ?_; rintro e w5 ⟨lv1, rfl, h5⟩; obtain ⟨e1, e2, e3, e4, hz4⟩ := HP4 lv1; rw [hz4] at h5; replace H : Aside (St w0 w5 (e1 :: e2 :: e3 :: e4 :: swB s y2 :: clB g q x (swP s) :: F)) := Aside.mk h5; clear h5; have hz5 := Aside.mk hz4; clear hz4; have x15 : w5.cell? ⟨g, 15, none⟩ = some (swP s) := (H.out.pick 5 rfl).cell 15) | (with_reducible refine stop_at (.store 193 (.tmp 46) (.const (.pointer none))) rfl ?_))
    refine ⟨?_⟩
    refine st_store rfl rfl rfl [.pointer none] (Cl.cells q x (.pointer none)) rfl rfl rfl (Nat.le_of_ble_eq_true rfl) (by simp [Value.oneCell']) (H.out.pick 5 rfl) rfl ?_
    intro w6 h6
    replace H : Aside (St w0 w6 (swB s y2 :: clB g q x (.pointer none) :: e1 :: e2 :: e3 :: e4 :: F)) := Aside.mk (h6.pick 5 rfl)
    clear h6 x15 b9
    have x6 : w6.cell? ⟨g, 6, none⟩ = some (.int .i64 x.rd) := (H.out.pick 1 rfl).cell 6
    rw [hr] at x6
    go_wp2_with (first | (go_at_call 113; refine (sswept_ H.out).mono ?_; rintro e w7 ⟨rfl, h7⟩; replace H := Aside.mk h7; clear h7; have x6 : w7.cell? ⟨g, 6, none⟩ = some (.int .i64 _) := (H.out.pick 1 rfl).cell 6; rw [hr] at x6) | (go_at_call 114; refine (sempty_ H.out).mono ?_; rintro e w8 ⟨rfl, h8⟩; replace H := Aside.mk h8; clear h8; have x6 : w8.cell? ⟨g, 6, none⟩ = some (.int .i64 _) := (H.out.pick 1 rfl).cell 6; rw [hr] at x6) | (go_at_call 121; refine (HN.out _ _ (H.out.pick 1 rfl)).mono ?_; rintro e w9 ⟨rfl, h9⟩; have H9 := Aside.mk h9; clear h9))
    go_end0
    exact ⟨lv1, rfl, .none_ (next_sw _ _) (by rw [hz5.out]; exact ((H9.out.pick 1 rfl).rest).order 5 [1, 2, 3, 4, 0] rfl rfl)⟩
  · obtain ⟨h9, hr, b1, b2, rfl⟩ := HK
    have b9 : (y2.at_ == 8) = true := by simp [h9]
    clear h9
    go_enter Tryd.func126, Tryd.ntmps126
    go_wp2_with fail
    replace H := Aside.mk H.out.drew
    clear x15
    refine start_ (n := 24) (S := fun w' => w'.cell? ⟨g, 0, none⟩ = some (.int .i64 ((q.P : Int) + 1)) ∧ w'.cell? ⟨g, 1, none⟩ = some (.int .i64 ((q.T : Int) + 1)) ∧ w'.cell? ⟨g, 2, none⟩ = some (.int .i64 1) ∧ w'.cell? ⟨g, 3, none⟩ = some (.int .i64 q.t) ∧ w'.cell? ⟨g, 4, none⟩ = some (.int .i64 q.cyc) ∧ w'.cell? ⟨g, 8, none⟩ = some (.int .i64 (x.pg : Int))) (ds := [23]) (flg 24 0) (by kernel_rfl) rfl rfl (⟨(H.out.pick 4 rfl).cell 0, (H.out.pick 4 rfl).cell 1, (H.out.pick 4 rfl).cell 2, (H.out.pick 4 rfl).cell 3, (H.out.pick 4 rfl).cell 4, (H.out.pick 4 rfl).cell 8⟩) (fun hHeld => ?_)
    refine with_tabW cln.tab1 cln.bits1 (fun HT_ HW_ => ?_)
    refine pu_ (v := ?_) (a' := ?_) 0 (some 11) 1 rfl rfl HT_ (by kernel_rfl) (.inl ⟨by rfl, ?_⟩) ?_ ?_; rotate_left 2; (· intro w'; go_simp; with_reducible rfl); (· simp only [nrm]; rfl)
    refine pu_ (v := ?_) (a' := ?_) 1 (some 12) 3 rfl rfl HT_ (by kernel_rfl) (.inl ⟨by rfl, ?_⟩) ?_ ?_; rotate_left 2; (· intro w'; go_simp; with_reducible rfl); (· simp only [nrm]; rfl)
    refine pu_ (v := ?_) (a' := ?_) 2 (some 13) 7 rfl rfl HT_ (by kernel_rfl) (.inl ⟨by rfl, ?_⟩) ?_ ?_; rotate_left 2; (· intro w'; go_simp; with_reducible rfl); (· simp only [nrm]; rfl)
    refine pu_ (v := ?_) (a' := ?_) 3 (some 14) 15 rfl rfl HT_ (by kernel_rfl) (.inl ⟨by rfl, ?_⟩) ?_ ?_; rotate_left 2; (· intro w'; go_simp; with_reducible rfl); (· simp only [nrm]; rfl)
    refine tk_ (v := ?_) (a' := ?_) 4 (some 15) 31 rfl rfl HT_ HW_ (by kernel_rfl) (.inl ⟨by rfl, ?_⟩) hHeld ?_ ?_; rotate_left 2; (· rintro w' ⟨_, _, _, _, _, _⟩; go_simp; with_reducible rfl); (· simp only [nrm]; rfl)
    refine pu_ (v := ?_) (a' := ?_) 5 (some 16) 63 rfl rfl HT_ (by kernel_rfl) (.inl ⟨by rfl, ?_⟩) ?_ ?_; rotate_left 2; (· intro w'; go_simp; with_reducible rfl); (· simp only [nrm]; rfl)
    refine pu_ (v := ?_) (a' := ?_) 6 (some 17) 127 rfl rfl HT_ (by kernel_rfl) (.inl ⟨by rfl, ?_⟩) ?_ ?_; rotate_left 2; (· intro w'; go_simp; with_reducible rfl); (· simp only [nrm]; rfl)
    refine pu_ (v := ?_) (a' := ?_) 7 (some 18) 255 rfl rfl HT_ (by kernel_rfl) (.inl ⟨by rfl, ?_⟩) ?_ ?_; rotate_left 2; (· intro w'; go_simp; with_reducible rfl); (· simp only [nrm]; rfl)
    refine tk_ (v := ?_) (a' := ?_) 8 (some 19) 511 rfl rfl HT_ HW_ (by kernel_rfl) (.inl ⟨by rfl, ?_⟩) hHeld ?_ ?_; rotate_left 2; (· rintro w' ⟨_, _, _, _, _, _⟩; go_simp; with_reducible rfl); (· simp only [nrm]; rfl)
    refine pu_ (v := ?_) (a' := ?_) 9 (some 20) 1023 rfl rfl HT_ (by kernel_rfl) (.inl ⟨by rfl, ?_⟩) ?_ ?_; rotate_left 2; (· intro w'; go_simp; with_reducible rfl); (· simp only [nrm]; rfl)
    refine pu_ (v := ?_) (a' := ?_) 10 (some 21) 2047 rfl rfl HT_ (by kernel_rfl) (.inl ⟨by rfl, ?_⟩) ?_ ?_; rotate_left 2; (· intro w'; go_simp; with_reducible rfl); (· simp only [nrm]; rfl)
    refine pu_ (v := ?_) (a' := ?_) 11 (some 22) 4095 rfl rfl HT_ (by kernel_rfl) (.inl ⟨by rfl, ?_⟩) ?_ ?_; rotate_left 2; (· intro w'; go_simp; with_reducible rfl); (· simp only [nrm]; rfl)
    refine tk_ (v := ?_) (a' := ?_) 12 (some 23) 8191 rfl rfl HT_ HW_ (by kernel_rfl) (.inl ⟨by rfl, ?_⟩) hHeld ?_ ?_; rotate_left 2; (· rintro w' ⟨_, _, _, _, _, _⟩; go_simp; with_reducible rfl); (· simp only [nrm]; rfl)
    refine pu_ (v := ?_) (a' := ?_) 13 (some 24) 16383 rfl rfl HT_ (by kernel_rfl) (.inl ⟨by rfl, ?_⟩) ?_ ?_; rotate_left 2; (· intro w'; go_simp; with_reducible rfl); (· simp only [nrm]; rfl)
    refine pu_ (v := ?_) (a' := ?_) 14 (some 25) 32767 rfl rfl HT_ (by kernel_rfl) (.inl ⟨by rfl, ?_⟩) ?_ ?_; rotate_left 2; (· intro w'; go_simp; with_reducible rfl); (· simp only [nrm]; rfl)
    refine pu_ (v := ?_) (a' := ?_) 15 (some 26) 65535 rfl rfl HT_ (by kernel_rfl) (.inl ⟨by rfl, ?_⟩) ?_ ?_; rotate_left 2; (· intro w'; go_simp; with_reducible rfl); (· simp only [nrm]; rfl)
    refine tk_ (v := ?_) (a' := ?_) 16 (some 27) 131071 rfl rfl HT_ HW_ (by kernel_rfl) (.inl ⟨by rfl, ?_⟩) hHeld ?_ ?_; rotate_left 2; (· rintro w' ⟨_, _, _, _, _, _⟩; go_simp; with_reducible rfl); (· simp only [nrm]; rfl)
    refine on_ 17 (some 28) 262143 rfl rfl HT_ (by kernel_rfl) (by decide) (fun K hK => ?_)
    refine goes_ Tryd.func110 (by kernel_rfl) rfl #[.agg #[.int .i64 ((q.P : Int) + 1), .int .i64 ((q.T : Int) + 1), .int .i64 1], .int .i64 q.t, .int .i64 q.cyc, .int .i64 (x.pg : Int)] (by rfl) rfl rfl (by (try simp only [List.map_toArray, List.map_cons, List.map_nil]); first | done | rfl) ?_
    refine (HNS.out _ _ H.out).mono ?_
    rintro e w2 ⟨s, rfl, h2⟩
    replace H : Aside (St w0 w2 (swB s y :: (Are p a gC who true X lv l cn fl ++ clB g q x (.pointer none) :: F))) := Aside.mk h2
    clear h2
    refine ⟨_, rfl, ?_⟩
    refine hK.out _ _ ⟨(H.out.pick 5 rfl).cell 0, (H.out.pick 5 rfl).cell 1, (H.out.pick 5 rfl).cell 2, (H.out.pick 5 rfl).cell 3, (H.out.pick 5 rfl).cell 4, (H.out.pick 5 rfl).cell 8⟩ (fun hHeld => ?_)
    clear hK K
    refine norm_ (a' := ?_) ?_ ?_
    rotate_left
    · show Act.put _ (some 28) _ = _
      simp only [nrm]
      rfl
    refine pu_ (v := ?_) (a' := ?_) 18 (some 10) 524287 rfl rfl HT_ (by kernel_rfl) (.inl ⟨by rfl, ?_⟩) ?_ ?_; rotate_left 2; (· intro w'; go_simp; with_reducible rfl); (· simp only [nrm]; rfl)
    refine pu_ (v := ?_) (a' := ?_) 19 (some 29) 1048575 rfl rfl HT_ (by kernel_rfl) (.inl ⟨by rfl, ?_⟩) ?_ ?_; rotate_left 2; (· intro w'; go_simp; with_reducible rfl); (· simp only [nrm]; rfl)
    refine pu_ (v := ?_) (a' := ?_) 20 (some 30) 2097151 rfl rfl HT_ (by kernel_rfl) (.inl ⟨by rfl, ?_⟩) ?_ ?_; rotate_left 2; (· intro w'; go_simp; with_reducible rfl); (· simp only [nrm]; rfl)
    refine pu_ (v := ?_) (a' := ?_) 21 (some 31) 4194303 rfl rfl HT_ (by kernel_rfl) (.inl ⟨by rfl, ?_⟩) ?_ ?_; rotate_left 2; (· intro w'; go_simp; with_reducible rfl); (· simp only [nrm]; rfl)
    refine pu_ (v := ?_) (a' := ?_) 22 (some 32) 8388607 rfl rfl HT_ (by kernel_rfl) (.inl ⟨by rfl, ?_⟩) ?_ ?_; rotate_left 2; (· intro w'; go_simp; with_reducible rfl); (· simp only [nrm]; rfl)
    refine last_ (i := 23) (N := none) (flg 24 16777215) rfl rfl (one_of HT_.out (by kernel_rfl)) (by decide) (fun K hK => ?_)
    have k1 := (H.out.pick 5 rfl).cell 15
    have kf := (H.out.pick 5 rfl).frozen 15
    refine skip_ (w1 := ?_) (by rfl) rfl ?_ ?_
    rotate_left
    · go_simp
      rfl
    have h3 := (H.out.pick 5 rfl).put 15 (swP s) rfl
    clear k1 kf
    refine hK.out _ _ ?_
    clear hK K hHeld
    generalize World.setCell _ _ _ = w3 at h3 ⊢
    refine done_ (done_of HT_.out (by kernel_rfl)) ?_
    clear HT_ HW_
    replace H : Aside (St w0 w3 (Are p a gC who true X lv l cn fl ++ swB s y :: clB g q x (swP s) :: F)) := Aside.mk (h3.order 6 [2, 3, 4, 5, 1, 0] rfl rfl)
    clear h3
    have x15 : w3.cell? ⟨g, 15, none⟩ = some (swP s) := (H.out.pick 5 rfl).cell 15
    go_wp2_with (first | (go_at_call 112; refine (HST.out s _ _ H.out).mono ?_; rintro e w5 ⟨lv1, rfl, h5⟩; obtain ⟨e1, e2, e3, e4, hz4⟩ := HP4 lv1; rw [hz4] at h5; replace H : Aside (St w0 w5 (e1 :: e2 :: e3 :: e4 :: swB s y2 :: clB g q x (swP s) :: F)) := Aside.mk h5; clear h5; have hz5 := Aside.mk hz4; clear hz4; have x15 : w5.cell? ⟨g, 15, none⟩ = some (swP s) := (H.out.pick 5 rfl).cell 15) | (with_reducible refine stop_at (.store 193 (.tmp 46) (.const (.pointer none))) rfl ?_))
    refine ⟨?_⟩
    refine st_store rfl rfl rfl [.pointer none] (Cl.cells q x (.pointer none)) rfl rfl rfl (Nat.le_of_ble_eq_true rfl) (by simp [Value.oneCell']) (H.out.pick 5 rfl) rfl ?_
    intro w6 h6
    replace H : Aside (St w0 w6 (swB s y2 :: clB g q x (.pointer none) :: e1 :: e2 :: e3 :: e4 :: F)) := Aside.mk (h6.pick 5 rfl)
    clear h6 x15 b9
    have x6 : w6.cell? ⟨g, 6, none⟩ = some (.int .i64 x.rd) := (H.out.pick 1 rfl).cell 6
    rw [hr] at x6
    go_wp2_with (first | (go_at_call 113; refine (sswept_ H.out).mono ?_; rintro e w7 ⟨rfl, h7⟩; replace H := Aside.mk h7; clear h7; have x6 : w7.cell? ⟨g, 6, none⟩ = some (.int .i64 _) := (H.out.pick 1 rfl).cell 6; rw [hr] at x6) | (go_at_call 114; refine (sempty_ H.out).mono ?_; rintro e w8 ⟨rfl, h8⟩; replace H := Aside.mk h8; clear h8; have x6 : w8.cell? ⟨g, 6, none⟩ = some (.int .i64 _) := (H.out.pick 1 rfl).cell 6; rw [hr] at x6) | (go_at_call 121; refine (HN.out _ _ (H.out.pick 1 rfl)).mono ?_; rintro e w9 ⟨rfl, h9⟩; have H9 := Aside.mk h9; clear h9))
    go_end0
    exact ⟨lv1, rfl, .none_ (next_sw _ _) (by rw [hz5.out]; exact ((H9.out.pick 1 rfl).rest).order 5 [1, 2, 3, 4, 0] rfl rfl)⟩
end Go.Proofs.YtelfiegocdjnoaaDoor.Ar
