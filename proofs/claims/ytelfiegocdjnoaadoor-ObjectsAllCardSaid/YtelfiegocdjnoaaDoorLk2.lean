/- Look in general: the code's. Conditions: a plan of at most five pages; words of 64 bits; the package array reads as it was laid. -/
import Derived.Test.YtelfiegocdjnoaaDoorMgN
import Derived.Test.YtelfiegocdjnoaaDoorLk6
import Derived.Test.YtelfiegocdjnoaaDoorMgM
import Derived.Deep.CutBlock
import Derived.Test.YtelfiegocdjnoaaDoorMrF0
import Derived.Test.YtelfiegocdjnoaaDoorMrF1
namespace Go.Proofs.YtelfiegocdjnoaaDoor.Ar
open Go Go.RowKit Go.Proofs.YtelfiegocdjnoaaDoor.Sep Go.Proofs.YtelfiegocdjnoaaDoor.Pg Go.Proofs.YtelfiegocdjnoaaDoorW.PrintWords Go.Proofs.YtelfiegocdjnoaaDoorW.PrintLast Go.Proofs.YtelfiegocdjnoaaDoorW.PrintMore Go.Proofs.YtelfiegocdjnoaaDoor.Q
set_option linter.unusedVariables false
set_option linter.unusedSimpArgs false
set_option maxHeartbeats 8000000
set_option maxRecDepth 100000
/-- The entry of the page in which an address lies. -/
def entR (P : Nat) (X : List Int) (at_ : Int) : Int × Int × Int × Int × Int × Int := dec (X.getD (22 + (plI P at_).1.toNat) 0)
/-- Is it allocated? -/
def allR (P : Nat) (X : List Int) (at_ : Int) : Bool :=
  if (plI P at_).1 < 0 then false else allI (entR P X at_).1 (entR P X at_).2.1 (entR P X at_).2.2.2.2.2 (X.getD (22 + (P + 1) + (plI P at_).1.toNat) 0) (plI P at_).2.toNat
def okR (P : Nat) (X : List Int) (ns : List Nat) (at_ : Int) (h : Int × Int × Int × Int) : Bool :=
  decide (h.2.2.2 = 0) && (fitT ns h.1 h.2.1 h.2.2.1 && fitsI (entR P X at_).1 (entR P X at_).2.1 (plI P at_).2 (hwI h.1 h.2.1 h.2.2.1) ((P : Int) + 1) (plI P at_).1)
def wsR (X : List Int) (aN n : Nat) : List Int := (List.range n).map fun i => wrap64 (X.getD (aN + 1 + i) 0)
/-- What is looked at: address, class, kind, words; the error. -/
def lookR (P : Nat) (X : List Int) (ns : List Nat) (at_ : Int) : Int × Int × Int × List Int × Int :=
  if allR P X at_ = true then
    (if okR P X ns at_ (decH (X.getD at_.toNat 0)) = true then (at_, (decH (X.getD at_.toNat 0)).1, (decH (X.getD at_.toNat 0)).2.1, wsR X at_.toNat (decH (X.getD at_.toNat 0)).2.2.1.toNat, 0) else (0, 0, 0, [], 4))
  else (0, 0, 0, [], 5)
theorem wsR_len (X : List Int) (aN n : Nat) : (wsR X aN n).length = n := by simp [wsR]
theorem wsR_succ (X : List Int) (aN n : Nat) : wsR X aN (n + 1) = wsR X aN n ++ [wrap64 (X.getD (aN + 1 + n) 0)] := by simp [wsR, List.range_succ]
theorem allR_in {P : Nat} {X : List Int} {at_ : Int} (h : allR P X at_ = true) : ∃ aN i j : Nat, at_ = aN ∧ plI P at_ = ((i : Int), (j : Int)) ∧ i ≤ P ∧ j < 64 ∧ aN = 64 + 64 * i + j := by
  unfold allR at h
  by_cases hz : (plI P at_).1 < 0
  · rw [if_pos hz] at h; cases h
  · clear h
    unfold plI at hz ⊢
    by_cases hr : 64 ≤ at_ ∧ at_ < 128 + 64 * (P : Int)
    · rw [if_pos hr]
      exact ⟨at_.toNat, ((at_ - 64) / 64).toNat, ((at_ - 64) % 64).toNat, by omega, by ext <;> simp only <;> omega, by omega, by omega, by omega⟩
    · rw [if_neg hr] at hz; simp at hz
theorem allI_k {k c f al : Int} {j : Nat} (h : allI k c f al j = true) : f = 0 ∧ (k = 1 ∧ cellI c j = j ∨ k = 2 ∧ j = 0) := by
  unfold allI at h
  by_cases h1 : f = 0 ∧ ¬ (bits BinOp.and IntKind.u64 (al / 2 ^ j) 1 = 0)
  · rw [if_pos h1] at h
    refine ⟨h1.1, ?_⟩
    by_cases hk : k = 1
    · rw [if_pos hk] at h; exact .inl ⟨hk, by simpa using h⟩
    · rw [if_neg hk] at h
      by_cases hk2 : k = 2
      · rw [if_pos hk2] at h; exact .inr ⟨hk2, by simpa using h⟩
      · rw [if_neg hk2] at h; cases h
  · rw [if_neg h1] at h; cases h
/-- An object that fits lies among the cells. -/
theorem ok_in {P : Nat} {k c f al hw : Int} {i j : Nat} (hi : i ≤ P) (ha : allI k c f al j = true) (hw1 : 1 ≤ hw) (hw2 : hw ≤ 256) (hf : fitsI k c (j : Int) hw ((P : Int) + 1) (i : Int) = true) : ((64 + 64 * i + j : Nat) : Int) + hw ≤ 128 + 64 * (P : Int) := by
  obtain ⟨_, ⟨rfl, _⟩ | ⟨rfl, rfl⟩⟩ := allI_k ha
  · unfold fitsI at hf
    rw [if_neg (by decide)] at hf
    simp only [decide_eq_true_eq] at hf
    omega
  · unfold fitsI at hf
    rw [if_pos rfl] at hf
    simp only [decide_eq_true_eq] at hf
    obtain ⟨_, _, h3⟩ := hf
    unfold pgI at h3
    split at h3
    · omega
    · omega
variable {w0 w : World} {F : List HP} {a gC t : Nat} {lv : Value} {cn fl : Int} {X : List Int} {vL vM : Value} {E : List Cl}
theorem fits_g {k c s o y fi hc hk hn p pg : Int} (hp0 : 0 ≤ pg) (hp1 : pg ≤ 100) (hf0 : 0 ≤ fi) (hf1 : fi ≤ 100) {w : World} (h : Tab w) : Calls Tryd.prog 87 #[.agg #[.int .i64 k, .int .i64 c, .int .i64 s, .int .i64 o, .int .i64 y], .int .i64 fi, .agg #[.int .i64 hc, .int .i64 hk, .int .i64 hn], .int .i64 p, .int .i64 pg] w fun e w' => e = .returned (.bool (fitsI k c fi (hwI hc hk hn) p pg)) ∧ Below w.heap.size w w' := by
  by_cases h2 : k = 2
  · subst h2; exact fits_large hp0 hp1
  · exact fits_small h2 hf0 hf1 h
theorem allocated_g {P : Nat} (hP : P < 5) (hX : X.length = 128 + 64 * P) (hr : ∀ i, 0 ≤ X.getD i 0 ∧ X.getD i 0 < 18446744073709551616) (at_ : Int) (hT : Tab w0) (h : St w0 w (arB a gC X.length lv true cn fl :: ceB gC X :: F)) :
    Calls Tryd.prog 25 #[.pointer (some ⟨a, 0, none⟩), .agg #[.int .i64 ((P : Int) + 1), .int .i64 1, .int .i64 1], .int .i64 at_] w fun e w' => e = .returned (.bool (allR P X at_)) ∧ St w0 w' (arB a gC X.length lv true cn fl :: ceB gC X :: F) := by
  by_cases hz : (plI P at_).1 < 0
  · have := allocated_none hP hz h
    unfold allR
    rw [if_pos hz]
    exact this
  · obtain ⟨i, j, hz2, hi, hj⟩ : ∃ i j : Nat, plI P at_ = ((i : Int), (j : Int)) ∧ i ≤ P ∧ j < 64 := by
      unfold plI at hz ⊢
      by_cases hr : 64 ≤ at_ ∧ at_ < 128 + 64 * (P : Int)
      · rw [if_pos hr]
        exact ⟨((at_ - 64) / 64).toNat, ((at_ - 64) % 64).toNat, by ext <;> simp only <;> omega, by omega, by omega⟩
      · rw [if_neg hr] at hz; simp at hz
    unfold allR entR
    rw [if_neg hz, hz2]
    simp only [Int.toNat_natCast]
    exact allocated_c hP hz2 hi hj hX rfl rfl (hr _).1 (hr _).2 rfl hT h
theorem look_c {P : Nat} (hP : P < 5) (hX : X.length = 128 + 64 * P) (hr : ∀ i, 0 ≤ X.getD i 0 ∧ X.getD i 0 < 18446744073709551616) (at_ : Int) (hT : Tab w0) (h : St w0 w (arB a gC X.length lv true cn fl :: ceB gC X :: tbB t vL vM :: tbR vL E :: F)) :
    Calls Tryd.prog 23 #[.pointer (some ⟨a, 0, none⟩), .agg #[.int .i64 ((P : Int) + 1), .int .i64 1, .int .i64 1], .pointer (some ⟨t, 0, none⟩), .int .i64 at_] w fun e w' => ∃ V, e = .returned (.tuple #[.agg #[.int .i64 (lookR P X (E.map Cl.n) at_).1, .int .i64 (lookR P X (E.map Cl.n) at_).2.1, .int .i64 (lookR P X (E.map Cl.n) at_).2.2.1, V], .int .i64 (lookR P X (E.map Cl.n) at_).2.2.2.2]) ∧
      St w0 w' (row 2 1 V (lookR P X (E.map Cl.n) at_).2.2.2.1.length ((lookR P X (E.map Cl.n) at_).2.2.2.1.map (.int .i64)) :: arB a gC X.length lv true cn fl :: ceB gC X :: tbB t vL vM :: tbR vL E :: F) := by
  have KA := Aside.mk (fun (w : World) (L : List HP) (h : St w0 w (arB a gC X.length lv true cn fl :: ceB gC X :: L)) => allocated_g hP hX hr at_ hT h)
  have HTS : Aside (∀ (w : World) (L : List HP), St w0 w L → Tab w) := ⟨fun _ _ hh => hT.st hh⟩
  have H : Aside (St w0 _ (blk (w.heap.size + 1) #[.int .i64 0, .int .i64 0, .int .i64 0, .slice none 0 0] 60 :: blk w.heap.size #[.int .i64 ((P : Int) + 1), .int .i64 1, .int .i64 1] 40 :: arB a gC X.length lv true cn fl :: ceB gC X :: tbB t vL vM :: tbR vL E :: F)) := Aside.mk (by have := (h.alloc #[.int .i64 ((P : Int) + 1), .int .i64 1, .int .i64 1] 40).alloc #[.int .i64 0, .int .i64 0, .int .i64 0, .slice none 0 0] 60; simpa using this)
  unfold lookR
  by_cases hall : allR P X at_ = true
  case neg =>
    rw [if_neg hall]
    rw [show allR P X at_ = false by simpa using hall] at KA
    clear h hX hr hT hP hall
    go_enter Tryd.func23, Tryd.ntmps23
    go_wp2_with (first
      | (go_at_call 25; refine (KA.out _ _ (H.out.order 4 [2, 3, 0, 1] rfl rfl)).mono ?_; rintro e w1 ⟨rfl, h9⟩; replace H := Aside.mk h9; clear h9)
      | (with_reducible refine stop_at (.store 60 (.tmp 8) (.tmp 28)) rfl ?_))
    refine ⟨?_⟩
    refine st_store rfl rfl rfl [.int .i64 0, .int .i64 0, .int .i64 0, .slice none 0 0] #[.int .i64 0, .int .i64 0, .int .i64 0, .slice none 0 0] rfl rfl rfl (Nat.le_of_ble_eq_true rfl) (by simp [Value.oneCell']) (H.out.pick 2 rfl) rfl ?_
    intro w90 h_
    have H := Aside.mk h_
    have o0 := h_.cell 0
    have o1 := h_.cell 1
    have o2 := h_.cell 2
    have o3 := h_.cell 3
    clear h_
    go_wp2
    refine bodyPost_ret (results_ct rfl _ _ _ 60 #[.int .i64 0, .int .i64 0, .int .i64 0, .slice none 0 0] (0, 0) _ rfl H.out.heap Tryd.underlying60 rfl (by kernel_rfl)) rfl ?_
    exact ⟨.slice none 0 0, rfl, ((H.out.order 4 [0, 3, 1, 2] rfl rfl).rest.rest.nil_row 2 1)⟩
  case pos =>
  rw [if_pos hall]
  rw [hall] at KA
  obtain ⟨aN, i, j, rfl, hz, hi, hj, hN⟩ := allR_in hall
  have P1 := Aside.mk (place_ P hP (aN : Int))
  rw [hz] at P1
  have P2 : Aside (layout_Plan_Entry.f ((P : Int) + 1) 1 1 (i : Int) = some ((22 + i : Nat) : Int)) := ⟨by have := pl_entry ⟨P, hP⟩ ⟨i, by omega⟩ hi; simp only at this; rw [this]; push_cast; rfl⟩
  have K1 := Aside.mk (fun (w : World) (L : List HP) (h : St w0 w (arB a gC X.length lv true cn fl :: ceB gC X :: L)) => peekv_ (22 + i) _ (by omega) rfl h)
  have K2 := Aside.mk (fun (w : World) (L : List HP) (h : St w0 w (arB a gC X.length lv true cn fl :: ceB gC X :: L)) => peekv_ aN _ (by omega) rfl h)
  have hu9 := hr aN
  simp only [Int.toNat_natCast]
  unfold okR
  have hokin : ∀ c k n : Int, isH c k n = true → fitsI (entR P X aN).1 (entR P X aN).2.1 (plI P aN).2 (hwI c k n) ((P : Int) + 1) (plI P aN).1 = true → ∃ nn : Nat, n = nn ∧ nn ≤ 255 ∧ aN + nn < 128 + 64 * P := by
    intro c k n hh hf
    have hn : 0 ≤ n ∧ n ≤ 255 := by simp only [isH, decide_eq_true_eq] at hh; omega
    have hw : hwI c k n = 1 + n := by unfold hwI; rw [if_pos hh]
    have ha := hall
    unfold allR at ha
    rw [hz] at ha hf
    rw [if_neg (by simp)] at ha
    simp only [Int.toNat_natCast] at ha hf
    have := ok_in hi ha (by omega) (by omega) hf
    exact ⟨n.toNat, by omega, by omega, by omega⟩
  obtain ⟨ek, ec, es, eo, ey, ef⟩ : ∃ q : Int × Int × Int × Int × Int × Int, True := ⟨(0, 0, 0, 0, 0, 0), trivial⟩
  obtain ⟨ek, ec, es, eo, ey, ef, he⟩ : ∃ ek ec es eo ey ef, entR P X aN = (ek, ec, es, eo, ey, ef) := ⟨_, _, _, _, _, _, rfl⟩
  have he2 : dec (X.getD (22 + i) 0) = (ek, ec, es, eo, ey, ef) := by rw [← he]; unfold entR; rw [hz]; simp
  have KD := Aside.mk (fun w : World => dec_ci (hr (22 + i)).1 (hr (22 + i)).2 he2 w)
  have hhd : (decH (X.getD aN 0)).2.2.2 = 0 → isH (decH (X.getD aN 0)).1 (decH (X.getD aN 0)).2.1 (decH (X.getD aN 0)).2.2.1 = true := decH_ok
  rw [he, hz] at hokin ⊢
  simp only at hokin ⊢
  clear hz he he2 hall
  obtain ⟨c, k, n, f, hq9⟩ : ∃ c k n f, decH (X.getD aN 0) = (c, k, n, f) := ⟨_, _, _, _, rfl⟩
  have PD := Aside.mk (fun w : World => dhead_c hu9.1 hu9.2 hq9 w)
  rw [hq9] at hhd ⊢
  clear hq9 hu9
  simp only at hhd ⊢
  obtain ⟨R, hR⟩ : ∃ R : Int × Int × Int × List Int × Int, R = (if (decide (f = 0) && (fitT (E.map Cl.n) c k n && fitsI ek ec (j : Int) (hwI c k n) ((P : Int) + 1) (i : Int))) = true then ((aN : Int), c, k, wsR X aN n.toNat, 0) else (0, 0, 0, [], 4)) := ⟨_, rfl⟩
  rw [← hR]
  have HRE := Aside.mk hR
  clear hR
  have HHD := Aside.mk hhd
  have HOK := Aside.mk hokin
  have HR := Aside.mk hr
  have HXX := Aside.mk hX
  have HI := Aside.mk (And.intro hi hj)
  have HPp := Aside.mk hP
  have HNA := Aside.mk hN
  clear h hr hX hT hP hi hj hhd hokin hN
  generalize X.getD aN 0 = v at *
  generalize X.getD (22 + i) 0 = ve at *
  generalize 22 + i = ea at *
  go_enter Tryd.func23, Tryd.ntmps23
  go_wp2_with (first
    | (go_at_call 25; refine (KA.out _ _ (H.out.order 4 [2, 3, 0, 1] rfl rfl)).mono ?_; rintro e w1 ⟨rfl, h9⟩; replace H := Aside.mk h9; clear h9)
    | (go_at_call 19; refine (K2.out _ _ H.out).mono ?_; rintro e w2 ⟨rfl, rfl⟩)
    | (with_reducible refine stop_at (.store 43 (.tmp 12) (.tmp 42)) rfl ?_)
    | (go_at_call 82; refine (PD.out _).mono ?_; rintro e w3 ⟨rfl, hb⟩; replace H := Aside.mk (H.out.step hb); clear hb))
  replace H := Aside.mk (H.out.alloc #[.int .i64 0, .int .i64 0, .int .i64 0] 43)
  generalize w3.heap.size = hb at H ⊢
  refine ⟨?_⟩
  refine st_store rfl rfl rfl [.int .i64 c, .int .i64 k, .int .i64 n] #[.int .i64 c, .int .i64 k, .int .i64 n] rfl rfl rfl (Nat.le_of_ble_eq_true rfl) (by simp [Value.oneCell']) H.out rfl ?_
  intro w4 h_
  replace H : Aside (St w0 w4 (blk hb #[.int .i64 c, .int .i64 k, .int .i64 n] 43 :: arB a gC X.length lv true cn fl :: ceB gC X :: blk (w.heap.size + 1) #[.int .i64 0, .int .i64 0, .int .i64 0, .slice none 0 0] 60 :: blk w.heap.size #[.int .i64 ((P : Int) + 1), .int .i64 1, .int .i64 1] 40 :: tbB t vL vM :: tbR vL E :: F)) := Aside.mk h_
  clear h_ KA K2
  have z0 := H.out.cell 0
  have z1 := H.out.cell 1
  have z2 := H.out.cell 2
  by_cases hf : f = 0
  case neg =>
    have df : (f != 0) = true := by simp; exact hf
    have HR4 : Aside (R = (0, 0, 0, [], 4)) := ⟨by rw [HRE.out, if_neg (by simp [hf])]⟩
    clear hf
    go_wp2_with (with_reducible refine stop_at (.store 60 (.tmp 8) (.tmp 52)) rfl ?_)
    refine ⟨?_⟩
    refine st_store rfl rfl rfl [.int .i64 0, .int .i64 0, .int .i64 0, .slice none 0 0] #[.int .i64 0, .int .i64 0, .int .i64 0, .slice none 0 0] rfl rfl rfl (Nat.le_of_ble_eq_true rfl) (by simp [Value.oneCell']) (H.out.pick 3 rfl) rfl ?_
    intro w90 h_
    have H := Aside.mk h_
    have o0 := h_.cell 0
    have o1 := h_.cell 1
    have o2 := h_.cell 2
    have o3 := h_.cell 3
    clear h_
    go_wp2
    refine bodyPost_ret (results_ct rfl _ _ _ 60 #[.int .i64 0, .int .i64 0, .int .i64 0, .slice none 0 0] (0, 0) _ rfl H.out.heap Tryd.underlying60 rfl (by kernel_rfl)) rfl ?_
    rw [HR4.out]
    exact ⟨.slice none 0 0, rfl, ((H.out.order 5 [0, 1, 4, 2, 3] rfl rfl).rest.rest.rest.nil_row 2 1)⟩
  case pos =>
  subst hf
  have hh := HHD.out rfl
  have HFT := Aside.mk (fun (w1 : World) (L : List HP) (h : St w0 w1 (tbB t vL vM :: tbR vL E :: L)) => fits_t (c := c) (k := k) (n := n) h)
  by_cases hft : fitT (E.map Cl.n) c k n = true
  case neg =>
    have hft2 : fitT (E.map Cl.n) c k n = false := by simpa using hft
    rw [hft2] at HFT
    have HR4 : Aside (R = (0, 0, 0, [], 4)) := ⟨by rw [HRE.out, if_neg (by rw [hft2]; simp)]⟩
    clear hft2
    clear hft hh
    go_wp2_with (first
      | (go_at_call 83; refine (HFT.out _ _ (H.out.order 7 [5, 6, 0, 1, 2, 3, 4] rfl rfl)).mono ?_; rintro e w5 ⟨rfl, h9⟩; replace H : Aside (St w0 w5 (blk hb #[.int .i64 c, .int .i64 k, .int .i64 n] 43 :: arB a gC X.length lv true cn fl :: ceB gC X :: blk (w.heap.size + 1) #[.int .i64 0, .int .i64 0, .int .i64 0, .slice none 0 0] 60 :: blk w.heap.size #[.int .i64 ((P : Int) + 1), .int .i64 1, .int .i64 1] 40 :: tbB t vL vM :: tbR vL E :: F)) := Aside.mk (h9.order 7 [2, 3, 4, 5, 6, 0, 1] rfl rfl); clear h9 z0 z1 z2)
      | (with_reducible refine stop_at (.store 60 (.tmp 8) (.tmp 52)) rfl ?_))
    refine ⟨?_⟩
    refine st_store rfl rfl rfl [.int .i64 0, .int .i64 0, .int .i64 0, .slice none 0 0] #[.int .i64 0, .int .i64 0, .int .i64 0, .slice none 0 0] rfl rfl rfl (Nat.le_of_ble_eq_true rfl) (by simp [Value.oneCell']) (H.out.pick 3 rfl) rfl ?_
    intro w90 h_
    have H := Aside.mk h_
    have o0 := h_.cell 0
    have o1 := h_.cell 1
    have o2 := h_.cell 2
    have o3 := h_.cell 3
    clear h_
    go_wp2
    refine bodyPost_ret (results_ct rfl _ _ _ 60 #[.int .i64 0, .int .i64 0, .int .i64 0, .slice none 0 0] (0, 0) _ rfl H.out.heap Tryd.underlying60 rfl (by kernel_rfl)) rfl ?_
    rw [HR4.out]
    exact ⟨.slice none 0 0, rfl, ((H.out.order 5 [0, 1, 4, 2, 3] rfl rfl).rest.rest.rest.nil_row 2 1)⟩
  case pos =>
  rw [hft] at HFT
  have HFG := Aside.mk (fun (w1 : World) (h : Tab w1) => fits_g (k := ek) (c := ec) (s := es) (o := eo) (y := ey) (fi := (j : Int)) (hc := c) (hk := k) (hn := n) (p := (P : Int) + 1) (pg := (i : Int)) (by omega) (by have := HPp.out; have := HI.out; omega) (by omega) (by have := HI.out; omega) h)
  have HOK2 := Aside.mk (HOK.out c k n hh)
  have HFT2 := Aside.mk hft
  clear hft hh
  go_wp2_with (first
    | (go_at_call 83; refine (HFT.out _ _ (H.out.order 7 [5, 6, 0, 1, 2, 3, 4] rfl rfl)).mono ?_; rintro e w5 ⟨rfl, h9⟩; replace H : Aside (St w0 w5 (blk hb #[.int .i64 c, .int .i64 k, .int .i64 n] 43 :: arB a gC X.length lv true cn fl :: ceB gC X :: blk (w.heap.size + 1) #[.int .i64 0, .int .i64 0, .int .i64 0, .slice none 0 0] 60 :: blk w.heap.size #[.int .i64 ((P : Int) + 1), .int .i64 1, .int .i64 1] 40 :: tbB t vL vM :: tbR vL E :: F)) := Aside.mk (h9.order 7 [2, 3, 4, 5, 6, 0, 1] rfl rfl); clear h9 z0 z1 z2; have y0 := (H.out.pick 4 rfl).cell 0; have y1 := (H.out.pick 4 rfl).cell 1; have y2 := (H.out.pick 4 rfl).cell 2)
    | (go_at_call 84; refine (layout_Plan_Place.calls _ _ _ _ _ _ _ P1.out).mono ?_; rintro e w6 ⟨rfl, hb⟩; replace H := Aside.mk (H.out.step hb); clear hb y0 y1 y2; have x0 := (H.out.pick 4 rfl).cell 0; have x1 := (H.out.pick 4 rfl).cell 1; have x2 := (H.out.pick 4 rfl).cell 2)
    | (go_at_call 85; refine (layout_Plan_Entry.calls _ _ _ _ _ _ P2.out).mono ?_; rintro e w7 ⟨rfl, hb⟩; replace H := Aside.mk (H.out.step hb); clear hb x0 x1 x2)
    | (with_reducible refine stop_at (.store 168 (.tmp 17) (.tmp 70)) rfl ?_)
    | (go_at_call 86; refine (KD.out _).mono ?_; rintro e w8 ⟨rfl, hb⟩; replace H := Aside.mk (H.out.step hb); clear hb)
    | (go_at_call 19; refine (K1.out _ _ (H.out.order 3 [1, 2, 0] rfl rfl)).mono ?_; rintro e w9 ⟨rfl, rfl⟩))
  replace H := Aside.mk (H.out.alloc #[.int .i64 0, .int .i64 0, .int .i64 0, .int .i64 0, .int .i64 0] 168)
  generalize w8.heap.size = en at H ⊢
  refine ⟨?_⟩
  refine st_store rfl rfl rfl [.int .i64 ek, .int .i64 ec, .int .i64 es, .int .i64 eo, .int .i64 ey] #[.int .i64 ek, .int .i64 ec, .int .i64 es, .int .i64 eo, .int .i64 ey] rfl rfl rfl (Nat.le_of_ble_eq_true rfl) (by simp [Value.oneCell']) H.out rfl ?_
  intro w10 h_
  replace H : Aside (St w0 w10 (blk en #[.int .i64 ek, .int .i64 ec, .int .i64 es, .int .i64 eo, .int .i64 ey] 168 :: blk hb #[.int .i64 c, .int .i64 k, .int .i64 n] 43 :: arB a gC X.length lv true cn fl :: ceB gC X :: blk (w.heap.size + 1) #[.int .i64 0, .int .i64 0, .int .i64 0, .slice none 0 0] 60 :: blk w.heap.size #[.int .i64 ((P : Int) + 1), .int .i64 1, .int .i64 1] 40 :: tbB t vL vM :: tbR vL E :: F)) := Aside.mk h_
  clear h_
  have HT8 := Aside.mk (HTS.out _ _ H.out)
  have e0 := H.out.cell 0
  have e1 := H.out.cell 1
  have e2 := H.out.cell 2
  have e3 := H.out.cell 3
  have e4 := H.out.cell 4
  have z0 := (H.out.pick 1 rfl).cell 0
  have z1 := (H.out.pick 1 rfl).cell 1
  have z2 := (H.out.pick 1 rfl).cell 2
  have x0 := (H.out.pick 5 rfl).cell 0
  by_cases hff : fitsI ek ec (j : Int) (hwI c k n) ((P : Int) + 1) (i : Int) = true
  case neg =>
    have hff2 : fitsI ek ec (j : Int) (hwI c k n) ((P : Int) + 1) (i : Int) = false := by simpa using hff
    rw [hff2] at HFG
    have HR4 : Aside (R = (0, 0, 0, [], 4)) := ⟨by rw [HRE.out, if_neg (by rw [hff2]; simp)]⟩
    clear hff2
    clear hff
    go_wp2_with (first
      | (go_at_call 87; refine (HFG.out _ HT8.out).mono ?_; rintro e w11 ⟨rfl, hb⟩; replace H := Aside.mk (H.out.step hb); clear hb z0 z1 z2 e0 e1 e2 e3 e4 x0)
      | (with_reducible refine stop_at (.store 60 (.tmp 8) (.tmp 80)) rfl ?_))
    refine ⟨?_⟩
    refine st_store rfl rfl rfl [.int .i64 0, .int .i64 0, .int .i64 0, .slice none 0 0] #[.int .i64 0, .int .i64 0, .int .i64 0, .slice none 0 0] rfl rfl rfl (Nat.le_of_ble_eq_true rfl) (by simp [Value.oneCell']) (H.out.pick 4 rfl) rfl ?_
    intro w90 h_
    have H := Aside.mk h_
    have o0 := h_.cell 0
    have o1 := h_.cell 1
    have o2 := h_.cell 2
    have o3 := h_.cell 3
    clear h_
    go_wp2
    refine bodyPost_ret (results_ct rfl _ _ _ 60 #[.int .i64 0, .int .i64 0, .int .i64 0, .slice none 0 0] (0, 0) _ rfl H.out.heap Tryd.underlying60 rfl (by kernel_rfl)) rfl ?_
    rw [HR4.out]
    exact ⟨.slice none 0 0, rfl, ((H.out.order 6 [0, 1, 2, 5, 3, 4] rfl rfl).rest.rest.rest.rest.nil_row 2 1)⟩
  case pos =>
  obtain ⟨nn, rfl, hn255, hin⟩ := HOK2.out hff
  have HR0 : Aside (R = ((aN : Int), c, k, wsR X aN nn, 0)) := ⟨by rw [HRE.out, if_pos (by rw [HFT2.out, hff]; simp), Int.toNat_natCast]⟩
  rw [hff] at HFG
  have HN255 := Aside.mk hn255
  have HIN := Aside.mk hin
  have K3 := Aside.mk (fun (i : Nat) (hi : i < nn) (w : World) (L : List HP) (h : St w0 w (arB a gC X.length lv true cn fl :: ceB gC X :: L)) => peekv_ (aN + 1 + i) _ (by have := HXX.out; omega) rfl h)
  have PF : Aside (∀ i : Nat, i < nn → objects_Field.f (aN : Int) (i : Int) = some ((aN + 1 + i : Nat) : Int)) := ⟨fun i hi => by unfold objects_Field.f; have := HPp.out; congr 1; rw [show wrap64 ((aN : Int) + 1) = (aN : Int) + 1 by unfold wrap64; omega]; unfold wrap64; omega⟩
  clear hff hn255 hin HOK HOK2 HHD
  go_wp2_with (first
    | (go_at_call 87; refine (HFG.out _ HT8.out).mono ?_; rintro e w11 ⟨rfl, hb⟩; replace H := Aside.mk (H.out.step hb); clear hb z0 z1 z2 e0 e1 e2 e3 e4 x0; have z0 := (H.out.pick 1 rfl).cell 0; have z1 := (H.out.pick 1 rfl).cell 1)
    | (with_reducible refine stop_at (.store 60 (.tmp 19) (.tmp 86)) rfl ?_))
  replace H := Aside.mk (H.out.alloc #[.int .i64 0, .int .i64 0, .int .i64 0, .slice none 0 0] 60)
  generalize w11.heap.size = cb at H ⊢
  refine ⟨?_⟩
  refine st_store rfl rfl rfl [.int .i64 aN, .int .i64 c, .int .i64 k, .slice none 0 0] #[.int .i64 aN, .int .i64 c, .int .i64 k, .slice none 0 0] rfl rfl rfl (Nat.le_of_ble_eq_true rfl) (by simp [Value.oneCell']) H.out rfl ?_
  intro w12 h_
  replace H : Aside (St w0 w12 (blk cb #[.int .i64 aN, .int .i64 c, .int .i64 k, (.slice none 0 0)] 60 :: row 2 1 (.slice none 0 0) (wsR X aN 0).length ((wsR X aN 0).map (.int .i64)) :: blk hb #[.int .i64 c, .int .i64 k, .int .i64 nn] 43 :: blk (w.heap.size + 1) #[.int .i64 0, .int .i64 0, .int .i64 0, .slice none 0 0] 60 :: arB a gC X.length lv true cn fl :: ceB gC X :: tbB t vL vM :: tbR vL E :: F)) := Aside.mk (((h_.order 7 [1, 6, 0, 2, 5, 3, 4] rfl rfl).rest.rest.nil_row 2 1).order 2 [1, 0] rfl rfl)
  clear h_ HT8 z0 z1
  have z2 := (H.out.pick 2 rfl).cell 2
  go_upto_block 0 with fail
  go_cut [20, 21, 22, 89] (fun v20 v21 v22 v89 wc => ∃ V, Aside (St w0 wc (blk cb #[.int .i64 aN, .int .i64 c, .int .i64 k, V] 60 :: row 2 1 V (wsR X aN nn).length ((wsR X aN nn).map (.int .i64)) :: blk hb #[.int .i64 c, .int .i64 k, .int .i64 nn] 43 :: blk (w.heap.size + 1) #[.int .i64 0, .int .i64 0, .int .i64 0, .slice none 0 0] 60 :: arB a gC X.length lv true cn fl :: ceB gC X :: tbB t vL vM :: tbR vL E :: F)))
  case first =>
    go_wp2_with fail
    go_loopg [20, 21, 22, 89] (nn) (fun m v20 v21 v22 v89 w' => ∃ (i : Nat) (V : Value), m = nn - i ∧ i ≤ nn ∧ v89 = .int .i64 i ∧ Aside (St w0 w' (blk cb #[.int .i64 aN, .int .i64 c, .int .i64 k, V] 60 :: row 2 1 V (wsR X aN i).length ((wsR X aN i).map (.int .i64)) :: blk hb #[.int .i64 c, .int .i64 k, .int .i64 nn] 43 :: blk (w.heap.size + 1) #[.int .i64 0, .int .i64 0, .int .i64 0, .slice none 0 0] 60 :: arB a gC X.length lv true cn fl :: ceB gC X :: tbB t vL vM :: tbR vL E :: F)))
    case atStart => exact ⟨0, _, rfl, Nat.zero_le _, rfl, H⟩
    case round =>
      clear H z2
      obtain ⟨i, V, rfl, hi, rfl, H⟩ := hrel
      by_cases hlt : i < nn
      · have d1 : decide ((i : Int) < (nn : Int)) = true := by simp; omega
        have n1 : (i : Int) < (nn : Int) := by omega
        have K4 := Aside.mk (K3.out i hlt)
        have PF4 := Aside.mk (PF.out i hlt)
        have HWS := Aside.mk (wsR_succ X aN i)
        have HWL := Aside.mk (wsR_len X aN i)
        have HI2 := Aside.mk hlt
        generalize X.getD (aN + 1 + i) 0 = u at K4 HWS
        clear hi hlt
        go_wp2_with (first
          | (go_at_call 28; refine (objects_Field.calls _ _ _ _ PF4.out).mono ?_; rintro e w13 ⟨rfl, hb⟩; replace H := Aside.mk (H.out.step hb.below); clear hb)
          | (with_reducible refine stop_at (.store 58 (.tmp 106) (.tmp 105)) rfl ?_)
          | (go_at_call 19; refine (K4.out _ _ (H.out.order 8 [4, 5, 0, 1, 2, 3, 6, 7] rfl rfl)).mono ?_; rintro e w14 ⟨rfl, rfl⟩; have c3 := H.out.cell 3)
          | (at_builtin; refine app64 rfl (.tmp 101) (.tmp 104) rfl _ _ (wrap64 u) rfl rfl (H.out.pick 1 rfl) (by have := HWL.out; have := HI2.out; have := HN255.out; omega) ?_; intro V9 w15 h9; obtain ⟨A9, c9, hv9, _, _⟩ := h9.row_slice; subst hv9; simp only [List.length_append, List.length_cons, List.length_nil, Nat.zero_add] at h9; replace H := Aside.mk (h9.order 2 [1, 0] rfl rfl); clear h9 c3))
        refine ⟨?_⟩
        refine st_store rfl rfl rfl [.slice A9 ((wsR X aN i).length + 1) c9] #[.int .i64 aN, .int .i64 c, .int .i64 k, .slice A9 ((wsR X aN i).length + 1) c9] rfl rfl rfl (Nat.le_of_ble_eq_true rfl) (by simp [Value.oneCell']) H.out rfl ?_
        intro w16 h_
        replace H : Aside (St w0 w16 (blk cb #[.int .i64 aN, .int .i64 c, .int .i64 k, (.slice A9 ((wsR X aN i).length + 1) c9)] 60 :: row 2 1 (.slice A9 ((wsR X aN i).length + 1) c9) (wsR X aN (i + 1)).length ((wsR X aN (i + 1)).map (.int .i64)) :: blk hb #[.int .i64 c, .int .i64 k, .int .i64 nn] 43 :: blk (w.heap.size + 1) #[.int .i64 0, .int .i64 0, .int .i64 0, .slice none 0 0] 60 :: arB a gC X.length lv true cn fl :: ceB gC X :: tbB t vL vM :: tbR vL E :: F)) := Aside.mk (by rw [HWS.out, List.length_append]; exact h_)
        clear h_
        go_wp2
        go_roundg (nn - (i + 1))
        case measure => have := HI2.out; omega
        case rel => exact ⟨i + 1, _, rfl, HI2.out, by first | rfl | (have := HI2.out; have := HN255.out; simp only [Value.int.injEq, true_and]; unfold wrap64; omega), H⟩
      · obtain rfl : i = nn := by omega
        have d1 : decide ((i : Int) < (i : Int)) = false := by simp
        clear hi hlt
        go_wp2
        go_meet
        case rel => exact ⟨V, H⟩
  case rest =>
    clear H z2
    obtain ⟨V, H⟩ := hcut
    obtain ⟨A9, c9, hv9, _, _⟩ := (H.out.pick 1 rfl).row_slice
    subst hv9
    have c0 := H.out.cell 0
    have c1 := H.out.cell 1
    have c2 := H.out.cell 2
    have c3 := H.out.cell 3
    go_wp2_with (with_reducible refine stop_at (.store 60 (.tmp 8) (.tmp 108)) rfl ?_)
    refine ⟨?_⟩
    refine st_store rfl rfl rfl [.int .i64 aN, .int .i64 c, .int .i64 k, .slice A9 (wsR X aN nn).length c9] #[.int .i64 aN, .int .i64 c, .int .i64 k, .slice A9 (wsR X aN nn).length c9] rfl rfl rfl (Nat.le_of_ble_eq_true rfl) (by simp [Value.oneCell']) (H.out.pick 3 rfl) rfl ?_
    intro w17 h_
    have H := Aside.mk h_
    have o0 := h_.cell 0
    have o1 := h_.cell 1
    have o2 := h_.cell 2
    have o3 := h_.cell 3
    clear h_
    go_wp2
    refine bodyPost_ret (results_ct rfl _ _ _ 60 #[.int .i64 aN, .int .i64 c, .int .i64 k, .slice A9 (wsR X aN nn).length c9] (0, 0) _ rfl H.out.heap Tryd.underlying60 rfl (by kernel_rfl)) rfl ?_
    rw [HR0.out]
    exact ⟨.slice A9 (wsR X aN nn).length c9, rfl, (H.out.order 4 [0, 1, 3, 2] rfl rfl).rest.rest.rest⟩
end Go.Proofs.YtelfiegocdjnoaaDoor.Ar
