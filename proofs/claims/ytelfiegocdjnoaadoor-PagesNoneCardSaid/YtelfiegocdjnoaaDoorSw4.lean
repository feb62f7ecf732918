/- A sweep's step, all of them in one: which access it makes, what it is behind it. Conditions: the arena's port has a grant; the plan is right; the page is one of its pages. -/
import Derived.Test.YtelfiegocdjnoaaDoorSw3
import Derived.Test.YtelfiegocdjnoaaDoorPw
import Derived.Test.YtelfiegocdjnoaaDoorMrF0
namespace Go.Proofs.YtelfiegocdjnoaaDoor.Ar
open Go Go.RowKit Go.Proofs.YtelfiegocdjnoaaDoor.Sep Go.Proofs.YtelfiegocdjnoaaDoor.Pg Go.Proofs.YtelfiegocdjnoaaDoorW.PrintWords Go.Proofs.YtelfiegocdjnoaaDoorW.PrintLast Go.Proofs.YtelfiegocdjnoaaDoorW.PrintMore Go.Proofs.YtelfiegocdjnoaaDoor.Q
set_option linter.unusedVariables false
set_option linter.unusedSimpArgs false
set_option maxHeartbeats 8000000
set_option maxRecDepth 100000
abbrev u64 (v : Int) : Prop := 0 ≤ v ∧ v < 18446744073709551616
def worker (o : Int) : Prop := (0 ≤ o ∧ o < 6) ∨ o = 15
theorem isE_kc {k c s o y : Int} (h : isE k c s o y = true) : (k = 1 → 0 ≤ c ∧ c < 8) ∧ (k = 2 → 1 ≤ c ∧ c ≤ 4) ∧ 0 ≤ y ∧ y ≤ 4294967295 := by
  unfold isE at h
  split at h
  · cases h
  · rename_i h1
    refine ⟨fun hk => ?_, fun hk => ?_, by omega, by omega⟩
    · subst hk
      simpa using h
    · subst hk
      simpa using h
theorem isE_busy {k c s o y t : Int} (h : isE k c s o y = true) (hk : k = 1 ∨ k = 2) (ht : worker t) : isE k c 2 t y = true := by
  obtain ⟨h1, h2, h3, h4⟩ := isE_kc h
  have ho : own k 2 t = true := by
    unfold own
    rw [if_neg (by decide), if_neg (by decide), if_pos rfl]
    rcases ht with ht | ht
    · rw [if_pos ht]
    · subst ht; rfl
  unfold isE
  rw [ho, if_neg (fun hh => by rcases hh with hh | hh | hh <;> first | omega | cases hh)]
  rcases hk with rfl | rfl
  · rw [if_pos rfl]; simpa using h1 rfl
  · rw [if_neg (by decide), if_pos rfl]; simpa using h2 rfl
theorem isE_given {k c s o y b : Int} (h : isE k c s o y = true) (hk : k = 1 ∨ k = 2) (hb : 0 ≤ b ∧ b ≤ 4294967295) : isE k c 0 0 b = true := by
  obtain ⟨h1, h2, h3, h4⟩ := isE_kc h
  have ho : own k 0 0 = true := by unfold own; rw [if_pos rfl]; rfl
  unfold isE
  rw [ho, if_neg (fun hh => by rcases hh with hh | hh | hh <;> first | omega | cases hh)]
  rcases hk with rfl | rfl
  · rw [if_pos rfl]; simpa using h1 rfl
  · rw [if_neg (by decide), if_pos rfl]; simpa using h2 rfl
theorem wordOf_u64 {k c s o y : Int} (h : isE k c s o y = true) : u64 (wordOf k c s o y) := by
  have := isE_le h
  unfold wordOf u64
  omega
theorem andU (a b : Int) (ha : u64 a) (hb : u64 b) : Go.bits .and .u64 a b = ((a.toNat &&& b.toNat : Nat) : Int) := u64_and a b ha.1 ha.2 hb.1 hb.2
theorem and_u64 {a b : Int} (ha : u64 a) (hb : u64 b) : u64 (Go.bits .and .u64 a b) := by
  rw [andU a b ha hb]
  have := Nat.and_le_left (n := a.toNat) (m := b.toNat)
  unfold u64 at *
  omega
theorem left_u64 {x : Sw} (h1 : u64 x.alloc) (h2 : u64 x.mark) : u64 x.left := by
  unfold Sw.left
  split
  · exact and_u64 (and_u64 h1 h2) (by unfold u64; decide)
  · exact and_u64 h1 h2
/-- How many objects were freed. -/
def Sw.ones (x : Sw) : Int := (Pop.cnt 64 (x.alloc.toNat &&& (18446744073709551615 - x.left.toNat)) : Nat)
theorem ones_of {x : Sw} (h1 : u64 x.alloc) (h2 : u64 x.mark) : word_Ones.f (Go.bits .andNot .u64 x.alloc x.left) = some x.ones := by
  have h3 := left_u64 h1 h2
  rw [u64_andNot _ _ h1.1 h1.2 h3.1 h3.2]
  have := Nat.and_le_left (n := x.alloc.toNat) (m := 18446744073709551615 - x.left.toNat)
  rw [ones_ _ (by unfold u64 at *; omega)]
  rfl
/-- The access that it makes next: its kind, its cell, what it wants and puts. -/
def Sw.acc (P T page : Nat) (x : Sw) : Int × Nat × Int × Int :=
  if x.at_ = 0 then (1, adr P T 0 page, 0, 0)
  else if x.at_ = 1 then (4, adr P T 0 page, x.was, wordOf x.k x.c 2 x.who x.y)
  else if x.at_ = 2 then (1, adr P T 2 page, 0, 0)
  else if x.at_ = 3 then (1, adr P T 1 page, 0, 0)
  else if x.at_ = 4 then (2, adr P T 1 page, 0, x.left)
  else if x.at_ = 5 then (2, adr P T 2 page, 0, 0)
  else if x.at_ = 6 then (2, adr P T 0 (page + x.tail.toNat), 0, 0)
  else (2, adr P T 0 page, 0, if x.empty = true then 0 else wordOf x.k x.c 0 0 x.cyc)
/-- What a cell holds behind an access. -/
def leftOf (kind seen want put : Int) : Int := if kind = 1 then seen else if kind = 4 then (if seen = want then put else seen) else put
/-- It, behind that access, which was answered v. -/
def Sw.aft (x : Sw) (v : Int) : Sw :=
  if x.at_ = 0 then x.look v
  else if x.at_ = 1 then (if x.was = v then { x with at_ := 2 } else { x with block := true, at_ := 8 })
  else if x.at_ = 2 then { x with mark := v, at_ := 3 }
  else if x.at_ = 3 then { x with alloc := v, at_ := 4 }
  else if x.at_ = 4 then { x with freed := x.ones, empty := x.left == 0, at_ := 5 }
  else if x.at_ = 5 then (if x.empty = true ∧ x.k = 2 ∧ 1 < x.c then { x with tail := x.c - 1, at_ := 6 } else { x with at_ := 7 })
  else if x.at_ = 6 then (if x.tail = 1 then { x with tail := 0, at_ := 7 } else { x with tail := x.tail - 1 })
  else { x with swept := true, at_ := 8 }
/-- It is a right one. -/
structure Sw.Good (P page : Nat) (x : Sw) : Prop where
  wk : worker x.who
  cy : 0 ≤ x.cyc ∧ x.cyc ≤ 4294967295
  a0 : 0 ≤ x.at_ ∧ x.at_ ≤ 8
  en : 1 ≤ x.at_ → x.at_ ≤ 7 → isE x.k x.c x.st x.o x.y = true ∧ (x.k = 1 ∨ x.k = 2) ∧ (x.k = 2 → (page : Int) + x.c ≤ P + 1)
  mr : 3 ≤ x.at_ → x.at_ ≤ 7 → u64 x.mark
  al : 4 ≤ x.at_ → x.at_ ≤ 7 → u64 x.alloc
  tl : x.at_ = 6 → 1 ≤ x.tail ∧ x.tail < x.c ∧ x.k = 2
theorem Pl.aft {P T page : Nat} {x : Sw} (h : Pl P T page x) (v : Int) : Pl P T page (x.aft v) := by
  have key : ∀ y : Sw, y.pp = x.pp → y.pt = x.pt → y.pr = x.pr → y.page = x.page → Pl P T page y := fun y h1 h2 h3 h4 => ⟨h.hP, h.hT, h.hi, h1.trans h.pp, h2.trans h.pt, h3.trans h.pr, h4.trans h.pg⟩
  unfold Sw.aft Sw.look
  simp only
  (repeat' split) <;> exact key _ rfl rfl rfl rfl
theorem due_kind {x : Sw} (h : x.due = true) : (x.k = 1 ∨ x.k = 2) ∧ x.st = 0 ∧ x.y < x.cyc ∧ (x.k = 2 → x.page + x.c ≤ x.pp) := by
  unfold Sw.due dueE at h
  simp only [Bool.and_eq_true, Bool.or_eq_true, beq_iff_eq, decide_eq_true_eq, Bool.not_eq_true', beq_eq_false_iff_ne] at h
  refine ⟨h.1.1.1, h.1.1.2, h.1.2, fun hk => ?_⟩
  rcases h.2 with h2 | h2
  · exact absurd hk h2
  · exact h2
theorem look_at {x : Sw} {v : Int} : (x.look v).at_ = 1 ∨ (x.look v).at_ = 8 := by
  unfold Sw.look
  simp only
  split
  · exact .inl rfl
  · exact .inr rfl
theorem Sw.Good.look {P T page : Nat} {x : Sw} (hp : Pl P T page x) (h : x.Good P page) (v : Int) : (x.look v).Good P page := by
  obtain ⟨k, c, s, o, y, f, hd⟩ : ∃ k c s o y f, dec v = (k, c, s, o, y, f) := ⟨_, _, _, _, _, _, rfl⟩
  have hw : (x.look v).who = x.who ∧ (x.look v).cyc = x.cyc := by unfold Sw.look; simp only; split <;> exact ⟨rfl, rfl⟩
  refine ⟨hw.1 ▸ h.wk, hw.2 ▸ h.cy, by rcases look_at (x := x) (v := v) with e | e <;> rw [e] <;> decide, fun h1 h7 => ?_, fun h3 h7 => ?_, fun h4 h7 => ?_, fun h6 => ?_⟩
  · have he : (x.look v).at_ = 1 := by rcases look_at (x := x) (v := v) with e | e <;> omega
    rcases dec_isE hd with ⟨rfl, hi⟩ | rfl
    · cases hdu : Sw.due { x with was := v, k := k, c := c, st := s, o := o, y := y, at_ := 1 }
      · rw [look_no hd hdu] at he
        cases he
      · rw [look_due hd hdu]
        have hk := due_kind hdu
        refine ⟨hi, hk.1, fun h2 => ?_⟩
        have := hk.2.2.2 h2
        have e1 := hp.pp
        have e2 := hp.pg
        simp only at this ⊢
        omega
    · rw [look_err hd] at he
      cases he
  all_goals
    rcases look_at (x := x) (v := v) with e | e <;> omega
theorem Sw.Good.aft {P T page : Nat} {x : Sw} (hp : Pl P T page x) (h : x.Good P page) (h8 : x.at_ ≠ 8) {v : Int} (hv : u64 v) : (x.aft v).Good P page := by
  have hlo := h.a0
  unfold Sw.aft
  by_cases h0 : x.at_ = 0
  · rw [if_pos h0]; exact h.look hp v
  rw [if_neg h0]
  have hen := h.en (by omega) (by omega)
  by_cases h1 : x.at_ = 1
  · rw [if_pos h1]
    split
    · exact ⟨h.wk, h.cy, by simp only; omega, fun _ _ => hen, by simp only; omega, by simp only; omega, by simp only; omega⟩
    · exact ⟨h.wk, h.cy, by simp only; omega, by simp only; omega, by simp only; omega, by simp only; omega, by simp only; omega⟩
  rw [if_neg h1]
  by_cases h2 : x.at_ = 2
  · rw [if_pos h2]
    exact ⟨h.wk, h.cy, by simp only; omega, fun _ _ => hen, fun _ _ => hv, by simp only; omega, by simp only; omega⟩
  rw [if_neg h2]
  have hmk := h.mr (by omega) (by omega)
  by_cases h3 : x.at_ = 3
  · rw [if_pos h3]
    exact ⟨h.wk, h.cy, by simp only; omega, fun _ _ => hen, fun _ _ => hmk, fun _ _ => hv, by simp only; omega⟩
  rw [if_neg h3]
  have hal := h.al (by omega) (by omega)
  by_cases h4 : x.at_ = 4
  · rw [if_pos h4]
    exact ⟨h.wk, h.cy, by simp only; omega, fun _ _ => hen, fun _ _ => hmk, fun _ _ => hal, by simp only; omega⟩
  rw [if_neg h4]
  by_cases h5 : x.at_ = 5
  · rw [if_pos h5]
    split
    · rename_i hh
      exact ⟨h.wk, h.cy, by simp only; omega, fun _ _ => hen, fun _ _ => hmk, fun _ _ => hal, fun _ => ⟨by simp only; omega, by simp only; omega, hh.2.1⟩⟩
    · exact ⟨h.wk, h.cy, by simp only; omega, fun _ _ => hen, fun _ _ => hmk, fun _ _ => hal, by simp only; omega⟩
  rw [if_neg h5]
  by_cases h6 : x.at_ = 6
  · rw [if_pos h6]
    have ht := h.tl h6
    split
    · exact ⟨h.wk, h.cy, by simp only; omega, fun _ _ => hen, fun _ _ => hmk, fun _ _ => hal, by simp only; omega⟩
    · exact ⟨h.wk, h.cy, by simp only; omega, fun _ _ => hen, fun _ _ => hmk, fun _ _ => hal, fun _ => ⟨by simp only; omega, by simp only; omega, ht.2.2⟩⟩
  rw [if_neg h6]
  exact ⟨h.wk, h.cy, by simp only; omega, by simp only; omega, by simp only; omega, by simp only; omega, by simp only; omega⟩
variable {w0 w : World} {F : List HP} {a gC p s : Nat} {lv : Value} {l : List Acc} {cn fl who : Int} {X : List Int} {x : Sw}
/-- A step that is granted. -/
theorem step_ {P T page : Nat} (hp : Pl P T page x) (hg : x.Good P page) (h8 : x.at_ ≠ 8) (hX : X.length = 128 + 64 * P) (hl : l.length ≤ 100000) (hc0 : 0 ≤ cn) (hc1 : cn ≤ 100000) (hv : u64 (X.getD (x.acc P T page).2.1 0))
    (h : St w0 w (Are p a gC who true X lv l cn fl ++ swB s x :: F)) :
    Calls Tryd.prog 112 #[swP s, .pointer (some ⟨p, 0, none⟩)] w fun e w' => ∃ lv', e = .returned (.bool ((x.aft (X.getD (x.acc P T page).2.1 0)).at_ == 8)) ∧
      St w0 w' (Are p a gC who false (X.set (x.acc P T page).2.1 (leftOf (x.acc P T page).1 (X.getD (x.acc P T page).2.1 0) (x.acc P T page).2.2.1 (x.acc P T page).2.2.2)) lv'
        (l ++ [⟨who, (x.acc P T page).1, (x.acc P T page).2.1, (x.acc P T page).2.2.1, (x.acc P T page).2.2.2, X.getD (x.acc P T page).2.1 0, leftOf (x.acc P T page).1 (X.getD (x.acc P T page).2.1 0) (x.acc P T page).2.2.1 (x.acc P T page).2.2.2⟩]) (cn + 1) fl ++ swB s (x.aft (X.getD (x.acc P T page).2.1 0)) :: F) := by
  have hlo := hg.a0
  have lf1 : ∀ a b c, leftOf 1 a b c = a := fun a b c => if_pos rfl
  have lf2 : ∀ a b c, leftOf 2 a b c = c := fun a b c => by unfold leftOf; rw [if_neg (by decide), if_neg (by decide)]
  by_cases h0 : x.at_ = 0
  · have ea : x.acc P T page = (1, adr P T 0 page, 0, 0) := if_pos h0
    have ef : ∀ v, x.aft v = x.look v := fun v => if_pos h0
    rw [ea] at hv ⊢
    rw [ef]
    simp only [lf1, set_same]
    obtain ⟨k, c, st, o, y, f, hd⟩ : ∃ k c s o y f, dec (X.getD (adr P T 0 page) 0) = (k, c, s, o, y, f) := ⟨_, _, _, _, _, _, rfl⟩
    rcases dec_isE hd with ⟨rfl, hi⟩ | rfl
    · cases hdu : Sw.due { x with was := X.getD (adr P T 0 page) 0, k := k, c := c, st := st, o := o, y := y, at_ := 1 }
      · have e8 : ((x.look (X.getD (adr P T 0 page) 0)).at_ == 8) = true := by rw [look_no hd hdu]; rfl
        rw [e8]
        by_cases hs : st = 2
        · exact lookC hp h0 hX hl hc0 hc1 hd hv.1 hv.2 rfl hdu hs h
        · exact lookB hp h0 hX hl hc0 hc1 hd hv.1 hv.2 rfl hdu hs h
      · have e8 : ((x.look (X.getD (adr P T 0 page) 0)).at_ == 8) = false := by rw [look_due hd hdu]; rfl
        rw [e8]
        exact lookD hp h0 hX hl hc0 hc1 hd hv.1 hv.2 rfl hdu h
    · have e8 : ((x.look (X.getD (adr P T 0 page) 0)).at_ == 8) = true := by rw [look_err hd]; rfl
      rw [e8]
      exact lookA hp h0 hX hl hc0 hc1 hd hv.1 hv.2 rfl h
  have hen := hg.en (by omega) (by omega)
  by_cases h1 : x.at_ = 1
  · have ea : x.acc P T page = (4, adr P T 0 page, x.was, wordOf x.k x.c 2 x.who x.y) := by unfold Sw.acc; rw [if_neg h0, if_pos h1]
    have ef : ∀ v, x.aft v = if x.was = v then { x with at_ := 2 } else { x with block := true, at_ := 8 } := fun v => by unfold Sw.aft; rw [if_neg h0, if_pos h1]
    rw [ea]
    simp only [ef]
    by_cases hw : x.was = X.getD (adr P T 0 page) 0
    · rw [if_pos hw, show leftOf 4 (X.getD (adr P T 0 page) 0) x.was (wordOf x.k x.c 2 x.who x.y) = wordOf x.k x.c 2 x.who x.y from by unfold leftOf; rw [if_neg (by decide), if_pos rfl, if_pos hw.symm]]
      exact step1a hp h1 hX hl hc0 hc1 hen.1 (isE_busy hen.1 hen.2.1 hg.wk) hw h
    · rw [if_neg hw, show leftOf 4 (X.getD (adr P T 0 page) 0) x.was (wordOf x.k x.c 2 x.who x.y) = X.getD (adr P T 0 page) 0 from by unfold leftOf; rw [if_neg (by decide), if_pos rfl, if_neg (fun hh => hw hh.symm)], set_same]
      exact step1b hp h1 hX hl hc0 hc1 hen.1 (isE_busy hen.1 hen.2.1 hg.wk) hw h
  by_cases h2 : x.at_ = 2
  · have ea : x.acc P T page = (1, adr P T 2 page, 0, 0) := by unfold Sw.acc; rw [if_neg h0, if_neg h1, if_pos h2]
    have ef : ∀ v, x.aft v = { x with mark := v, at_ := 3 } := fun v => by unfold Sw.aft; rw [if_neg h0, if_neg h1, if_pos h2]
    rw [ea]
    simp only [ef, lf1, set_same]
    exact step2 hp h2 hX hl hc0 hc1 h
  have hmk := hg.mr (by omega) (by omega)
  by_cases h3 : x.at_ = 3
  · have ea : x.acc P T page = (1, adr P T 1 page, 0, 0) := by unfold Sw.acc; rw [if_neg h0, if_neg h1, if_neg h2, if_pos h3]
    have ef : ∀ v, x.aft v = { x with alloc := v, at_ := 4 } := fun v => by unfold Sw.aft; rw [if_neg h0, if_neg h1, if_neg h2, if_pos h3]
    rw [ea]
    simp only [ef, lf1, set_same]
    exact step3 hp h3 hX hl hc0 hc1 h
  have hal := hg.al (by omega) (by omega)
  by_cases h4 : x.at_ = 4
  · have ea : x.acc P T page = (2, adr P T 1 page, 0, x.left) := by unfold Sw.acc; rw [if_neg h0, if_neg h1, if_neg h2, if_neg h3, if_pos h4]
    have ef : ∀ v, x.aft v = { x with freed := x.ones, empty := x.left == 0, at_ := 5 } := fun v => by unfold Sw.aft; rw [if_neg h0, if_neg h1, if_neg h2, if_neg h3, if_pos h4]
    rw [ea]
    simp only [ef, lf2]
    exact step4 hp h4 hX hl hc0 hc1 x.ones (ones_of hal hmk) h
  by_cases h5 : x.at_ = 5
  · have ea : x.acc P T page = (2, adr P T 2 page, 0, 0) := by unfold Sw.acc; rw [if_neg h0, if_neg h1, if_neg h2, if_neg h3, if_neg h4, if_pos h5]
    have ef : ∀ v, x.aft v = if x.empty = true ∧ x.k = 2 ∧ 1 < x.c then { x with tail := x.c - 1, at_ := 6 } else { x with at_ := 7 } := fun v => by unfold Sw.aft; rw [if_neg h0, if_neg h1, if_neg h2, if_neg h3, if_neg h4, if_pos h5]
    rw [ea]
    simp only [ef, lf2]
    by_cases ht : x.empty = true ∧ x.k = 2 ∧ 1 < x.c
    · rw [if_pos ht]
      exact step5a hp h5 hX hl hc0 hc1 ⟨ht.1, ht.2.1, ht.2.2, ((isE_kc hen.1).2.1 ht.2.1).2⟩ h
    · rw [if_neg ht]
      exact step5b hp h5 hX hl hc0 hc1 (fun q1 q2 => by have : ¬ 1 < x.c := fun q3 => ht ⟨q1, q2, q3⟩; omega) h
  by_cases h6 : x.at_ = 6
  · have ht := hg.tl h6
    obtain ⟨j, hj⟩ : ∃ j : Nat, x.tail = j := ⟨x.tail.toNat, by omega⟩
    have ea : x.acc P T page = (2, adr P T 0 (page + j), 0, 0) := by unfold Sw.acc; rw [if_neg h0, if_neg h1, if_neg h2, if_neg h3, if_neg h4, if_neg h5, if_pos h6, hj]; rfl
    have ef : ∀ v, x.aft v = if x.tail = 1 then { x with tail := 0, at_ := 7 } else { x with tail := x.tail - 1 } := fun v => by unfold Sw.aft; rw [if_neg h0, if_neg h1, if_neg h2, if_neg h3, if_neg h4, if_neg h5, if_pos h6]
    have hpc := hen.2.2 ht.2.2
    rw [ea]
    simp only [ef, lf2]
    by_cases h1t : x.tail = 1
    · rw [if_pos h1t]
      exact step6a hp h6 hX hl hc0 hc1 j hj (by omega) (by omega) h
    · have e8 : ((x.at_ : Int) == 8) = false := by rw [h6]; rfl
      rw [if_neg h1t]
      simp only [e8]
      exact step6b hp h6 hX hl hc0 hc1 j hj (by omega) (by omega) h
  have h7 : x.at_ = 7 := by omega
  have ea : x.acc P T page = (2, adr P T 0 page, 0, if x.empty = true then 0 else wordOf x.k x.c 0 0 x.cyc) := by unfold Sw.acc; rw [if_neg h0, if_neg h1, if_neg h2, if_neg h3, if_neg h4, if_neg h5, if_neg h6]
  have ef : ∀ v, x.aft v = { x with swept := true, at_ := 8 } := fun v => by unfold Sw.aft; rw [if_neg h0, if_neg h1, if_neg h2, if_neg h3, if_neg h4, if_neg h5, if_neg h6]
  rw [ea]
  simp only [ef, lf2]
  by_cases hem : x.empty = true
  · rw [if_pos hem]
    exact step7e hp h7 hX hl hc0 hc1 hem h
  · rw [if_neg hem]
    exact step7n hp h7 hX hl hc0 hc1 (by simpa using hem) hen.1 hen.2.1 (isE_given hen.1 hen.2.1 hg.cy) h
end Go.Proofs.YtelfiegocdjnoaaDoor.Ar
