/- A claim's step, all of them in one: which access it makes, what it is behind it; a claim that is made. Conditions: the arena's port has a grant; the plan is right; the table of sizes reads as it was laid. -/
import Derived.Test.YtelfiegocdjnoaaDoorCl4
namespace Go.Proofs.YtelfiegocdjnoaaDoor.Ar
open Go Go.RowKit Go.Proofs.YtelfiegocdjnoaaDoor.Sep Go.Proofs.YtelfiegocdjnoaaDoor.Pg Go.Proofs.YtelfiegocdjnoaaDoorW.PrintWords Go.Proofs.YtelfiegocdjnoaaDoorW.PrintLast Go.Proofs.YtelfiegocdjnoaaDoorW.PrintMore Go.Proofs.YtelfiegocdjnoaaDoor.Q
set_option linter.unusedVariables false
set_option linter.unusedSimpArgs false
set_option maxHeartbeats 8000000
set_option maxRecDepth 100000
variable {w0 w : World} {F : List HP} {a gC p g : Nat} {lv : Value} {l : List Acc} {cn fl who : Int} {X : List Int} {q : Cp} {x : Cl}
abbrev accE (who : Int) (A : Int × Nat × Int × Int) (v : Int) : Acc := ⟨who, A.1, A.2.1, A.2.2.1, A.2.2.2, v, leftOf A.1 v A.2.2.1 A.2.2.2⟩
theorem ClSt.st {L : List HP} (h : ClSt w0 w L g q x F) : ∃ sp F', St w0 w (L ++ clB g q x sp :: F') := by
  unfold ClSt at h
  cases hs : x.sw with
  | none => rw [hs] at h; exact ⟨_, _, h⟩
  | some y => rw [hs] at h; obtain ⟨s, h⟩ := h; exact ⟨_, _, h⟩
theorem clclean_ (hq : q.Right) (hp : x.pg < q.P + 1) (hr : x.rd = 0 ∨ x.rd = 2) (hX : X.length = 128 + 64 * q.P) (hl : l.length ≤ 100000) (hc0 : 0 ≤ cn) (hc1 : cn ≤ 100000) (hpl : Pl q.P q.T x.pg (x.swp q)) (hgd : (x.swp q).Good q.P x.pg) (h8 : (x.swp q).at_ ≠ 8)
    (hv : u64 (X.getD ((x.swp q).acc q.P q.T x.pg).2.1 0)) (h : ClSt w0 w (Are p a gC who true X lv l cn fl) g q x F) :
    Calls Tryd.prog 126 #[clP g, .pointer (some ⟨p, 0, none⟩)] w fun e w' => ∃ lv1, e = .returned (.tuple #[]) ∧
      ClSt w0 w' (Are p a gC who false (upd X ((x.swp q).acc q.P q.T x.pg)) lv1 (l ++ [accE who ((x.swp q).acc q.P q.T x.pg) (X.getD ((x.swp q).acc q.P q.T x.pg).2.1 0)]) (cn + 1) fl) g q (x.swept q ((x.swp q).aft (X.getD ((x.swp q).acc q.P q.T x.pg).2.1 0))) F := by
  unfold ClSt at h
  cases hs : x.sw with
  | none =>
    rw [hs] at h
    have e : x.swp q = sw0 q.P q.T q.t q.cyc x.pg := by unfold Cl.swp; rw [hs]
    rw [e] at hpl hgd h8 hv ⊢
    exact clclean_none hq hp hr hX hl hc0 hc1 hs rfl hpl hgd h8 hv h
  | some y =>
    rw [hs] at h
    obtain ⟨s, h⟩ := h
    have e : x.swp q = y := by unfold Cl.swp; rw [hs]
    rw [e] at hpl hgd h8 hv ⊢
    exact clclean_some hq hp hr hX hl hc0 hc1 hs hpl hgd h8 hv h
theorem cst0 (hq : q.Right) (hp : x.pg < q.P + 1) (hat : x.at_ = 0) (hr : x.rd = 0 ∨ x.rd = 1) (hX : X.length = 128 + 64 * q.P) (hl : l.length ≤ 100000) (hc0 : 0 ≤ cn) (hc1 : cn ≤ 100000) (hv : u64 (X.getD (adr q.P q.T 0 x.pg) 0))
    (h : St w0 w (Are p a gC who true X lv l cn fl ++ clB g q x (.pointer none) :: F)) :
    Calls Tryd.prog 57 #[clP g, .pointer (some ⟨p, 0, none⟩)] w fun e w' => ∃ lv', e = .returned (.bool ((x.ask q (X.getD (adr q.P q.T 0 x.pg) 0)).at_ == 9)) ∧
      St w0 w' (Are p a gC who false X lv' (l ++ [⟨who, 1, adr q.P q.T 0 x.pg, 0, 0, X.getD (adr q.P q.T 0 x.pg) 0, X.getD (adr q.P q.T 0 x.pg) 0⟩]) (cn + 1) fl ++ clB g q (x.ask q (X.getD (adr q.P q.T 0 x.pg) 0)) (.pointer none) :: F) := by
  have HA := Aside.mk (fun (w : World) (h : St w0 w (Are p a gC who true X lv l cn fl ++ clB g q x (.pointer none) :: F)) => clask_ hq hp hr hX hl hc0 hc1 hv h)
  have x7 : w.cell? ⟨g, 7, none⟩ = some (.int .i64 x.at_) := (h.pick 4 rfl).cell 7
  rw [hat] at x7
  have H := Aside.mk h
  generalize x.ask q (X.getD (adr q.P q.T 0 x.pg) 0) = z at HA ⊢
  clear h hq hp hr hX hl hc0 hc1 hv hat
  go_enter Tryd.func57, Tryd.ntmps57
  go_wp2_with (first
    | (go_at_call 76; refine (open_ H.out).mono ?_; rintro e w1 ⟨rfl, rfl⟩)
    | (go_at_call 118; refine (HA.out _ H.out).mono ?_; rintro e w2 ⟨lv1, rfl, h2⟩; have H2 := Aside.mk h2; clear h2 x7; have x7 := (H2.out.pick 4 rfl).cell 7))
  go_ret
  exact ⟨lv1, by simp, H2.out⟩
theorem cst48 (hq : q.Right) (hp : x.pg < q.P + 1) (hat : x.at_ = 4 ∨ x.at_ = 8) (hr : x.rd = 0 ∨ x.rd = 2) (hX : X.length = 128 + 64 * q.P) (hl : l.length ≤ 100000) (hc0 : 0 ≤ cn) (hc1 : cn ≤ 100000) (hpl : Pl q.P q.T x.pg (x.swp q)) (hgd : (x.swp q).Good q.P x.pg) (h8 : (x.swp q).at_ ≠ 8)
    (hv : u64 (X.getD ((x.swp q).acc q.P q.T x.pg).2.1 0)) (h : ClSt w0 w (Are p a gC who true X lv l cn fl) g q x F) :
    Calls Tryd.prog 57 #[clP g, .pointer (some ⟨p, 0, none⟩)] w fun e w' => ∃ lv1, e = .returned (.bool ((x.swept q ((x.swp q).aft (X.getD ((x.swp q).acc q.P q.T x.pg).2.1 0))).at_ == 9)) ∧
      ClSt w0 w' (Are p a gC who false (upd X ((x.swp q).acc q.P q.T x.pg)) lv1 (l ++ [accE who ((x.swp q).acc q.P q.T x.pg) (X.getD ((x.swp q).acc q.P q.T x.pg).2.1 0)]) (cn + 1) fl) g q (x.swept q ((x.swp q).aft (X.getD ((x.swp q).acc q.P q.T x.pg).2.1 0))) F := by
  have HA := Aside.mk (fun (w : World) (h : ClSt w0 w (Are p a gC who true X lv l cn fl) g q x F) => clclean_ hq hp hr hX hl hc0 hc1 hpl hgd h8 hv h)
  have HC := Aside.mk h
  obtain ⟨sp, F', hs⟩ := h.st
  have x7 : w.cell? ⟨g, 7, none⟩ = some (.int .i64 x.at_) := (hs.pick 4 rfl).cell 7
  have H := Aside.mk hs
  generalize x.swept q ((x.swp q).aft (X.getD ((x.swp q).acc q.P q.T x.pg).2.1 0)) = z at HA ⊢
  obtain ⟨Z, hZ⟩ : ∃ Z : Value → List HP, ∀ lv1, Z lv1 = Are p a gC who false (upd X ((x.swp q).acc q.P q.T x.pg)) lv1 (l ++ [accE who ((x.swp q).acc q.P q.T x.pg) (X.getD ((x.swp q).acc q.P q.T x.pg).2.1 0)]) (cn + 1) fl := ⟨_, fun _ => rfl⟩
  have HZ : Aside (∀ (lv1 : Value) (w2 : World), ClSt w0 w2 (Z lv1) g q z F → w2.cell? ⟨g, 7, none⟩ = some (.int .i64 z.at_)) := ⟨fun lv1 w2 h2 => by
    obtain ⟨sp, F', hs⟩ := h2.st
    rw [hZ] at hs
    exact (hs.pick 4 rfl).cell 7⟩
  simp only [← hZ] at HA ⊢
  clear h hs hq hp hr hX hl hc0 hc1 hv hpl hgd h8 hZ
  rcases hat with hat | hat
  all_goals
    rw [hat] at x7
    clear hat
    go_enter Tryd.func57, Tryd.ntmps57
    go_wp2_with (first
      | (go_at_call 76; refine (open_ H.out).mono ?_; rintro e w1 ⟨rfl, rfl⟩)
      | (go_at_call 126; refine (HA.out _ HC.out).mono ?_; rintro e w2 ⟨lv1, rfl, h2⟩; have H2 := Aside.mk h2; have x7b := HZ.out _ _ h2; clear h2 x7))
    go_ret
    exact ⟨lv1, by simp, H2.out⟩
/-- It is a right one. -/
structure Cl.Good (q : Cp) (x : Cl) : Prop where
  pg : x.pg < q.P + 1
  a0 : 0 ≤ x.at_ ∧ x.at_ ≤ 9
  rd : x.at_ ≠ 9 → x.rd = 0 ∨ x.rd = 1 ∨ x.rd = 2
  r0 : x.at_ = 0 → x.rd = 0 ∨ x.rd = 1
  r4 : x.at_ = 4 ∨ x.at_ = 8 → x.rd = 0 ∨ x.rd = 2
  en : x.at_ = 1 ∨ x.at_ = 2 ∨ x.at_ = 3 → isE x.k x.c x.st x.o x.y = true ∧ x.k = 1
  sw : x.at_ = 4 ∨ x.at_ = 8 → Pl q.P q.T x.pg (x.swp q) ∧ (x.swp q).Good q.P x.pg ∧ (x.swp q).at_ ≠ 8
  ns : ¬ (x.at_ = 4 ∨ x.at_ = 8) → x.sw = none
  al : u64 x.alloc
theorem swp0 {q : Cp} (hq : q.Right) {x : Cl} (hp : x.pg < q.P + 1) (h : x.sw = none) : Pl q.P q.T x.pg (x.swp q) ∧ (x.swp q).Good q.P x.pg ∧ (x.swp q).at_ ≠ 8 := by
  have e : x.swp q = sw0 q.P q.T q.t q.cyc x.pg := by unfold Cl.swp; rw [h]
  rw [e]
  exact ⟨⟨hq.hP, hq.hT, hp, rfl, rfl, rfl, rfl⟩, ⟨.inl hq.ht, hq.hy, (show (0 : Int) ≤ 0 ∧ (0 : Int) ≤ 8 by decide), by simp, by simp, by simp, by simp⟩, (show (0 : Int) ≠ 8 by decide)⟩
theorem Good.next {q : Cp} (hq : q.Right) {x : Cl} (hp : x.pg < q.P + 1) (hr : x.rd = 0 ∨ x.rd = 1 ∨ x.rd = 2) (ha : u64 x.alloc) : (x.next q).Good q := by
  unfold Cl.next
  by_cases hl : x.pg + 1 < q.P + 1
  · rw [if_pos hl]
    rcases hr with hr | hr | hr <;> simp only [hr] <;>
      exact ⟨hl, by simp, by simp [hr], by simp [hr], by simp [hr], by simp, fun _ => swp0 hq hl rfl, fun _ => rfl, ha⟩
  · rw [if_neg hl]
    rcases hr with hr | hr | hr <;> simp only [hr] <;>
      exact ⟨by simp, by simp, by simp, by simp, by simp, by simp, fun _ => swp0 hq (by simp) rfl, fun _ => rfl, ha⟩
theorem Cl.Good.aft {q : Cp} (hq : q.Right) {x : Cl} (h : x.Good q) (h9 : x.at_ ≠ 9) {v : Int} (hv : u64 v) : (x.aft q v).Good q := by
  have hrd := h.rd h9
  have hlo := h.a0
  unfold Cl.aft
  by_cases h0 : x.at_ = 0
  · rw [if_pos h0]
    have hns := h.ns (by omega)
    have hr0 := h.r0 h0
    obtain ⟨k, c, s, o, y, f, hd⟩ : ∃ k c s o y f, dec v = (k, c, s, o, y, f) := ⟨_, _, _, _, _, _, rfl⟩
    unfold Cl.ask
    have es : x.seen v = { x with was := v, k := k, c := c, st := s, o := o, y := y } := by unfold Cl.seen; rw [hd]
    rw [hd, es]
    simp only
    split
    · exact ⟨h.pg, by simp, fun _ => hrd, by simp, by simp, by simp, by simp, fun _ => hns, h.al⟩
    split
    · rename_i h1 h2
      have hi : isE k c s o y = true := by rcases dec_isE hd with hh | hh <;> first | exact hh.2 | (rw [h2.2.1] at hh; cases hh)
      have hk : k = 1 := by
        have := h2.2.2
        simp only [rdyE, Bool.and_eq_true, beq_iff_eq] at this
        exact this.1.1.1
      exact ⟨h.pg, by simp, fun _ => hrd, by simp, by simp, fun _ => ⟨hi, hk⟩, by simp, fun _ => hns, h.al⟩
    split
    · rename_i h1 h2 h3
      exact ⟨h.pg, by simp, fun _ => hrd, by simp, fun _ => .inl h3.1, by simp, fun _ => swp0 hq h.pg hns, by simp, h.al⟩
    · exact Good.next hq h.pg hrd h.al
  rw [if_neg h0]
  by_cases h1 : x.at_ = 1
  · rw [if_pos h1]
    have hns := h.ns (by omega)
    split
    · exact ⟨h.pg, by simp, fun _ => hrd, by simp, by simp, fun _ => h.en (.inl h1), by simp, fun _ => hns, h.al⟩
    · exact Good.next (x := { x with at_ := 2 }) hq h.pg hrd h.al
  rw [if_neg h1]
  by_cases h2 : x.at_ = 2
  · rw [if_pos h2]
    have hns := h.ns (by omega)
    split
    · exact ⟨h.pg, by simp, by simp, by simp, by simp, by simp, by simp, fun _ => hns, hv⟩
    · exact ⟨h.pg, by simp, fun _ => hrd, by simp, by simp, fun _ => h.en (.inr (.inl h2)), by simp, fun _ => hns, hv⟩
  rw [if_neg h2]
  by_cases h3 : x.at_ = 3
  · rw [if_pos h3]
    exact Good.next hq h.pg hrd h.al
  rw [if_neg h3]
  by_cases h5 : x.at_ = 5
  · rw [if_pos h5]
    have hns := h.ns (by omega)
    split
    · exact ⟨h.pg, by simp, fun _ => hrd, by simp, by simp, by simp, by simp, fun _ => hns, h.al⟩
    · exact Good.next (x := { x with at_ := 6 }) hq h.pg hrd h.al
  rw [if_neg h5]
  by_cases h6 : x.at_ = 6
  · rw [if_pos h6]
    have hns := h.ns (by omega)
    exact ⟨h.pg, by simp, fun _ => hrd, by simp, by simp, by simp, by simp, fun _ => hns, ⟨by simp, by simp⟩⟩
  rw [if_neg h6]
  by_cases h7 : x.at_ = 7
  · rw [if_pos h7]
    have hns := h.ns (by omega)
    exact ⟨h.pg, by simp, by simp, by simp, by simp, by simp, by simp, fun _ => hns, h.al⟩
  rw [if_neg h7]
  have h48 : x.at_ = 4 ∨ x.at_ = 8 := by omega
  obtain ⟨hpl, hgd, h8⟩ := h.sw h48
  have hr4 := h.r4 h48
  unfold Cl.swept
  split
  · split
    · rename_i hh
      exact ⟨h.pg, by simp, fun _ => hrd, fun _ => .inl hh.1, by simp, by simp, by simp, fun _ => rfl, h.al⟩
    split
    · exact ⟨h.pg, by simp, fun _ => hrd, by simp, by simp, by simp, by simp, fun _ => rfl, h.al⟩
    · exact Good.next hq h.pg hrd h.al
  · rename_i hn8
    exact ⟨h.pg, hlo, fun _ => hrd, fun hh => absurd hh h0, fun _ => hr4, fun hh => by have hh2 : x.at_ = 1 ∨ x.at_ = 2 ∨ x.at_ = 3 := hh; omega, fun _ => ⟨hpl.aft v, hgd.aft hpl h8 hv, hn8⟩, fun hh => absurd h48 hh, h.al⟩
/-- A step that is granted. -/
theorem cstep_ (hq : q.Right) (hgd : x.Good q) (h9 : x.at_ ≠ 9) (hX : X.length = 128 + 64 * q.P) (hl : l.length ≤ 100000) (hc0 : 0 ≤ cn) (hc1 : cn ≤ 100000) (hv : u64 (X.getD (x.acc q).2.1 0)) (hT : Tab w0)
    (h : ClSt w0 w (Are p a gC who true X lv l cn fl) g q x F) :
    Calls Tryd.prog 57 #[clP g, .pointer (some ⟨p, 0, none⟩)] w fun e w' => ∃ lv1, e = .returned (.bool ((x.aft q (X.getD (x.acc q).2.1 0)).at_ == 9)) ∧
      ClSt w0 w' (Are p a gC who false (upd X (x.acc q)) lv1 (l ++ [accE who (x.acc q) (X.getD (x.acc q).2.1 0)]) (cn + 1) fl) g q (x.aft q (X.getD (x.acc q).2.1 0)) F := by
  have hlo := hgd.a0
  have hrd := hgd.rd h9
  have lf1 : ∀ a b c, leftOf 1 a b c = a := fun a b c => if_pos rfl
  have lf2 : ∀ a b c, leftOf 2 a b c = c := fun a b c => by unfold leftOf; rw [if_neg (by decide), if_neg (by decide)]
  have lf4y : ∀ a c, leftOf 4 a a c = c := fun a c => by unfold leftOf; rw [if_neg (by decide), if_pos rfl, if_pos rfl]
  have lf4n : ∀ a b c, a ≠ b → leftOf 4 a b c = a := fun a b c hn => by unfold leftOf; rw [if_neg (by decide), if_pos rfl, if_neg hn]
  have fin : ∀ {L : List HP} {z : Cl}, z.sw = none → St w0 w (L ++ clB g q z (.pointer none) :: F) → ClSt w0 w L g q z F := fun hz hs => ClSt.none_ hz hs
  by_cases h48 : x.at_ = 4 ∨ x.at_ = 8
  · have ea : x.acc q = (x.swp q).acc q.P q.T x.pg := by
      unfold Cl.acc
      rw [if_neg (by omega), if_neg (by omega), if_neg (by omega), if_neg (by omega), if_neg (by omega), if_neg (by omega), if_neg (by omega)]
    have ef : ∀ v, x.aft q v = x.swept q ((x.swp q).aft v) := fun v => by
      unfold Cl.aft
      rw [if_neg (by omega), if_neg (by omega), if_neg (by omega), if_neg (by omega), if_neg (by omega), if_neg (by omega), if_neg (by omega)]
    obtain ⟨hpl, hsg, h8⟩ := hgd.sw h48
    rw [ea] at hv ⊢
    rw [ef]
    exact cst48 hq hgd.pg h48 (hgd.r4 h48) hX hl hc0 hc1 hpl hsg h8 hv h
  have hns := hgd.ns h48
  unfold ClSt at h
  rw [hns] at h
  replace h : St w0 w (Are p a gC who true X lv l cn fl ++ clB g q x (.pointer none) :: F) := h
  by_cases h0 : x.at_ = 0
  · have ea : x.acc q = (1, adr q.P q.T 0 x.pg, 0, 0) := if_pos h0
    have ef : ∀ v, x.aft q v = x.ask q v := fun v => if_pos h0
    rw [ea] at hv ⊢
    simp only [ef, upd, accE, lf1, set_same]
    refine (cst0 hq hgd.pg h0 (hgd.r0 h0) hX hl hc0 hc1 hv h).mono ?_
    rintro e w1 ⟨lv1, he, h1⟩
    refine ⟨lv1, he, .none_ ?_ h1⟩
    unfold Cl.ask
    (repeat' split) <;> first | exact hns | exact next_sw _ _
  by_cases h1 : x.at_ = 1
  · have ea : x.acc q = (4, adr q.P q.T 0 x.pg, x.was, q.word) := by unfold Cl.acc; rw [if_neg h0, if_pos h1]
    have ef : ∀ v, x.aft q v = if x.was = v then { x with at_ := 2 } else ({ x with at_ := 2 } : Cl).next q := fun v => by unfold Cl.aft; rw [if_neg h0, if_pos h1]
    rw [ea]
    simp only [ef, upd, accE]
    by_cases hw : x.was = X.getD (adr q.P q.T 0 x.pg) 0
    · rw [if_pos hw, hw, lf4y, ← hw]
      refine (cst1y hq hgd.pg h1 hX hl hc0 hc1 hw h).mono ?_
      rintro e w1 ⟨lv1, he, h1⟩
      rw [← hw] at h1
      exact ⟨lv1, he, .none_ hns h1⟩
    · rw [if_neg hw, lf4n _ _ _ (fun hh => hw hh.symm), set_same]
      refine (cst1n hq hgd.pg h1 hX hl hc0 hc1 hw hrd h).mono ?_
      rintro e w1 ⟨lv1, he, h1⟩
      exact ⟨lv1, he, .none_ (next_sw _ _) h1⟩
  by_cases h2 : x.at_ = 2
  · have ea : x.acc q = (1, adr q.P q.T 1 x.pg, 0, 0) := by unfold Cl.acc; rw [if_neg h0, if_neg h1, if_pos h2]
    have ef : ∀ v, x.aft q v = if 0 < room q.cls v then { x with alloc := v, got := true, at_ := 9 } else { x with alloc := v, at_ := 3 } := fun v => by unfold Cl.aft; rw [if_neg h0, if_neg h1, if_pos h2]
    rw [ea] at hv ⊢
    simp only [ef, upd, accE, lf1, set_same]
    by_cases hr : 0 < room q.cls (X.getD (adr q.P q.T 1 x.pg) 0)
    · rw [if_pos hr]
      refine (cst2r hq hgd.pg h2 hX hl hc0 hc1 rfl hv hT hr h).mono ?_
      rintro e w1 ⟨lv1, he, h1⟩
      exact ⟨lv1, he, .none_ hns h1⟩
    · rw [if_neg hr]
      refine (cst2f hq hgd.pg h2 hX hl hc0 hc1 rfl hv hT hr h).mono ?_
      rintro e w1 ⟨lv1, he, h1⟩
      exact ⟨lv1, he, .none_ hns h1⟩
  by_cases h3 : x.at_ = 3
  · have ea : x.acc q = (2, adr q.P q.T 0 x.pg, 0, wordOf x.k x.c 0 0 q.cyc) := by unfold Cl.acc; rw [if_neg h0, if_neg h1, if_neg h2, if_pos h3]
    have ef : ∀ v, x.aft q v = x.next q := fun v => by unfold Cl.aft; rw [if_neg h0, if_neg h1, if_neg h2, if_pos h3]
    rw [ea]
    simp only [ef, upd, accE, lf2]
    obtain ⟨he, hk⟩ := hgd.en (.inr (.inr h3))
    refine (cst3 hq hgd.pg h3 hX hl hc0 hc1 he hk hrd h).mono ?_
    rintro e w1 ⟨lv1, he, h1⟩
    exact ⟨lv1, he, .none_ (next_sw _ _) h1⟩
  by_cases h5 : x.at_ = 5
  · have ea : x.acc q = (4, adr q.P q.T 0 x.pg, 0, q.word) := by unfold Cl.acc; rw [if_neg h0, if_neg h1, if_neg h2, if_neg h3, if_pos h5]
    have ef : ∀ v, x.aft q v = if 0 = v then { x with at_ := 6 } else ({ x with at_ := 6 } : Cl).next q := fun v => by unfold Cl.aft; rw [if_neg h0, if_neg h1, if_neg h2, if_neg h3, if_pos h5]
    rw [ea]
    simp only [ef, upd, accE]
    by_cases hw : 0 = X.getD (adr q.P q.T 0 x.pg) 0
    · rw [if_pos hw, ← hw, lf4y]
      refine (cst5y hq hgd.pg h5 hX hl hc0 hc1 hw h).mono ?_
      rintro e w1 ⟨lv1, he, h1⟩
      rw [← hw] at h1
      exact ⟨lv1, he, .none_ hns h1⟩
    · rw [if_neg hw, lf4n _ _ _ (fun hh => hw hh.symm), set_same]
      refine (cst5n hq hgd.pg h5 hX hl hc0 hc1 hw hrd h).mono ?_
      rintro e w1 ⟨lv1, he, h1⟩
      exact ⟨lv1, he, .none_ (next_sw _ _) h1⟩
  by_cases h6 : x.at_ = 6
  · have ea : x.acc q = (2, adr q.P q.T 1 x.pg, 0, 0) := by unfold Cl.acc; rw [if_neg h0, if_neg h1, if_neg h2, if_neg h3, if_neg h5, if_pos h6]
    have ef : ∀ v, x.aft q v = { x with alloc := 0, at_ := 7 } := fun v => by unfold Cl.aft; rw [if_neg h0, if_neg h1, if_neg h2, if_neg h3, if_neg h5, if_pos h6]
    rw [ea]
    simp only [ef, upd, accE, lf2]
    refine (cst6 hq hgd.pg h6 hX hl hc0 hc1 h).mono ?_
    rintro e w1 ⟨lv1, he, h1⟩
    exact ⟨lv1, he, .none_ hns h1⟩
  have h7 : x.at_ = 7 := by omega
  have ea : x.acc q = (2, adr q.P q.T 2 x.pg, 0, 0) := by unfold Cl.acc; rw [if_neg h0, if_neg h1, if_neg h2, if_neg h3, if_neg h5, if_neg h6, if_pos h7]
  have ef : ∀ v, x.aft q v = { x with got := true, at_ := 9 } := fun v => by unfold Cl.aft; rw [if_neg h0, if_neg h1, if_neg h2, if_neg h3, if_neg h5, if_neg h6, if_pos h7]
  rw [ea]
  simp only [ef, upd, accE, lf2]
  refine (cst7 hq hgd.pg h7 hX hl hc0 hc1 h).mono ?_
  rintro e w1 ⟨lv1, he, h1⟩
  exact ⟨lv1, he, .none_ hns h1⟩
end Go.Proofs.YtelfiegocdjnoaaDoor.Ar
