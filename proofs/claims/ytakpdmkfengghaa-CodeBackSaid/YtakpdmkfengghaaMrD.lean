/- What it is to read a code: the one relation between the state ahead of a reading and behind it, and how readings are put together. No memory. -/
import Derived.Test.YtakpdmkfengghaaPinj
import Derived.Test.YtakpdmkfengghaaEv
import Derived.Test.YtakpdmkfengghaaMrA
import Derived.Laws.BitsAllLaws
import Derived.Laws.Bits64
import Derived.Laws.DeepNot64
import Derived.Test.YtakpdmkfengghaaMrB
section
namespace Go.Proofs.Ytakpdmkfengghaa.Rd
open Go Go.RowKit Go.Proofs.Ytakpdmkfengghaa.Q Go.Proofs.YtakpdmkfengghaaW.PrintWords Go.Proofs.Ytakpdmkfengghaa.Wr
set_option linter.unusedVariables false
set_option linter.unusedSimpArgs false

/-- From the state (p, e, t) over the bytes b the value x was read, the state is (p1, e1, t1) now. -/
structure Out {α : Type} (b : List Int) (c : α → List Int) (v : α → Prop) (p : Nat) (e t : Int) (x : α) (p1 : Nat) (e1 t1 : Int) : Prop where
  pos : p ≤ b.length → p1 ≤ b.length
  stuck : e ≠ 0 → e1 = e ∧ t1 = t
  good : e = 0 → ∀ y r, v y → b.drop p = c y ++ r → x = y ∧ p1 = p + (c y).length ∧ e1 = 0 ∧ t1 = t
  short : e = 0 → ∀ y r, v y → r ≠ [] → c y = b.drop p ++ r → e1 = 10 ∧ t1 = b.length
  back : e = 0 → e1 = 0 → v x ∧ b.drop p = c x ++ b.drop p1 ∧ p1 = p + (c x).length

variable {α β γ : Type} {b : List Int} {c : α → List Int} {d : β → List Int} {v : α → Prop} {u : β → Prop} {p p1 p2 : Nat} {e e1 e2 t t1 t2 : Int} {x : α} {y : β}

theorem Out.none_ (h : e ≠ 0) : Out b c v p e t x p e t := ⟨id, fun _ => ⟨rfl, rfl⟩, fun h0 => absurd h0 h, fun h0 => absurd h0 h, fun h0 => absurd h0 h⟩
theorem Out.pure_ (h : v x) (hv : ∀ y, v y → y = x) (hc : c x = []) : Out b c v p e t x p e t :=
  ⟨id, fun _ => ⟨rfl, rfl⟩, fun h0 y r hy hb => by have := hv y hy; subst this; rw [hc]; exact ⟨rfl, rfl, h0, rfl⟩,
    fun h0 y r hy hr hb => by have := hv y hy; subst this; rw [hc] at hb; exact absurd (List.append_eq_nil_iff.1 hb.symm).2 hr,
    fun _ _ => by rw [hc]; exact ⟨h, rfl, rfl⟩⟩
/-- One behind the other; how the second is read may hang on the first. -/
theorem Out.seq {d : α → β → List Int} {u : α → β → Prop} (h1 : Out b c v p e t x p1 e1 t1) (h2 : Out b (d x) (u x) p1 e1 t1 y p2 e2 t2) :
    Out b (fun z : α × β => c z.1 ++ d z.1 z.2) (fun z => v z.1 ∧ u z.1 z.2) p e t (x, y) p2 e2 t2 where
  pos := fun h => h2.pos (h1.pos h)
  stuck := fun h => by
    obtain ⟨a1, a2⟩ := h1.stuck h
    obtain ⟨b1, b2⟩ := h2.stuck (by rw [a1]; exact h)
    exact ⟨b1.trans a1, b2.trans a2⟩
  good := fun h0 z r hz hb => by
    rw [List.append_assoc] at hb
    obtain ⟨a1, a2, a3, a4⟩ := h1.good h0 z.1 _ hz.1 hb
    have hd : b.drop p1 = d z.1 z.2 ++ r := by
      rw [a2, ← List.drop_drop, hb, List.drop_left]
    subst a1
    obtain ⟨b1, b2, b3, b4⟩ := h2.good a3 z.2 r hz.2 hd
    subst b1
    exact ⟨rfl, by rw [b2, a2, List.length_append]; omega, b3, b4.trans a4⟩
  short := fun h0 z r hz hr hb => by
    rcases List.append_eq_append_iff.1 hb with ⟨q, hq1, hq2⟩ | ⟨q, hq1, hq2⟩
    · -- the second one is cut
      obtain ⟨a1, a2, a3, a4⟩ := h1.good h0 z.1 q hz.1 hq1
      have hd : b.drop p1 = q := by rw [a2, ← List.drop_drop, hq1, List.drop_left]
      subst a1
      exact h2.short a3 z.2 r hz.2 hr (by rw [hd]; exact hq2)
    · by_cases hn : q = []
      · subst hn
        rw [List.append_nil] at hq1
        obtain ⟨a1, a2, a3, a4⟩ := h1.good h0 z.1 [] hz.1 (by rw [List.append_nil]; exact hq1.symm)
        have hd : b.drop p1 = [] := by rw [a2, ← List.drop_drop, ← hq1, List.drop_length]
        subst a1
        exact h2.short a3 z.2 r hz.2 hr (by rw [hd]; simpa using hq2.symm)
      · obtain ⟨a1, a2⟩ := h1.short h0 z.1 q hz.1 hn hq1
        obtain ⟨b1, b2⟩ := h2.stuck (by rw [a1]; decide)
        exact ⟨b1.trans a1, b2.trans a2⟩
  back := fun h0 h9 => by
    have h3 : e1 = 0 := Classical.byContradiction fun hn => hn ((h2.stuck hn).1.symm.trans h9)
    obtain ⟨a1, a2, a3⟩ := h1.back h0 h3
    obtain ⟨b1, b2, b3⟩ := h2.back h3 h9
    exact ⟨⟨a1, b1⟩, by rw [a2, b2, List.append_assoc], by show p2 = p + (c x ++ d x y).length; rw [List.length_append]; omega⟩
theorem Out.map {c' : γ → List Int} {v' : γ → Prop} (g : α → γ) (h : Out b c v p e t x p1 e1 t1) (hv : ∀ z, v' z → ∃ y, z = g y ∧ v y ∧ c' z = c y) (hx : v x → v' (g x) ∧ c' (g x) = c x) : Out b c' v' p e t (g x) p1 e1 t1 where
  pos := h.pos
  stuck := h.stuck
  good := fun h0 z r hz hb => by
    obtain ⟨y, rfl, h2, h3⟩ := hv z hz
    obtain ⟨a1, a2, a3, a4⟩ := h.good h0 y r h2 (by rw [← h3]; exact hb)
    exact ⟨by rw [a1], by rw [a2, h3], a3, a4⟩
  short := fun h0 z r hz hr hb => by
    obtain ⟨y, rfl, h2, h3⟩ := hv z hz
    exact h.short h0 y r h2 hr (by rw [← h3]; exact hb)
  back := fun h0 h9 => by
    obtain ⟨a1, a2, a3⟩ := h.back h0 h9
    obtain ⟨h2, h3⟩ := hx a1
    exact ⟨h2, by rw [h3]; exact a2, by rw [h3]; exact a3⟩
/-- What was read is refused, or it is one of the narrower ones. -/
theorem Out.cut {v' : α → Prop} {x' : α} {e' t' : Int} (h : Out b c v p e t x p1 e1 t1) (hv : ∀ y, v' y → v y) (hs : e1 ≠ 0 → e' = e1 ∧ t' = t1)
    (hy : e1 = 0 → v' x → x' = x ∧ e' = 0 ∧ t' = t1) (hn : e1 = 0 → ¬ v' x → e' ≠ 0) : Out b c v' p e t x' p1 e' t' where
  pos := h.pos
  stuck := fun h0 => by
    obtain ⟨a1, a2⟩ := h.stuck h0
    obtain ⟨b1, b2⟩ := hs (by rw [a1]; exact h0)
    exact ⟨b1.trans a1, b2.trans a2⟩
  good := fun h0 y r hvy hb => by
    obtain ⟨a1, a2, a3, a4⟩ := h.good h0 y r (hv y hvy) hb
    subst a1
    obtain ⟨b1, b2, b3⟩ := hy a3 hvy
    exact ⟨b1, a2, b2, b3.trans a4⟩
  short := fun h0 y r hvy hr hb => by
    obtain ⟨a1, a2⟩ := h.short h0 y r (hv y hvy) hr hb
    obtain ⟨b1, b2⟩ := hs (by rw [a1]; decide)
    exact ⟨b1.trans a1, b2.trans a2⟩
  back := fun h0 h9 => by
    have h3 : e1 = 0 := Classical.byContradiction fun hn => hn ((hs hn).1.symm.trans h9)
    obtain ⟨a1, a2, a3⟩ := h.back h0 h3
    by_cases hvx : v' x
    · obtain ⟨b1, _, _⟩ := hy h3 hvx
      subst b1
      exact ⟨hvx, a2, a3⟩
    · exact absurd h9 (hn h3 hvx)
theorem Out.fail_ (h : e = 0 → e1 ≠ 0) (hs : e ≠ 0 → e1 = e ∧ t1 = t) (hv : ∀ y, ¬ v y) : Out b c v p e t x p e1 t1 :=
  ⟨id, hs, fun _ y _ hy => absurd hy (hv y), fun _ y _ hy => absurd hy (hv y), fun h0 h9 => absurd h9 (h h0)⟩
/-- Lists of one length. -/
def lenV (n : Nat) (v : α → Prop) (l : List α) : Prop := l.length = n ∧ ∀ x ∈ l, v x
theorem Out.nil_ : Out b (fun l : List α => l.flatMap c) (lenV 0 v) p e t [] p e t :=
  Out.pure_ ⟨rfl, fun x hx => by cases hx⟩ (fun y hy => List.length_eq_zero_iff.1 hy.1) rfl
theorem Out.cons_ {n : Nat} {l : List α} (h1 : Out b c v p e t x p1 e1 t1) (h2 : Out b (fun l : List α => l.flatMap c) (lenV n v) p1 e1 t1 l p2 e2 t2) :
    Out b (fun l : List α => l.flatMap c) (lenV (n + 1) v) p e t (x :: l) p2 e2 t2 :=
  (Out.seq (d := fun _ => fun l : List α => l.flatMap c) (u := fun _ => lenV n v) h1 h2).map (fun z => z.1 :: z.2)
    (fun z hz => by
      obtain ⟨h3, h4⟩ := hz
      cases z with
      | nil => cases h3
      | cons y m => exact ⟨(y, m), rfl, ⟨h4 y (List.mem_cons_self ..), by simpa using h3, fun w hw => h4 w (List.mem_cons_of_mem _ hw)⟩, rfl⟩)
    (fun h => ⟨⟨by simp [h.2.1], fun w hw => (List.mem_cons.1 hw).elim (fun e => e ▸ h.1) (h.2.2 w)⟩, rfl⟩)
/-- With the length ahead. -/
theorem Out.counted {n most : Nat} {l : List α} (h1 : Out b vint (fun n => n ≤ most) p e t n p1 e1 t1) (h2 : Out b (fun l : List α => l.flatMap c) (lenV n v) p1 e1 t1 l p2 e2 t2) :
    Out b (fun l : List α => vint l.length ++ l.flatMap c) (fun l => l.length ≤ most ∧ ∀ x ∈ l, v x) p e t l p2 e2 t2 :=
  (Out.seq (d := fun _ => fun l : List α => l.flatMap c) (u := fun n => lenV n v) h1 h2).map (fun z => z.2)
    (fun z hz => ⟨(z.length, z), rfl, ⟨hz.1, rfl, hz.2⟩, rfl⟩)
    (fun h => ⟨⟨by rw [h.2.1]; exact h.1, h.2.2⟩, by show vint l.length ++ _ = _; rw [h.2.1]⟩)
theorem Out.eq {c' : α → List Int} {v' : α → Prop} (h : Out b c v p e t x p1 e1 t1) (hc : ∀ x, c' x = c x) (hv : ∀ x, v' x ↔ v x) : Out b c' v' p e t x p1 e1 t1 :=
  h.map id (fun z hz => ⟨z, rfl, (hv z).1 hz, hc z⟩) (fun hx => ⟨(hv x).2 hx, hc x⟩)
end Go.Proofs.Ytakpdmkfengghaa.Rd
end
section
namespace Go.Proofs.Ytakpdmkfengghaa.Rd
open Go Go.RowKit Go.Proofs.Ytakpdmkfengghaa.Q Go.Proofs.YtakpdmkfengghaaW.PrintWords Go.Proofs.YtakpdmkfengghaaW.PrintMore Go.Proofs.Ytakpdmkfengghaa.Wr Go.Proofs.Ytakpdmkfengghaa.Pe
set_option linter.unusedVariables false
set_option linter.unusedSimpArgs false

theorem bits_or_u64_nat (a b : Nat) (ha : a < 18446744073709551616) (hb : b < 18446744073709551616) :
    bits .or .u64 (a : Int) (b : Int) = ((a ||| b : Nat) : Int) := by
  have hx : a ||| b < 2 ^ 64 := Nat.or_lt_two_pow (by omega) (by omega)
  have h1 : (BitVec.ofInt 64 (a : Int)).toNat = a := by
    rw [BitVec.ofInt_natCast, BitVec.toNat_ofNat]; exact Nat.mod_eq_of_lt (by omega)
  have h2 : (BitVec.ofInt 64 (b : Int)).toNat = b := by
    rw [BitVec.ofInt_natCast, BitVec.toNat_ofNat]; exact Nat.mod_eq_of_lt (by omega)
  show IntKind.u64.wrap ((BitVec.ofInt 64 (a : Int) ||| BitVec.ofInt 64 (b : Int)).toNat : Int) = _
  rw [BitVec.toNat_or, h1, h2, IntKind.wrap_u64]
  omega
theorem pow128 (i : Nat) (h : i ≤ 9) : 128 ^ i ≤ 9223372036854775808 := by
  have := Nat.pow_le_pow_right (n := 128) (by decide) h
  have e : 128 ^ 9 = 9223372036854775808 := by decide
  omega
theorem num_bits (acc c i : Nat) (hi : i ≤ 9) (hc : c < 256) (h9 : i = 9 → c ≤ 1) (ha : acc < 128 ^ i) :
    Go.bits .or .u64 (acc : Int) (shl .u64 (IntKind.u64.wrap (Go.bits .and .u8 (c : Int) 127)) (wrap64 (7 * (i : Int)))) = ((acc + 128 ^ i * (c % 128) : Nat) : Int) := by
  have e1 : Go.bits .and .u8 (c : Int) 127 = ((c % 128 : Nat) : Int) := by
    have := u8_and_nat c 127 hc (by decide)
    rw [show ((127 : Nat) : Int) = 127 from rfl] at this
    rw [this]
    have h2 : c &&& 127 = c % 128 := Nat.and_two_pow_sub_one_eq_mod c 7
    rw [h2]
  have e2 : IntKind.u64.wrap ((c % 128 : Nat) : Int) = ((c % 128 : Nat) : Int) := by rw [IntKind.wrap_u64]; omega
  have e3 : wrap64 (7 * (i : Int)) = ((7 * i : Nat) : Int) := by unfold wrap64; omega
  have hp := pow128 i hi
  have e5 : (128 : Nat) ^ i = 2 ^ (7 * i) := by rw [Nat.pow_mul]
  have hb : 128 ^ i * (c % 128) < 18446744073709551616 := by
    by_cases h : i = 9
    · have := h9 h
      subst h
      have e : 128 ^ 9 = 9223372036854775808 := by decide
      rw [e]; omega
    · have := Nat.pow_le_pow_right (n := 128) (by decide) (show i ≤ 8 by omega)
      have e : 128 ^ 8 = 72057594037927936 := by decide
      calc 128 ^ i * (c % 128) ≤ 72057594037927936 * 127 := Nat.mul_le_mul (by omega) (by omega)
        _ < 18446744073709551616 := by decide
  have e4 : shl .u64 ((c % 128 : Nat) : Int) ((7 * i : Nat) : Int) = ((128 ^ i * (c % 128) : Nat) : Int) := by
    unfold shl
    have hm : min ((7 * i : Nat) : Int).toNat IntKind.u64.bits = 7 * i := by
      have : IntKind.u64.bits = 64 := rfl
      rw [this]; omega
    rw [hm, IntKind.wrap_u64]
    have h2 : (((c % 128 : Nat) : Int) * 2 ^ (7 * i)) = ((128 ^ i * (c % 128) : Nat) : Int) := by
      rw [e5]; push_cast; exact Int.mul_comm _ _
    rw [h2]
    omega
  rw [e1, e2, e3, e4, bits_or_u64_nat _ _ (by omega) hb]
  congr 1
  rw [e5] at ha ⊢
  rw [Nat.or_comm, Nat.add_comm]
  exact (Nat.two_pow_add_eq_or_of_lt ha _).symm

theorem rd_nat {b : List Int} {p : Nat} (h : p < b.length) : b.drop p = rd b (p : Int) :: b.drop (p + 1) := by
  rw [List.drop_eq_getElem_cons h]
  simp [rd, List.getD_eq_getElem?_getD, h]
theorem rd_isB {b : List Int} (hb : isB b) {p : Nat} (h : p < b.length) : 0 ≤ rd b (p : Int) ∧ rd b (p : Int) < 256 := by
  have e : rd b (p : Int) = b[p] := by simp [rd, List.getD_eq_getElem?_getD, h]
  rw [e]
  exact hb _ (List.getElem_mem h)
abbrev cB : Int → List Int := fun t => [t]
abbrev vB : Int → Prop := fun t => 0 ≤ t ∧ t < 256

theorem one_code {b : List Int} (hb : isB b) (hl : b.length ≤ 1099511627776) (p : Nat) (e t : Int) (hp : p ≤ b.length) :
    ∃ (x : Int) (p1 : Nat) (e1 t1 : Int), code_reader_one.f b p e t = some (x, (p1 : Int), e1, t1) ∧ Out b cB vB p e t x p1 e1 t1 ∧ (e1 ≠ 0 → x = 0) := by
  unfold code_reader_one.f
  by_cases he : e = 0
  · subst he
    rw [if_pos rfl]
    by_cases h : p < b.length
    · have w1 : wrap64 ((p : Int) + 1) = ((p + 1 : Nat) : Int) := by unfold wrap64; omega
      have w2 : wrap64 (((p + 1 : Nat) : Int) - 1) = (p : Int) := by unfold wrap64; omega
      rw [if_neg (by omega), w1, w2, if_pos (by omega), if_pos (by omega)]
      have hd := rd_nat h
      have hr := rd_isB hb h
      refine ⟨_, _, _, _, rfl, ⟨fun _ => by omega, fun h0 => absurd rfl h0, fun _ y r hy hc => ?_, fun _ y r hy hr hc => ?_, fun _ _ => ⟨hr, hd, rfl⟩⟩, fun h0 => absurd rfl h0⟩
      · rw [hd] at hc
        simp only [cB, List.singleton_append, List.cons.injEq] at hc
        exact ⟨hc.1, rfl, rfl, rfl⟩
      · rw [hd] at hc
        simp only [cB, List.cons_append, List.cons.injEq] at hc
        exact absurd (List.append_eq_nil_iff.1 hc.2.symm).2 hr
    · rw [if_pos (by omega)]
      have hd : b.drop p = [] := List.drop_of_length_le (by omega)
      refine ⟨0, p, 10, (b.length : Int), rfl, ⟨id, fun h0 => absurd rfl h0, fun _ y r hy hc => ?_, fun _ y r hy hr hc => ⟨rfl, rfl⟩, fun _ h9 => absurd h9 (by decide)⟩, fun _ => rfl⟩
      rw [hd] at hc
      exact absurd hc (by simp)
  · rw [if_neg he]
    exact ⟨0, p, e, t, rfl, Out.none_ he, fun _ => rfl⟩
theorem fail_code (b : List Int) (p : Nat) (e t c a : Int) : code_reader_fail.f b p e t c a = some ((p : Int), (if e = 0 then c else e), (if e = 0 then a else t)) := by
  unfold code_reader_fail.f
  split <;> rfl

/-- What a number may be from its place i on. -/
def vN (i : Nat) (n : Nat) : Prop := (i = 0 ∨ 1 ≤ n) ∧ n * 128 ^ i < 18446744073709551616
theorem vN_step {i y : Nat} (hi : i ≤ 8) (hy : ¬ y < 128) (h : vN i y) : vN (i + 1) (y / 128) := by
  refine ⟨.inr (by omega), ?_⟩
  have : y / 128 * 128 ^ (i + 1) ≤ y * 128 ^ i := by
    rw [Nat.pow_succ, Nat.mul_comm (128 ^ i) 128, ← Nat.mul_assoc]
    exact Nat.mul_le_mul_right _ (by omega)
  have := h.2
  omega
theorem vN_back {i x c : Nat} (hi : i ≤ 8) (hc : c < 128) (h : vN (i + 1) x) : vN i (c + 128 * x) := by
  obtain ⟨h1, h2⟩ := h
  refine ⟨.inr (by omega), ?_⟩
  have hM : 2 * 128 ^ (8 - i) * 128 ^ (i + 1) = 18446744073709551616 := by
    rw [Nat.mul_assoc, ← Nat.pow_add, show 8 - i + (i + 1) = 9 by omega]
  have hP : 0 < 128 ^ (i + 1) := Nat.pow_pos (by decide)
  have hx : x < 2 * 128 ^ (8 - i) := by
    rw [← hM] at h2
    exact Nat.lt_of_mul_lt_mul_right h2
  have h3 : (x + 1) * 128 ^ (i + 1) ≤ 18446744073709551616 := by
    rw [← hM]
    exact Nat.mul_le_mul_right _ hx
  have h4 : (c + 128 * x) * 128 ^ i < (x + 1) * 128 ^ (i + 1) := by
    rw [Nat.pow_succ, Nat.mul_comm (128 ^ i) 128, ← Nat.mul_assoc]
    exact Nat.mul_lt_mul_of_pos_right (by omega) (Nat.pow_pos (by decide))
  omega
theorem vN_small {i c : Nat} (hi : i ≤ 9) (hc : c < 128) (h9 : i = 9 → c ≤ 1) (h0 : i = 0 ∨ 1 ≤ c) : vN i c := by
  refine ⟨h0, ?_⟩
  by_cases h : i = 9
  · have := h9 h
    subst h
    have e : 128 ^ 9 = 9223372036854775808 := by decide
    rw [e]; omega
  · have := Nat.pow_le_pow_right (n := 128) (by decide) (show i ≤ 8 by omega)
    have e : 128 ^ 8 = 72057594037927936 := by decide
    calc c * 128 ^ i ≤ 127 * 72057594037927936 := Nat.mul_le_mul (by omega) (by omega)
      _ < 18446744073709551616 := by decide
theorem vint_head (y : Nat) : ∃ c r, vint y = c :: r ∧ (y < 128 → c = (y : Int) ∧ r = []) ∧ (¬ y < 128 → c = ((y % 128 + 128 : Nat) : Int) ∧ r = vint (y / 128)) := by
  by_cases h : y < 128
  · exact ⟨_, _, vint_small h, fun _ => ⟨rfl, rfl⟩, fun h0 => absurd h h0⟩
  · exact ⟨_, _, vint_step h, fun h0 => absurd h0 h, fun _ => ⟨rfl, rfl⟩⟩

abbrev NumAt (b : List Int) (from_ : Int) (i acc p : Nat) (t : Int) : Prop :=
  ∃ (x p1 : Nat) (e1 t1 : Int), Evt (fun k => code_reader_number.l0 k from_ acc i b p 0 t) ((if e1 = 0 then ((acc + 128 ^ i * x : Nat) : Int) else 0), (p1 : Int), e1, t1) ∧ Out b vint (vN i) p 0 t x p1 e1 t1
theorem num_round {b : List Int} (hb : isB b) (hl : b.length ≤ 1099511627776) (from_ : Int) (i acc p : Nat) (t : Int) (hi : i ≤ 9) (ha : acc < 128 ^ i) (hp : p ≤ b.length)
    (ih : i ≤ 8 → ∀ acc' p', acc' < 128 ^ (i + 1) → p' ≤ b.length → NumAt b from_ (i + 1) acc' p' t) : NumAt b from_ i acc p t := by
  obtain ⟨c, p1, e1, t1, h1, h2, h3⟩ := one_code hb hl p 0 t hp
  by_cases he : e1 = 0
  rotate_left
  · refine ⟨0, p1, e1, t1, Evt.succ (fun k => by rw [code_reader_number.l0, h1, Option.bind_some, if_neg he]) ((Evt.const _).to (by rw [if_neg he])), h2.pos, h2.stuck, fun h0 y r hy hc => ?_, fun h0 y r hy hr hc => ?_, fun _ h9 => absurd h9 he⟩
    · obtain ⟨q, m, hv, _, _⟩ := vint_head y
      by_cases hd : p < b.length
      · have hr := rd_isB hb hd
        have := (h2.good rfl _ _ hr (rd_nat hd)).2.2.1
        exact absurd this he
      · rw [List.drop_of_length_le (by omega), hv] at hc
        cases hc
    · by_cases hd : p < b.length
      · have hr := rd_isB hb hd
        have := (h2.good rfl _ _ hr (rd_nat hd)).2.2.1
        exact absurd this he
      · have hd0 : b.drop p = [] := List.drop_of_length_le (by omega)
        exact h2.short rfl 0 [0] (by decide) (by simp) (by rw [hd0]; rfl)
  · subst he
    obtain ⟨⟨hc0, hc1⟩, hdrop, hp1⟩ := h2.back rfl rfl
    have hp1' : p1 = p + 1 := hp1
    subst hp1'
    have ht : t1 = t := (h2.good rfl c _ ⟨hc0, hc1⟩ hdrop).2.2.2
    subst ht
    have hple : p + 1 ≤ b.length := h2.pos hp
    obtain ⟨n, rfl⟩ := Int.eq_ofNat_of_zero_le hc0
    have hdrop' : b.drop p = (n : Int) :: b.drop (p + 1) := hdrop
    have hn : n < 256 := by omega
    have hw : wrap64 (7 * (i : Int)) = ((7 * i : Nat) : Int) := by unfold wrap64; omega
    by_cases hbig : i = 9 ∧ 1 < n
    · -- too great
      obtain ⟨h9, hn1⟩ := hbig
      have e9 : 128 ^ i = 9223372036854775808 := by rw [h9]
      refine ⟨0, p + 1, 3, from_, Evt.succ (fun k => by rw [code_reader_number.l0, h1, Option.bind_some, if_pos rfl, if_pos (show (i : Int) = 9 by omega)]) (Evt.succ (fun k => by rw [code_reader_number.j1, if_pos (show decide ((n : Int) > 1) = true by simp; omega), fail_code, if_pos rfl, if_pos rfl]; rfl) ((Evt.const _).to (by rw [if_neg (by decide)]))), h2.pos, fun h0 => absurd rfl h0, fun h0 y r hy hc => ?_, fun h0 y r hy hr hc => ?_, fun _ h9 => absurd h9 (by decide)⟩
      · obtain ⟨q, m, hv, hs, _⟩ := vint_head y
        have hy2 : y < 128 := by have := hy.2; rw [e9] at this; omega
        rw [hdrop', hv] at hc
        have := (List.cons.inj hc).1
        have hq := (hs hy2).1
        have := hy.2; rw [e9] at this
        omega
      · obtain ⟨q, m, hv, hs, _⟩ := vint_head y
        have hy2 : y < 128 := by have := hy.2; rw [e9] at this; omega
        rw [hdrop', hv, (hs hy2).2] at hc
        have := (List.cons.inj hc).2
        exact absurd (List.append_eq_nil_iff.1 this.symm).2 hr
    · have step1 : ∀ k, code_reader_number.l0 (k + 1) from_ acc i b p 0 t1 = code_reader_number.j1 k from_ acc i n false b ((p + 1 : Nat) : Int) 0 t1 := by
        intro k
        rw [code_reader_number.l0, h1, Option.bind_some, if_pos rfl]
        by_cases h9 : (i : Int) = 9
        · rw [if_pos h9]
          have : decide ((n : Int) > 1) = false := by
            have : ¬ 1 < n := fun h => hbig ⟨by omega, h⟩
            simp; omega
          rw [this]
        · rw [if_neg h9]
      have hn9 : i = 9 → n ≤ 1 := fun h => by
        have : ¬ 1 < n := fun h' => hbig ⟨h, h'⟩
        omega
      have hbits := num_bits acc n i hi hn hn9 ha
      by_cases hsm : n < 128
      · have em : n % 128 = n := Nat.mod_eq_of_lt hsm
        rw [em] at hbits
        by_cases hz : n = 0 ∧ 0 < i
        · obtain ⟨hz1, hz2⟩ := hz
          refine ⟨0, p + 1, 13, from_, Evt.succ step1 (Evt.succ (fun k => by rw [code_reader_number.j1, if_neg (by decide), hw, if_pos (by omega), if_pos (by omega), if_pos (show (n : Int) = 0 by omega), if_pos (by omega), fail_code, if_pos rfl, if_pos rfl]; rfl) ((Evt.const _).to (by rw [if_neg (by decide)]))), h2.pos, fun h0 => absurd rfl h0, fun h0 y r hy hc => ?_, fun h0 y r hy hr hc => ?_, fun _ h9 => absurd h9 (by decide)⟩
          · obtain ⟨q, m, hv, hs, hs2⟩ := vint_head y
            rw [hdrop', hv] at hc
            have hq := (List.cons.inj hc).1
            have := hy.1
            by_cases hy2 : y < 128
            · have := (hs hy2).1; omega
            · have := (hs2 hy2).1; omega
          · obtain ⟨q, m, hv, hs, hs2⟩ := vint_head y
            rw [hdrop', hv] at hc
            have hq := (List.cons.inj hc).1
            have := hy.1
            by_cases hy2 : y < 128
            · have := (hs hy2).1; omega
            · have := (hs2 hy2).1; omega
        · have hval : Evt (fun k => code_reader_number.l0 k from_ acc i b p 0 t1) (((acc + 128 ^ i * n : Nat) : Int), ((p + 1 : Nat) : Int), 0, t1) := by
            refine Evt.succ step1 (Evt.succ (fun k => ?_) (Evt.const _))
            rw [code_reader_number.j1, if_neg (by decide), hw, if_pos (by omega), if_pos (by omega), ← hw, hbits]
            by_cases h0 : n = 0
            · have : ¬ ((i : Int) > 0) := by
                have : ¬ 0 < i := fun h => hz ⟨h0, h⟩
                omega
              rw [if_pos (by omega), if_neg this]
            · rw [if_neg (by omega)]
          have hvn : vN i n := vN_small hi hsm hn9 (by
            by_cases h0 : n = 0
            · left
              have : ¬ 0 < i := fun h => hz ⟨h0, h⟩
              omega
            · right; omega)
          refine ⟨n, p + 1, 0, t1, hval.to (by rw [if_pos rfl]), h2.pos, fun h0 => absurd rfl h0, fun h0 y r hy hc => ?_, fun h0 y r hy hr hc => ?_, fun _ _ => ⟨hvn, by rw [vint_small hsm]; exact hdrop, by rw [vint_small hsm]; rfl⟩⟩
          · obtain ⟨q, m, hv, hs, hs2⟩ := vint_head y
            rw [hdrop', hv] at hc
            have hq := (List.cons.inj hc).1
            by_cases hy2 : y < 128
            · have := (hs hy2).1
              have hny : n = y := by omega
              subst hny
              exact ⟨rfl, by rw [vint_small hsm]; rfl, rfl, rfl⟩
            · have := (hs2 hy2).1; omega
          · obtain ⟨q, m, hv, hs, hs2⟩ := vint_head y
            rw [hdrop', hv] at hc
            have hq := (List.cons.inj hc).1
            by_cases hy2 : y < 128
            · have h5 := (hs hy2).2
              have := (List.cons.inj hc).2
              rw [h5] at this
              exact absurd (List.append_eq_nil_iff.1 this.symm).2 hr
            · have := (hs2 hy2).1; omega
      · have hi8 : i ≤ 8 := by
          by_cases h9 : i = 9
          · have := hn9 h9; omega
          · omega
        have hacc : acc + 128 ^ i * (n % 128) < 128 ^ (i + 1) := by
          rw [Nat.pow_succ]
          have : n % 128 ≤ 127 := by omega
          have := Nat.mul_le_mul_left (128 ^ i) this
          omega
        obtain ⟨x, p2, e2, t2, g1, g2⟩ := ih hi8 _ (p + 1) hacc hple
        refine ⟨n % 128 + 128 * x, p2, e2, t2, ?_, fun _ => g2.pos hple, fun h0 => absurd rfl h0, fun h0 y r hy hc => ?_, fun h0 y r hy hr hc => ?_, fun _ h9 => ?_⟩
        · refine Evt.succ step1 (Evt.succ (g := fun k => code_reader_number.l0 k from_ ((acc + 128 ^ i * (n % 128) : Nat) : Int) ((i + 1 : Nat) : Int) b ((p + 1 : Nat) : Int) 0 t1) (fun k => ?_) (g1.to ?_))
          · have hw1 : wrap64 ((i : Int) + 1) = ((i + 1 : Nat) : Int) := by unfold wrap64; omega
            rw [code_reader_number.j1, if_neg (by decide), if_pos (by rw [hw]; exact Int.natCast_nonneg _), if_neg (show ¬ ((n : Int) < 128) from fun h => hsm (by exact_mod_cast h)), hbits, hw1]
          · have : acc + 128 ^ i * (n % 128) + 128 ^ (i + 1) * x = acc + 128 ^ i * (n % 128 + 128 * x) := by
              rw [Nat.pow_succ, Nat.mul_add, Nat.mul_assoc, Nat.add_assoc]
            rw [this]
        · obtain ⟨q, m, hv, hs, hs2⟩ := vint_head y
          rw [hdrop', hv] at hc
          have hq := (List.cons.inj hc).1
          by_cases hy2 : y < 128
          · have := (hs hy2).1; omega
          · obtain ⟨h5, h6⟩ := hs2 hy2
            obtain ⟨a1, a2, a3, a4⟩ := g2.good rfl (y / 128) r (vN_step hi8 hy2 hy) (by rw [← h6]; exact (List.cons.inj hc).2)
            refine ⟨by omega, ?_, a3, a4⟩
            rw [a2, vint_step hy2, List.length_cons]
            omega
        · obtain ⟨q, m, hv, hs, hs2⟩ := vint_head y
          rw [hdrop', hv] at hc
          have hq := (List.cons.inj hc).1
          by_cases hy2 : y < 128
          · have := (hs hy2).1; omega
          · obtain ⟨h5, h6⟩ := hs2 hy2
            exact g2.short rfl (y / 128) r (vN_step hi8 hy2 hy) hr (by rw [← h6]; exact (List.cons.inj hc).2)
        · obtain ⟨a1, a2, a3⟩ := g2.back rfl h9
          have hbig2 : ¬ (n % 128 + 128 * x) < 128 := by
            have := a1.1
            omega
          refine ⟨vN_back hi8 (by omega) a1, ?_, ?_⟩
          · rw [vint_step hbig2, hdrop', a2]
            have e1 : (n % 128 + 128 * x) % 128 + 128 = n := by omega
            have e2 : (n % 128 + 128 * x) / 128 = x := by omega
            rw [e1, e2]
            rfl
          · rw [vint_step hbig2, List.length_cons, a3]
            have e2 : (n % 128 + 128 * x) / 128 = x := by omega
            rw [e2]
            omega
theorem num_loop {b : List Int} (hb : isB b) (hl : b.length ≤ 1099511627776) (from_ : Int) : ∀ (d i acc p : Nat) (t : Int), i + d = 9 → acc < 128 ^ i → p ≤ b.length → NumAt b from_ i acc p t
  | 0, i, acc, p, t, hi, ha, hp => num_round hb hl from_ i acc p t (by omega) ha hp (fun h => absurd h (by omega))
  | d + 1, i, acc, p, t, hi, ha, hp => num_round hb hl from_ i acc p t (by omega) ha hp (fun _ acc' p' ha' hp' => num_loop hb hl from_ d (i + 1) acc' p' t (by omega) ha' hp')
/-- A number. -/
theorem number_code {b : List Int} (hb : isB b) (hl : b.length ≤ 1099511627776) (p : Nat) (e t : Int) (hp : p ≤ b.length) :
    ∃ (x p1 : Nat) (e1 t1 : Int), Evt (fun k => code_reader_number.f k b p e t) ((if e1 = 0 then (x : Int) else 0), (p1 : Int), e1, t1) ∧ Out b vint (fun n => n < 18446744073709551616) p e t x p1 e1 t1 := by
  by_cases he : e = 0
  · subst he
    obtain ⟨x, p1, e1, t1, h1, h2⟩ := num_loop hb hl (p : Int) 9 0 0 p t rfl (by decide) hp
    exact ⟨x, p1, e1, t1, h1.to (by simp), h2.eq (fun _ => rfl) (fun n => by simp [vN])⟩
  · refine ⟨0, p, e, t, Evt.succ (fun k => ?_) ((Evt.const (0, (p : Int), e, t)).to (by rw [if_neg he])), Out.none_ he⟩
    unfold code_reader_number.f
    rw [code_reader_number.l0, show code_reader_one.f b p e t = some (0, (p : Int), e, t) by unfold code_reader_one.f; rw [if_neg he], Option.bind_some, if_neg he]
/-- How many there are. -/
theorem count_code {b : List Int} (hb : isB b) (hl : b.length ≤ 1099511627776) (most : Nat) (hm : most ≤ 1000) (p : Nat) (e t : Int) (hp : p ≤ b.length) :
    ∃ (x p1 : Nat) (e1 t1 : Int), Evt (fun k => code_reader_count.f k b p e t most) ((if e1 = 0 then (x : Int) else 0), (p1 : Int), e1, t1) ∧ Out b vint (fun n => n ≤ most) p e t x p1 e1 t1 := by
  obtain ⟨x, p1, e1, t1, h1, h2⟩ := number_code hb hl p e t hp
  by_cases he : e1 = 0
  · subst he
    have hw : IntKind.u64.wrap (most : Int) = most := by rw [IntKind.wrap_u64]; omega
    rw [if_pos rfl] at h1
    by_cases hx : x ≤ most
    · refine ⟨x, p1, 0, t1, ?_, h2.cut (fun y hy => by omega) (fun h => absurd rfl h) (fun _ _ => ⟨rfl, rfl, rfl⟩) (fun _ h => absurd hx h)⟩
      unfold code_reader_count.f
      refine Evt.bind h1 ?_
      have : decide ((x : Int) > IntKind.u64.wrap (most : Int)) = false := by rw [hw]; simp; omega
      refine Evt.eq (g := fun k => code_reader_count.j0 k p x false b p1 0 t1) (fun k => by rw [if_pos rfl]; rw [this]) ?_
      refine Evt.succ (fun k => ?_) ((Evt.const ((x : Int), (p1 : Int), (0 : Int), t1)).to (by rw [if_pos rfl]))
      rw [code_reader_count.j0, if_neg (by decide), if_pos rfl]
      have : wrap64 (x : Int) = x := by unfold wrap64; omega
      rw [this]
    · refine ⟨0, p1, 3, p, ?_, h2.cut (fun y hy => by omega) (fun h => absurd rfl h) (fun _ h => absurd h hx) (fun _ _ => by decide)⟩
      unfold code_reader_count.f
      refine Evt.bind h1 ?_
      have : decide ((x : Int) > IntKind.u64.wrap (most : Int)) = true := by rw [hw]; simp; omega
      refine Evt.eq (g := fun k => code_reader_count.j0 k p x true b p1 0 t1) (fun k => by rw [if_pos rfl]; rw [this]) ?_
      refine Evt.succ (fun k => ?_) ((Evt.const ((0 : Int), (p1 : Int), (3 : Int), (p : Int))).to (by rw [if_neg (by decide)]))
      rw [code_reader_count.j0, if_pos rfl, fail_code, if_pos rfl, if_pos rfl, Option.bind_some, if_neg (by show ¬ ((3 : Int) = 0); decide)]
  · refine ⟨0, p1, e1, t1, ?_, h2.cut (fun y hy => by omega) (fun h => ⟨rfl, rfl⟩) (fun h => absurd h he) (fun h => absurd h he)⟩
    rw [if_neg he] at h1
    unfold code_reader_count.f
    refine Evt.bind h1 ?_
    refine Evt.eq (g := fun k => code_reader_count.j0 k p 0 false b p1 e1 t1) (fun k => by rw [if_neg he]) ?_
    refine Evt.succ (fun k => ?_) ((Evt.const ((0 : Int), (p1 : Int), e1, t1)).to (by rw [if_neg he]))
    rw [code_reader_count.j0, if_neg (by decide), if_neg he]
/-- A kind. -/
theorem kind_code {b : List Int} (hb : isB b) (hl : b.length ≤ 1099511627776) (p : Nat) (e t : Int) (hp : p ≤ b.length) :
    ∃ (x : Int) (p1 : Nat) (e1 t1 : Int), code_reader_kind.f b p e t = some (x, (p1 : Int), e1, t1) ∧ Out b cB vKind p e t x p1 e1 t1 := by
  obtain ⟨x, p1, e1, t1, h1, h2, h3⟩ := one_code hb hl p e t hp
  unfold code_reader_kind.f
  rw [h1, Option.bind_some]
  by_cases he : e1 = 0
  · subst he
    by_cases h0 : e = 0
    rotate_left
    · exact absurd ((h2.stuck h0).1) (fun h => h0 h.symm)
    obtain ⟨⟨a1, a2⟩, _, _⟩ := h2.back h0 rfl
    have hw : wrap64 x = x := by unfold wrap64; omega
    by_cases hx : x > 2
    · rw [hw, if_pos hx, fail_code]
      exact ⟨x, p1, 32, p, rfl, h2.cut (fun y hy => ⟨hy.1, by have := hy.2; omega⟩) (fun h => absurd rfl h) (fun _ h => absurd h.2 (by omega)) (fun _ _ => by decide)⟩
    · rw [hw, if_neg hx]
      exact ⟨x, p1, 0, t1, rfl, h2.cut (fun y hy => ⟨hy.1, by have := hy.2; omega⟩) (fun h => absurd rfl h) (fun _ _ => ⟨rfl, rfl, rfl⟩) (fun _ h => absurd ⟨a1, by omega⟩ h)⟩
  · have := h3 he
    subst this
    have hw : wrap64 0 = 0 := by unfold wrap64; omega
    rw [hw, if_neg (by decide)]
    exact ⟨0, p1, e1, t1, rfl, h2.cut (fun y hy => ⟨hy.1, by have := hy.2; omega⟩) (fun h => ⟨rfl, rfl⟩) (fun h => absurd h he) (fun h => absurd h he)⟩
/-- An operand that isn't Const's. -/
theorem operand_code {b : List Int} (hb : isB b) (hl : b.length ≤ 1099511627776) (p : Nat) (e t : Int) (hp : p ≤ b.length) :
    ∃ (x : Int) (p1 : Nat) (e1 t1 : Int), Evt (fun k => code_reader_operand.f k b p e t) (x, (p1 : Int), e1, t1) ∧ Out b (fun a : Int => vint a.toNat) (fun a => 0 ≤ a ∧ a ≤ 2147483647) p e t x p1 e1 t1 := by
  obtain ⟨x, p1, e1, t1, h1, h2⟩ := number_code hb hl p e t hp
  have h2' : Out b (fun a : Int => vint a.toNat) (fun a => 0 ≤ a ∧ a < 18446744073709551616) p e t (x : Int) p1 e1 t1 :=
    h2.map (fun n : Nat => (n : Int)) (fun z hz => ⟨z.toNat, by omega, by omega, rfl⟩) (fun hx => ⟨by omega, by simp⟩)
  by_cases he : e1 = 0
  · subst he
    rw [if_pos rfl] at h1
    by_cases hx : (x : Int) ≤ 2147483647
    · refine ⟨x, p1, 0, t1, ?_, h2'.cut (fun y hy => by omega) (fun h => absurd rfl h) (fun _ _ => ⟨rfl, rfl, rfl⟩) (fun _ h => absurd ⟨by omega, hx⟩ h)⟩
      unfold code_reader_operand.f
      refine Evt.bind h1 (Evt.eq (fun k => ?_) (Evt.const _))
      have hw : wrap64 (x : Int) = x := by unfold wrap64; omega
      rw [if_pos rfl, if_neg (by show ¬ ((x : Int) > 2147483647); omega)]
      rw [hw]
    · refine ⟨wrap64 (x : Int), p1, 3, p, ?_, h2'.cut (fun y hy => by omega) (fun h => absurd rfl h) (fun _ h => absurd h.2 hx) (fun _ _ => by decide)⟩
      unfold code_reader_operand.f
      refine Evt.bind h1 (Evt.eq (fun k => ?_) (Evt.const _))
      rw [if_pos rfl, if_pos (by show (x : Int) > 2147483647; omega), fail_code]
      rfl
  · refine ⟨0, p1, e1, t1, ?_, h2'.cut (fun y hy => by omega) (fun h => ⟨rfl, rfl⟩) (fun h => absurd h he) (fun h => absurd h he)⟩
    rw [if_neg he] at h1
    unfold code_reader_operand.f
    refine Evt.bind h1 (Evt.eq (fun k => ?_) (Evt.const _))
    rw [if_neg he]
    show some (wrap64 0, (p1 : Int), e1, t1) = _
    rw [show wrap64 0 = 0 by unfold wrap64; omega]
end Go.Proofs.Ytakpdmkfengghaa.Rd
end
section
namespace Go.Proofs.Ytakpdmkfengghaa.Rd
open Go Go.RowKit Go.Proofs.Ytakpdmkfengghaa.Q Go.Proofs.YtakpdmkfengghaaW.PrintWords Go.Proofs.YtakpdmkfengghaaW.PrintLast Go.Proofs.YtakpdmkfengghaaW.PrintMore Go.Proofs.Ytakpdmkfengghaa.Wr Go.Proofs.Ytakpdmkfengghaa.Pe
set_option linter.unusedVariables false
set_option linter.unusedSimpArgs false

theorem Evt_mono {α : Type} {g : Nat → Option α} {r : α} (hm : ∀ k, LeO (g k) (g (k + 1))) {k0 : Nat} (h : g k0 = some r) : Evt g r := by
  refine ⟨k0, fun k hk => ?_⟩
  obtain ⟨d, rfl⟩ : ∃ d, k = k0 + d := ⟨k - k0, by omega⟩
  clear hk
  induction d with
  | zero => exact h
  | succ d ih => exact hm (k0 + d) r ih

section
variable {b : List Int} (hb : isB b) (hl : b.length ≤ 1099511627776)
include hb hl

theorem kinds_loop : ∀ (n : Nat) (acc : List Int) (p : Nat) (e t : Int), acc.length + n ≤ 1000 → p ≤ b.length →
    ∃ (l : List Int) (p1 : Nat) (e1 t1 : Int), Evt (fun k => code_reader_kinds.l0 k acc n b p e t) (acc ++ l, (p1 : Int), e1, t1) ∧ Out b (fun l : List Int => l.flatMap cB) (lenV n vKind) p e t l p1 e1 t1
  | 0, acc, p, e, t, _, hp => ⟨[], p, e, t, Evt.succ (fun k => by rw [code_reader_kinds.l0, if_neg (by decide)]) ((Evt.const _).to (by rw [List.append_nil])), Out.nil_⟩
  | n + 1, acc, p, e, t, hn, hp => by
    by_cases he : e = 0
    · obtain ⟨x, p1, e1, t1, h1, h2⟩ := kind_code hb hl p e t hp
      obtain ⟨l, p2, e2, t2, g1, g2⟩ := kinds_loop n (acc ++ [x]) p1 e1 t1 (by simp; omega) (h2.pos hp)
      refine ⟨x :: l, p2, e2, t2, Evt.succ (g := fun k => code_reader_kinds.l0 k (acc ++ [x]) n b p1 e1 t1) (fun k => ?_) (g1.to (by simp)), Out.cons_ h2 g2⟩
      have hw : wrap64 (((n + 1 : Nat) : Int) - 1) = (n : Int) := by unfold wrap64; omega
      rw [code_reader_kinds.l0, if_pos (by omega), if_pos he, h1, Option.bind_some, if_pos (by omega), hw]
    · exact ⟨[], p, e, t, Evt.succ (fun k => by rw [code_reader_kinds.l0, if_pos (by omega), if_neg he]) ((Evt.const _).to (by rw [List.append_nil])), Out.none_ he⟩
omit hb hl in
theorem flat_cB (l : List Int) : l.flatMap cB = l := by induction l with | nil => rfl | cons x r ih => simp [ih, cB]
theorem kinds_code (most : Nat) (hm : most ≤ 100) (p : Nat) (e t : Int) (hp : p ≤ b.length) :
    ∃ (l : List Int) (p1 : Nat) (e1 t1 : Int), Evt (fun k => code_reader_kinds.f k b p e t most) (l, (p1 : Int), e1, t1) ∧ Out b cKinds (fun l => l.length ≤ most ∧ ∀ x ∈ l, vKind x) p e t l p1 e1 t1 := by
  obtain ⟨n, p1, e1, t1, h1, h2⟩ := count_code hb hl most (by omega) p e t hp
  have hk : ∀ l : List Int, cKinds l = vint l.length ++ l.flatMap cB := fun l => by rw [flat_cB]; rfl
  by_cases he : e1 = 0
  · rw [if_pos he] at h1
    obtain ⟨h0, _⟩ : e = 0 ∧ True := ⟨Classical.byContradiction fun h => h ((h2.stuck h).1.symm.trans he), trivial⟩
    have hn := (h2.back h0 he).1
    obtain ⟨l, p2, e2, t2, g1, g2⟩ := kinds_loop hb hl n [] p1 e1 t1 (by simp; omega) (h2.pos hp)
    refine ⟨l, p2, e2, t2, ?_, (Out.counted h2 g2).eq hk (fun _ => Iff.rfl)⟩
    unfold code_reader_kinds.f
    exact Evt.bind h1 (g1.to (by simp))
  · rw [if_neg he] at h1
    refine ⟨[], p1, e1, t1, ?_, (Out.counted h2 (l := []) (Out.none_ he)).eq hk (fun _ => Iff.rfl)⟩
    unfold code_reader_kinds.f
    exact Evt.bind h1 (Evt.succ (fun k => by rw [code_reader_kinds.l0, if_neg (show ¬ ((0 : Int) > 0) by decide)]) (Evt.const _))
omit hb hl
theorem str_chars (y : ByteArray) : strOfNums (chars y) = y := by
  have h : (strOfNums (chars y)).data.toList = y.data.toList := by
    rw [strOfNums_data]
    unfold chars
    rw [List.map_map]
    conv => rhs; rw [← List.map_id y.data.toList]
    refine List.map_congr_left fun c _ => ?_
    show UInt8.ofNat ((c.toNat : Int)).toNat = c
    rw [Int.toNat_natCast]
    exact UInt8.ofNat_toNat
  cases y with
  | mk d =>
    cases hs : strOfNums (chars ⟨d⟩) with
    | mk d2 =>
      rw [hs] at h
      exact congrArg ByteArray.mk (Array.ext' h)
theorem chars_str {l : List Int} (h : isB l) : chars (strOfNums l) = l := by
  unfold chars
  rw [strOfNums_data]
  induction l with
  | nil => rfl
  | cons x r ih =>
    have hx := h x (List.mem_cons_self ..)
    simp only [List.map_cons]
    rw [ih (fun y hy => h y (List.mem_cons_of_mem _ hy))]
    congr 1
    simp only [UInt8.toNat_ofNat']
    omega
theorem str_size (l : List Int) : (strOfNums l).size = l.length := by
  have : (strOfNums l).data.toList.length = l.length := by rw [strOfNums_data]; simp
  exact this
theorem isB_take {l : List Int} (h : isB l) (n : Nat) : isB (l.take n) := fun x hx => h x (List.mem_of_mem_take hx)
theorem isB_drop {l : List Int} (h : isB l) (n : Nat) : isB (l.drop n) := fun x hx => h x (List.mem_of_mem_drop hx)
include hb hl
theorem text_code (p : Nat) (e t : Int) (hp : p ≤ b.length) :
    ∃ (x : ByteArray) (p1 : Nat) (e1 t1 : Int), Evt (fun k => code_reader_text.f k b p e t) (x, (p1 : Int), e1, t1) ∧ Out b cText vText p e t x p1 e1 t1 := by
  obtain ⟨n, p1, e1, t1, h1, h2⟩ := count_code hb hl 16 (by decide) p e t hp
  have hp1 := h2.pos hp
  have join : ∀ {x : ByteArray} {p2 : Nat} {e2 t2 : Int}, Out b chars (fun y => y.size = n) p1 e1 t1 x p2 e2 t2 → Out b cText vText p e t x p2 e2 t2 := fun {x p2 e2 t2} h3 =>
    (Out.seq (d := fun _ => chars) (u := fun n y => y.size = n) h2 h3).map (fun z => z.2)
      (fun z hz => ⟨(z.size, z), rfl, ⟨hz, rfl⟩, rfl⟩)
      (fun h => ⟨by show x.size ≤ 16; rw [h.2]; exact h.1, by show vint x.size ++ _ = _; rw [h.2]⟩)
  by_cases he : e1 = 0
  · subst he
    rw [if_pos rfl] at h1
    have h0 : e = 0 := Classical.byContradiction fun h => h ((h2.stuck h).1.symm)
    have hn := (h2.back h0 rfl).1
    have hw1 : wrap64 ((b.length : Int) - (p1 : Int)) = ((b.length - p1 : Nat) : Int) := by unfold wrap64; omega
    have hw2 : wrap64 ((p1 : Int) + (n : Int)) = ((p1 + n : Nat) : Int) := by unfold wrap64; omega
    have hw3 : wrap64 (((p1 + n : Nat) : Int) - (n : Int)) = (p1 : Int) := by unfold wrap64; omega
    by_cases hbig : b.length - p1 < n
    · refine ⟨⟨#[]⟩, p1, 10, b.length, ?_, join ⟨id, fun h => absurd rfl h, fun _ y r hy hc => ?_, fun _ y r hy hr hc => ⟨rfl, rfl⟩, fun _ h9 => absurd h9 (by decide)⟩⟩
      · unfold code_reader_text.f
        refine Evt.bind h1 (Evt.eq (fun k => ?_) (Evt.const _))
        rw [if_pos rfl]
        show (if (n : Int) > wrap64 ((b.length : Int) - (p1 : Int)) then _ else _) = _
        rw [hw1, if_pos (by omega), fail_code, if_pos rfl, if_pos rfl]
        rfl
      · have := congrArg List.length hc
        rw [List.length_append, chars_length, hy, List.length_drop] at this
        omega
    · have hx : Evt (fun k => code_reader_text.f k b p e t) (strOfNums ((b.drop p1).take n), ((p1 + n : Nat) : Int), 0, t1) := by
        unfold code_reader_text.f
        refine Evt.bind h1 (Evt.eq (fun k => ?_) (Evt.const _))
        rw [if_pos rfl]
        show (if (n : Int) > wrap64 ((b.length : Int) - (p1 : Int)) then _ else if 0 ≤ wrap64 (wrap64 ((p1 : Int) + (n : Int)) - (n : Int)) then _ else _) = _
        rw [hw1, if_neg (by omega), hw2, hw3, if_pos (by omega)]
        rw [if_pos (by omega), if_pos (by omega)]
        have : (b.take ((p1 + n : Nat) : Int).toNat).drop (p1 : Int).toNat = (b.drop p1).take n := by
          rw [Int.toNat_natCast, Int.toNat_natCast, List.drop_take]
          congr 1
          omega
        rw [this]
      have hlen : ((b.drop p1).take n).length = n := by rw [List.length_take, List.length_drop]; omega
      refine ⟨_, _, _, _, hx, join ⟨fun _ => by omega, fun h => absurd rfl h, fun _ y r hy hc => ?_, fun _ y r hy hr hc => ?_, fun _ _ => ⟨by rw [str_size, hlen], ?_, ?_⟩⟩⟩
      · have : (b.drop p1).take n = chars y := by rw [hc, ← hy, ← chars_length]; exact List.take_left
        rw [this, str_chars]
        exact ⟨rfl, by rw [chars_length, hy], rfl, rfl⟩
      · have := congrArg List.length hc
        rw [List.length_append, chars_length, hy, List.length_drop] at this
        have hr2 : r.length ≠ 0 := fun h => hr (List.length_eq_zero_iff.1 h)
        omega
      · rw [chars_str (isB_take (isB_drop hb _) _), ← List.drop_drop]
        exact (List.take_append_drop n (b.drop p1)).symm
      · rw [chars_str (isB_take (isB_drop hb _) _), hlen]
  · rw [if_neg he] at h1
    refine ⟨⟨#[]⟩, p1, e1, t1, ?_, join (Out.none_ he)⟩
    unfold code_reader_text.f
    refine Evt.bind h1 (Evt.eq (fun k => ?_) (Evt.const _))
    rw [if_neg he]
omit hb hl

/-- The number that a number stands for. -/
def zagN (n : Nat) : Int := if n % 2 = 0 then ((n / 2 : Nat) : Int) else -((n / 2 : Nat) : Int) - 1
theorem zag_code (n : Nat) (hn : n < 18446744073709551616) : code_zag.f (n : Int) = some (zagN n) := by
  unfold code_zag.f zagN
  have h1 : wrap64 ((n : Int) / 2) = ((n / 2 : Nat) : Int) := by unfold wrap64; omega
  have h2 : Go.bits .and .u64 (n : Int) 1 = ((n % 2 : Nat) : Int) := by
    have := u64_and_nat n 1 hn (by decide)
    rw [show ((1 : Nat) : Int) = 1 from rfl] at this
    rw [this, Nat.and_one_is_mod]
  rw [h1, h2]
  by_cases h : n % 2 = 0
  · rw [if_pos h, h]
    have : wrap64 (-(wrap64 ((0 : Nat) : Int))) = 0 := by unfold wrap64; omega
    rw [this]
    congr 1
    show IntKind.i64.wrap ((BitVec.ofInt 64 ((n / 2 : Nat) : Int) ^^^ BitVec.ofInt 64 0).toNat : Int) = _
    have e0 : BitVec.ofInt 64 0 = 0#64 := rfl
    rw [e0, BitVec.xor_zero, BitVec.ofInt_natCast, BitVec.toNat_ofNat, Nat.mod_eq_of_lt (by omega)]
    have e6 := i64_w ((n / 2 : Nat) : Int)
    rw [e6]
    unfold wrap64
    omega
  · rw [if_neg h]
    have h3 : n % 2 = 1 := by omega
    rw [h3]
    have : wrap64 (-(wrap64 ((1 : Nat) : Int))) = -1 := by unfold wrap64; omega
    rw [this]
    congr 1
    have e := i64_not (n / 2) (by omega)
    have hc : bits .xor .i64 ((n / 2 : Nat) : Int) (-1) = bits .xor .i64 (-1) ((n / 2 : Nat) : Int) := by
      show IntKind.i64.wrap ((BitVec.ofInt 64 ((n / 2 : Nat) : Int) ^^^ BitVec.ofInt 64 (-1)).toNat : Int) = IntKind.i64.wrap ((BitVec.ofInt 64 (-1) ^^^ BitVec.ofInt 64 ((n / 2 : Nat) : Int)).toNat : Int)
      rw [BitVec.xor_comm]
    rw [hc, e]
    omega
theorem zig_zag (n : Nat) : zigN (zagN n) = n := by unfold zigN zagN; split <;> split <;> omega
theorem zag_zig (a : Int) : zagN (zigN a) = a := by unfold zigN zagN; split <;> split <;> omega
theorem zag_ok (n : Nat) (h : n < 18446744073709551616) : i64ok (zagN n) := by unfold i64ok zagN; split <;> omega

def dI (op : Int) (z : Int × Int) : List Int := if op = 1 then vint (zigN z.1) else if opN op = 1 then vint z.1.toNat else if opN op = 2 then vint z.1.toNat ++ vint z.2.toNat else []
def uI (op : Int) (z : Int × Int) : Prop := okI ⟨op, z.1, z.2⟩ = true ∧ i64ok z.1
def vInsR (i : S23) : Prop := vIns i ∧ i64ok i.f1
theorem opN_evt (a : Int) : Evt (fun k => code_Operands.f k a) (opN a) := Evt_mono (fun k => code_Operands.mono a k) (opN_code a)
theorem okI_of {op a c : Int} (h1 : ¬ opN op < 0) (h2 : ¬ (opN op < 2 ∧ c ≠ 0)) (h3 : ¬ (opN op < 1 ∧ a ≠ 0)) (h4 : op = 1 ∨ 0 ≤ a ∧ a ≤ 2147483647 ∧ 0 ≤ c ∧ c ≤ 2147483647) : okI ⟨op, a, c⟩ = true := by
  unfold okI
  exact decide_eq_true ⟨h1, h2, h3, h4⟩
include hb hl
theorem ins_code (p : Nat) (e t : Int) (hp : p ≤ b.length) :
    ∃ (x : S23) (p1 : Nat) (e1 t1 : Int), Evt (fun k => code_reader_ins.f k b p e t) (x.f0, x.f1, x.f2, (p1 : Int), e1, t1) ∧ Out b insB vInsR p e t x p1 e1 t1 := by
  obtain ⟨op, p1, e1, t1, h1, h2, h3⟩ := one_code hb hl p e t hp
  have hp1 := h2.pos hp
  have join : ∀ {z : Int × Int} {p2 : Nat} {e2 t2 : Int}, Out b (dI op) (uI op) p1 e1 t1 z p2 e2 t2 → Out b insB vInsR p e t ⟨op, z.1, z.2⟩ p2 e2 t2 := fun {z p2 e2 t2} g =>
    (Out.seq (d := dI) (u := uI) h2 g).map (c' := insB) (v' := vInsR) (fun z : Int × (Int × Int) => (⟨z.1, z.2.1, z.2.2⟩ : S23))
      (fun i hi => ⟨(i.f0, i.f1, i.f2), rfl, ⟨by have := opN_pos (okI_parts hi.1).1; show (0 : Int) ≤ i.f0 ∧ i.f0 < 256; omega, hi.1, hi.2⟩, rfl⟩)
      (fun h => ⟨⟨h.2.1, h.2.2⟩, rfl⟩)
  have start : ∀ (r : Int × Int × Int × Int × Int × Int), Evt (fun k => (if e1 = 0 then (if opN op < 0 then ((code_reader_fail.f b p1 e1 t1 30 p).bind fun bt392 => (some (op, 0, 0, bt392.1, bt392.2.1, bt392.2.2))) else (if op = 1 then ((code_reader_number.f k b p1 e1 t1).bind fun bt395 => ((code_zag.f bt395.1).bind fun t399 => (some (op, t399, 0, bt395.2.1, bt395.2.2.1, bt395.2.2.2)))) else (if opN op > 0 then ((code_reader_operand.f k b p1 e1 t1).bind fun bt400 => (if opN op > 1 then ((code_reader_operand.f k b bt400.2.1 bt400.2.2.1 bt400.2.2.2).bind fun bt404 => (some (op, bt400.1, bt404.1, bt404.2.1, bt404.2.2.1, bt404.2.2.2))) else (some (op, bt400.1, 0, bt400.2.1, bt400.2.2.1, bt400.2.2.2)))) else (if opN op > 1 then ((code_reader_operand.f k b p1 e1 t1).bind fun bt408 => (some (op, 0, bt408.1, bt408.2.1, bt408.2.2.1, bt408.2.2.2))) else (some (op, 0, 0, (p1 : Int), e1, t1)))))) else (some (op, 0, 0, (p1 : Int), e1, t1)))) r → Evt (fun k => code_reader_ins.f k b p e t) r := by
    intro r hr
    have hop : wrap64 op = op := by
      by_cases he : e1 = 0
      · have h0 : e = 0 := Classical.byContradiction fun h => h ((h2.stuck h).1.symm.trans he)
        have := (h2.back h0 he).1
        unfold wrap64; omega
      · rw [h3 he]; unfold wrap64; omega
    unfold code_reader_ins.f
    refine Evt.eq (fun k => by rw [h1, Option.bind_some]) (Evt.bind (a := opN op) ?_ ?_)
    · show Evt (fun k => code_Operands.f k (wrap64 op)) _
      rw [hop]
      exact opN_evt op
    · show Evt (fun k => (if e1 = 0 then (if opN op < 0 then ((code_reader_fail.f b p1 e1 t1 30 p).bind fun bt392 => (some (wrap64 op, 0, 0, bt392.1, bt392.2.1, bt392.2.2))) else (if wrap64 op = 1 then ((code_reader_number.f k b p1 e1 t1).bind fun bt395 => ((code_zag.f bt395.1).bind fun t399 => (some (wrap64 op, t399, 0, bt395.2.1, bt395.2.2.1, bt395.2.2.2)))) else (if opN op > 0 then ((code_reader_operand.f k b p1 e1 t1).bind fun bt400 => (if opN op > 1 then ((code_reader_operand.f k b bt400.2.1 bt400.2.2.1 bt400.2.2.2).bind fun bt404 => (some (wrap64 op, bt400.1, bt404.1, bt404.2.1, bt404.2.2.1, bt404.2.2.2))) else (some (wrap64 op, bt400.1, 0, bt400.2.1, bt400.2.2.1, bt400.2.2.2)))) else (if opN op > 1 then ((code_reader_operand.f k b p1 e1 t1).bind fun bt408 => (some (wrap64 op, 0, bt408.1, bt408.2.1, bt408.2.2.1, bt408.2.2.2))) else (some (wrap64 op, 0, 0, (p1 : Int), e1, t1)))))) else (some (wrap64 op, 0, 0, (p1 : Int), e1, t1)))) _
      rw [hop]
      exact hr
  by_cases he : e1 = 0
  · subst he
    have h0 : e = 0 := Classical.byContradiction fun h => h ((h2.stuck h).1.symm)
    have hop := (h2.back h0 rfl).1
    by_cases hneg : opN op < 0
    · refine ⟨⟨op, 0, 0⟩, p1, 30, p, start _ (Evt.eq (fun k => ?_) (Evt.const _)), join (z := (0, 0)) (Out.fail_ (fun _ => by decide) (fun h => absurd rfl h) (fun y hy => absurd hneg (okI_parts hy.1).1))⟩
      rw [if_pos rfl, if_pos hneg, fail_code, if_pos rfl, if_pos rfl]
      rfl
    · by_cases ho1 : op = 1
      · obtain ⟨n, p2, e2, t2, g1, g2⟩ := number_code hb hl p1 0 t1 hp1
        have hop1 : opN 1 = 1 := by decide
        have g3 : Out b (dI op) (uI op) p1 0 t1 (zagN n, 0) p2 e2 t2 :=
          g2.map (fun n => (zagN n, (0 : Int)))
            (fun z hz => ⟨zigN z.1, by
              have h5 := (okI_parts hz.1).2.1
              have h6 : z.2 = 0 := Classical.byContradiction fun h => h5 ⟨by show opN op < 2; rw [ho1, hop1]; decide, h⟩
              rw [zag_zig]; exact Prod.ext rfl h6, zigN_lt _ hz.2.1 hz.2.2, by show dI op z = _; unfold dI; rw [if_pos ho1]⟩)
            (fun hn => ⟨⟨okI_of hneg (fun h => h.2 rfl) (fun h => by rw [ho1, hop1] at h; exact absurd h.1 (by decide)) (.inl ho1), zag_ok n hn⟩, by unfold dI; rw [if_pos ho1]; show vint (zigN (zagN n)) = _; rw [zig_zag]⟩)
        by_cases hn : e2 = 0
        · rw [if_pos hn] at g1
          have hlt := (g2.back rfl hn).1
          refine ⟨⟨op, zagN n, 0⟩, p2, e2, t2, start _ (Evt.eq (g := fun k => (code_reader_number.f k b p1 0 t1).bind fun bt395 => ((code_zag.f bt395.1).bind fun t399 => (some (op, t399, 0, bt395.2.1, bt395.2.2.1, bt395.2.2.2)))) (fun k => by rw [if_pos rfl, if_neg hneg, if_pos ho1]) (Evt.bind g1 ?_)), join g3⟩
          refine Evt.eq (fun k => ?_) (Evt.const _)
          show (code_zag.f (n : Int)).bind _ = _
          rw [zag_code n hlt]
          rfl
        · rw [if_neg hn] at g1
          refine ⟨⟨op, 0, 0⟩, p2, e2, t2, start _ (Evt.eq (g := fun k => (code_reader_number.f k b p1 0 t1).bind fun bt395 => ((code_zag.f bt395.1).bind fun t399 => (some (op, t399, 0, bt395.2.1, bt395.2.2.1, bt395.2.2.2)))) (fun k => by rw [if_pos rfl, if_neg hneg, if_pos ho1]) (Evt.bind g1 ?_)), join (z := (0, 0)) (g3.cut (fun _ h => h) (fun h => ⟨rfl, rfl⟩) (fun h => absurd h hn) (fun h => absurd h hn))⟩
          refine Evt.eq (fun k => ?_) (Evt.const _)
          show (code_zag.f ((0 : Nat) : Int)).bind _ = _
          rw [zag_code 0 (by decide)]
          rfl
      · by_cases h1' : opN op > 0
        · obtain ⟨a, p2, e2, t2, g1, g2⟩ := operand_code hb hl p1 0 t1 hp1
          by_cases h2' : opN op > 1
          · have hop2 : opN op = 2 := by have := opN_vals op; omega
            obtain ⟨a2, p3, e3, t3, k1, k2⟩ := operand_code hb hl p2 e2 t2 (g2.pos hp1)
            refine ⟨⟨op, a, a2⟩, p3, e3, t3, start _ (Evt.eq (g := fun k => (code_reader_operand.f k b p1 0 t1).bind fun bt400 => ((code_reader_operand.f k b bt400.2.1 bt400.2.2.1 bt400.2.2.2).bind fun bt404 => (some (op, bt400.1, bt404.1, bt404.2.1, bt404.2.2.1, bt404.2.2.2)))) (fun k => by rw [if_pos rfl, if_neg hneg, if_neg ho1, if_pos h1']; simp only [if_pos h2']) (Evt.bind g1 (Evt.bind k1 (Evt.const _)))), join (z := (a, a2)) ?_⟩
            refine (Out.seq (d := fun _ => fun a : Int => vint a.toNat) (u := fun _ a => 0 ≤ a ∧ a ≤ 2147483647) g2 k2).eq (fun z => by unfold dI; rw [if_neg ho1, if_neg (by omega), if_pos hop2]) (fun z => ?_)
            constructor
            · intro hz
              have h5 := (okI_parts hz.1).2.2.2.resolve_left ho1
              exact ⟨⟨h5.1, h5.2.1⟩, h5.2.2.1, h5.2.2.2⟩
            · intro hz
              exact ⟨okI_of hneg (fun h => by omega) (fun h => by omega) (.inr ⟨hz.1.1, hz.1.2, hz.2.1, hz.2.2⟩), by have := hz.1; unfold i64ok; omega⟩
          · have hop1 : opN op = 1 := by have := opN_vals op; omega
            refine ⟨⟨op, a, 0⟩, p2, e2, t2, start _ (Evt.eq (g := fun k => (code_reader_operand.f k b p1 0 t1).bind fun bt400 => (some (op, bt400.1, 0, bt400.2.1, bt400.2.2.1, bt400.2.2.2))) (fun k => by rw [if_pos rfl, if_neg hneg, if_neg ho1, if_pos h1']; simp only [if_neg h2']) (Evt.bind g1 (Evt.const _))), join (z := (a, 0)) ?_⟩
            refine g2.map (fun a => (a, (0 : Int))) (fun z hz => ?_) (fun ha => ?_)
            · have h5 := (okI_parts hz.1).2.2.2.resolve_left ho1
              have h6 := (okI_parts hz.1).2.1
              have h7 : z.2 = 0 := Classical.byContradiction fun h => h6 ⟨by show opN op < 2; omega, h⟩
              exact ⟨z.1, Prod.ext rfl h7, ⟨h5.1, h5.2.1⟩, by unfold dI; rw [if_neg ho1, if_pos hop1]⟩
            · exact ⟨⟨okI_of hneg (fun h => h.2 rfl) (fun h => by omega) (.inr ⟨ha.1, ha.2, Int.le_refl 0, by show (0 : Int) ≤ _; decide⟩), by unfold i64ok; show -9223372036854775808 ≤ a ∧ a ≤ _; omega⟩, by unfold dI; rw [if_neg ho1, if_pos hop1]⟩
        · have hop0 : opN op = 0 := by have := opN_vals op; omega
          refine ⟨⟨op, 0, 0⟩, p1, 0, t1, start _ (Evt.eq (fun k => by rw [if_pos rfl, if_neg hneg, if_neg ho1, if_neg h1', if_neg (by omega)]) (Evt.const _)), join (z := (0, 0)) (Out.pure_ ?_ (fun y hy => ?_) ?_)⟩
          · exact ⟨okI_of hneg (fun h => h.2 rfl) (fun h => h.2 rfl) (.inr (by decide)), by unfold i64ok; decide⟩
          · have h6 := (okI_parts hy.1).2.1
            have h7 := (okI_parts hy.1).2.2.1
            have e1 : y.1 = 0 := Classical.byContradiction fun h => h7 ⟨by show opN op < 1; omega, h⟩
            have e2 : y.2 = 0 := Classical.byContradiction fun h => h6 ⟨by show opN op < 2; omega, h⟩
            exact Prod.ext e1 e2
          · unfold dI; rw [if_neg ho1, if_neg (by omega), if_neg (by omega)]
  · exact ⟨⟨op, 0, 0⟩, p1, e1, t1, start _ (Evt.eq (fun k => by rw [if_neg he]) (Evt.const _)), join (z := (0, 0)) (Out.none_ he)⟩
end
end Go.Proofs.Ytakpdmkfengghaa.Rd
end
section
namespace Go.Proofs.Ytakpdmkfengghaa.Rd
open Go Go.RowKit Go.Proofs.Ytakpdmkfengghaa.Q Go.Proofs.YtakpdmkfengghaaW.PrintWords Go.Proofs.YtakpdmkfengghaaW.PrintLast Go.Proofs.YtakpdmkfengghaaW.PrintMore Go.Proofs.Ytakpdmkfengghaa.Wr Go.Proofs.Ytakpdmkfengghaa.Pe
set_option linter.unusedVariables false
set_option linter.unusedSimpArgs false

section
variable {b : List Int} (hb : isB b) (hl : b.length ≤ 1099511627776)
include hb hl
theorem field_code (p : Nat) (e t : Int) (hp : p ≤ b.length) :
    ∃ (x : S44) (p1 : Nat) (e1 t1 : Int) (p2 : Nat) (e2 t2 : Int), Evt (fun k => code_reader_text.f k b p e t) (x.f0, (p1 : Int), e1, t1) ∧ code_reader_kind.f b p1 e1 t1 = some (x.f1, (p2 : Int), e2, t2) ∧ Out b cField vField p e t x p2 e2 t2 := by
  obtain ⟨s, p1, e1, t1, h1, h2⟩ := text_code hb hl p e t hp
  obtain ⟨k, p2, e2, t2, g1, g2⟩ := kind_code hb hl p1 e1 t1 (h2.pos hp)
  exact ⟨⟨s, k⟩, p1, e1, t1, p2, e2, t2, h1, g1, (Out.seq (d := fun _ => cB) (u := fun _ => vKind) h2 g2).map (c' := cField) (v' := vField) (fun z : ByteArray × Int => (⟨z.1, z.2⟩ : S44)) (fun f hf => ⟨(f.f0, f.f1), rfl, hf, rfl⟩) (fun h => ⟨h, rfl⟩)⟩
theorem fields_loop (s : ByteArray) : ∀ (n : Nat) (acc : List S44) (p : Nat) (e t : Int), acc.length + n ≤ 1000 → p ≤ b.length →
    ∃ (l : List S44) (p1 : Nat) (e1 t1 : Int), Evt (fun k => code_reader_class.l0 k n b p e t s acc) (s, acc ++ l, (p1 : Int), e1, t1) ∧ Out b (fun l : List S44 => l.flatMap cField) (lenV n vField) p e t l p1 e1 t1
  | 0, acc, p, e, t, _, hp => ⟨[], p, e, t, Evt.succ (g := fun k => code_reader_class.j1 k ((0 : Nat) : Int) false b p e t s acc) (fun k => by rw [code_reader_class.l0, if_neg (by decide)]) (Evt.succ (fun k => by rw [code_reader_class.j1, if_neg (by decide)]) ((Evt.const _).to (by rw [List.append_nil]))), Out.nil_⟩
  | n + 1, acc, p, e, t, hn, hp => by
    by_cases he : e = 0
    · obtain ⟨x, p1, e1, t1, p2, e2, t2, h1, h1', h2⟩ := field_code hb hl p e t hp
      obtain ⟨l, p3, e3, t3, g1, g2⟩ := fields_loop s n (acc ++ [x]) p2 e2 t2 (by simp; omega) (h2.pos hp)
      refine ⟨x :: l, p3, e3, t3, Evt.succ (g := fun k => code_reader_class.j1 k ((n + 1 : Nat) : Int) true b p e t s acc) (fun k => ?_) (Evt.succ (fun k => by rw [code_reader_class.j1, if_pos rfl]) (Evt.bind h1 (Evt.eq (g := fun k => code_reader_class.l0 k n b p2 e2 t2 s (acc ++ [x])) (fun k => ?_) (g1.to (by simp))))), Out.cons_ h2 g2⟩
      · rw [code_reader_class.l0, if_pos (by omega)]
        have : (e == 0) = true := by simpa using he
        rw [this]
      · have hw : wrap64 (((n + 1 : Nat) : Int) - 1) = (n : Int) := by unfold wrap64; omega
        show (code_reader_kind.f b p1 e1 t1).bind _ = _
        rw [h1', Option.bind_some, if_pos (by omega), hw]
    · refine ⟨[], p, e, t, Evt.succ (g := fun k => code_reader_class.j1 k ((n + 1 : Nat) : Int) false b p e t s acc) (fun k => ?_) (Evt.succ (fun k => by rw [code_reader_class.j1, if_neg (by decide)]) ((Evt.const _).to (by rw [List.append_nil]))), Out.none_ he⟩
      rw [code_reader_class.l0, if_pos (by omega)]
      have : (e == 0) = false := by simpa using he
      rw [this]
theorem class_read (p : Nat) (e t : Int) (hp : p ≤ b.length) :
    ∃ (x : S42) (p1 : Nat) (e1 t1 : Int), Evt (fun k => code_reader_class.f k b p e t) (x.f0, x.f1, (p1 : Int), e1, t1) ∧ Out b cClass vClass p e t x p1 e1 t1 := by
  obtain ⟨s, p1, e1, t1, h1, h2⟩ := text_code hb hl p e t hp
  obtain ⟨n, p2, e2, t2, g1, g2⟩ := count_code hb hl 15 (by decide) p1 e1 t1 (h2.pos hp)
  have hp2 := g2.pos (h2.pos hp)
  have join : ∀ {l : List S44} {p3 : Nat} {e3 t3 : Int}, Out b (fun l : List S44 => l.flatMap cField) (lenV n vField) p2 e2 t2 l p3 e3 t3 → Out b cClass vClass p e t ⟨s, l⟩ p3 e3 t3 := fun {l p3 e3 t3} k2 =>
    (Out.seq (d := fun _ => fun l : List S44 => vint l.length ++ l.flatMap cField) (u := fun _ l => l.length ≤ 15 ∧ ∀ x ∈ l, vField x) h2 (Out.counted g2 k2)).map (c' := cClass) (v' := vClass) (fun z : ByteArray × List S44 => (⟨z.1, z.2⟩ : S42)) (fun f hf => ⟨(f.f0, f.f1), rfl, hf, rfl⟩) (fun h => ⟨h, rfl⟩)
  by_cases he : e2 = 0
  · rw [if_pos he] at g1
    have h0 : e1 = 0 := Classical.byContradiction fun h => h ((g2.stuck h).1.symm.trans he)
    have hn := (g2.back h0 he).1
    obtain ⟨l, p3, e3, t3, k1, k2⟩ := fields_loop hb hl s n [] p2 e2 t2 (by simp; omega) hp2
    refine ⟨⟨s, l⟩, p3, e3, t3, ?_, join k2⟩
    unfold code_reader_class.f
    exact Evt.bind h1 (Evt.bind g1 (k1.to (by simp)))
  · rw [if_neg he] at g1
    refine ⟨⟨s, []⟩, p2, e2, t2, ?_, join (Out.none_ he)⟩
    unfold code_reader_class.f
    refine Evt.bind h1 (Evt.bind g1 (Evt.succ (g := fun k => code_reader_class.j1 k 0 false b p2 e2 t2 s []) (fun k => ?_) (Evt.succ (fun k => by rw [code_reader_class.j1, if_neg (by decide)]) (Evt.const _))))
    show code_reader_class.l0 (k + 1) 0 b p2 e2 t2 s [] = _
    rw [code_reader_class.l0, if_neg (by decide)]
theorem code_loop (s : ByteArray) (l1 : List Int) (r : Int) (l3 : List Int) : ∀ (n : Nat) (acc : List S23) (p : Nat) (e t : Int), acc.length + n ≤ 1000 → p ≤ b.length →
    ∃ (l : List S23) (p1 : Nat) (e1 t1 : Int), Evt (fun k => code_reader_function.l0 k n b p e t s l1 r l3 acc) (s, l1, r, l3, acc ++ l, (p1 : Int), e1, t1) ∧ Out b (fun l : List S23 => l.flatMap insB) (lenV n vInsR) p e t l p1 e1 t1
  | 0, acc, p, e, t, _, hp => ⟨[], p, e, t, Evt.succ (fun k => by rw [code_reader_function.l0, if_neg (by decide)]) ((Evt.const _).to (by rw [List.append_nil])), Out.nil_⟩
  | n + 1, acc, p, e, t, hn, hp => by
    by_cases he : e = 0
    · obtain ⟨x, p1, e1, t1, h1, h2⟩ := ins_code hb hl p e t hp
      obtain ⟨l, p2, e2, t2, g1, g2⟩ := code_loop s l1 r l3 n (acc ++ [x]) p1 e1 t1 (by simp; omega) (h2.pos hp)
      refine ⟨x :: l, p2, e2, t2, Evt.succ (fun k => by rw [code_reader_function.l0, if_pos (by omega), if_pos he]) (Evt.bind h1 (Evt.eq (g := fun k => code_reader_function.l0 k n b p1 e1 t1 s l1 r l3 (acc ++ [x])) (fun k => ?_) (g1.to (by simp)))), Out.cons_ h2 g2⟩
      have hw : wrap64 (((n + 1 : Nat) : Int) - 1) = (n : Int) := by unfold wrap64; omega
      rw [if_pos (by omega), hw]
    · exact ⟨[], p, e, t, Evt.succ (fun k => by rw [code_reader_function.l0, if_pos (by omega), if_neg he]) ((Evt.const _).to (by rw [List.append_nil])), Out.none_ he⟩
/-- What has a code, with numbers of 64 bits. -/
def vFuncR (f : S48) : Prop := vFunc f ∧ ∀ i ∈ f.f4, i64ok i.f1
theorem func_read (p : Nat) (e t : Int) (hp : p ≤ b.length) :
    ∃ (x : S48) (p1 : Nat) (e1 t1 : Int), Evt (fun k => code_reader_function.f k b p e t) (x.f0, x.f1, x.f2, x.f3, x.f4, (p1 : Int), e1, t1) ∧ Out b cFunc vFuncR p e t x p1 e1 t1 := by
  obtain ⟨s, p1, e1, t1, h1, h1'⟩ := text_code hb hl p e t hp
  have q1 := h1'.pos hp
  obtain ⟨l1, p2, e2, t2, h2, h2'⟩ := kinds_code hb hl 6 (by decide) p1 e1 t1 q1
  have q2 := h2'.pos q1
  obtain ⟨r, p3, e3, t3, h3, h3'⟩ := kind_code hb hl p2 e2 t2 q2
  have q3 := h3'.pos q2
  obtain ⟨l3, p4, e4, t4, h4, h4'⟩ := kinds_code hb hl 16 (by decide) p3 e3 t3 q3
  have q4 := h4'.pos q3
  obtain ⟨n, p5, e5, t5, h5, h5'⟩ := count_code hb hl 256 (by decide) p4 e4 t4 q4
  have q5 := h5'.pos q4
  have join : ∀ {l : List S23} {p6 : Nat} {e6 t6 : Int}, Out b (fun l : List S23 => l.flatMap insB) (lenV n vInsR) p5 e5 t5 l p6 e6 t6 → Out b cFunc vFuncR p e t ⟨s, l1, r, l3, l⟩ p6 e6 t6 := fun {l p6 e6 t6} k2 =>
    (Out.seq (d := fun _ (z : List Int × (Int × (List Int × List S23))) => cKinds z.1 ++ (cB z.2.1 ++ (cKinds z.2.2.1 ++ (vint z.2.2.2.length ++ z.2.2.2.flatMap insB))))
        (u := fun _ (z : List Int × (Int × (List Int × List S23))) => (z.1.length ≤ 6 ∧ ∀ x ∈ z.1, vKind x) ∧ vKind z.2.1 ∧ (z.2.2.1.length ≤ 16 ∧ ∀ x ∈ z.2.2.1, vKind x) ∧ z.2.2.2.length ≤ 256 ∧ ∀ x ∈ z.2.2.2, vInsR x) h1'
      (Out.seq (d := fun _ (z : Int × (List Int × List S23)) => cB z.1 ++ (cKinds z.2.1 ++ (vint z.2.2.length ++ z.2.2.flatMap insB))) (u := fun _ (z : Int × (List Int × List S23)) => vKind z.1 ∧ (z.2.1.length ≤ 16 ∧ ∀ x ∈ z.2.1, vKind x) ∧ z.2.2.length ≤ 256 ∧ ∀ x ∈ z.2.2, vInsR x) h2'
      (Out.seq (d := fun _ (z : List Int × List S23) => cKinds z.1 ++ (vint z.2.length ++ z.2.flatMap insB)) (u := fun _ (z : List Int × List S23) => (z.1.length ≤ 16 ∧ ∀ x ∈ z.1, vKind x) ∧ z.2.length ≤ 256 ∧ ∀ x ∈ z.2, vInsR x) h3'
      (Out.seq (d := fun _ (z : List S23) => vint z.length ++ z.flatMap insB) (u := fun _ (z : List S23) => z.length ≤ 256 ∧ ∀ x ∈ z, vInsR x) h4' (Out.counted h5' k2))))).map
      (c' := cFunc) (v' := vFuncR) (fun z : ByteArray × (List Int × (Int × (List Int × List S23))) => (⟨z.1, z.2.1, z.2.2.1, z.2.2.2.1, z.2.2.2.2⟩ : S48))
      (fun f hf => ⟨(f.f0, f.f1, f.f2, f.f3, f.f4), rfl, ⟨hf.1.1, hf.1.2.1, hf.1.2.2.1, hf.1.2.2.2.1, hf.1.2.2.2.2.1, fun i hi => ⟨hf.1.2.2.2.2.2 i hi, hf.2 i hi⟩⟩, rfl⟩)
      (fun h => ⟨⟨⟨h.1, h.2.1, h.2.2.1, h.2.2.2.1, h.2.2.2.2.1, fun i hi => (h.2.2.2.2.2 i hi).1⟩, fun i hi => (h.2.2.2.2.2 i hi).2⟩, rfl⟩)
  have start : ∀ (m : Int) (rr : _), Evt (fun k => code_reader_count.f k b p4 e4 t4 256) (m, (p5 : Int), e5, t5) → Evt (fun k => code_reader_function.l0 k m b p5 e5 t5 s l1 r l3 []) rr → Evt (fun k => code_reader_function.f k b p e t) rr := by
    intro m rr hm hk
    unfold code_reader_function.f
    refine Evt.bind h1 (Evt.bind h2 ?_)
    exact Evt.eq (g := fun k => (code_reader_kinds.f k b p3 e3 t3 16).bind fun bt449 => (code_reader_count.f k b bt449.2.1 bt449.2.2.1 bt449.2.2.2 256).bind fun bt455 => code_reader_function.l0 k bt455.1 b bt455.2.1 bt455.2.2.1 bt455.2.2.2 s l1 r bt449.1 []) (fun k => by rw [h3, Option.bind_some]) (Evt.bind h4 (Evt.bind hm hk))
  by_cases he : e5 = 0
  · rw [if_pos he] at h5
    have h0 : e4 = 0 := Classical.byContradiction fun h => h ((h5'.stuck h).1.symm.trans he)
    have hn := (h5'.back h0 he).1
    obtain ⟨l, p6, e6, t6, k1, k2⟩ := code_loop hb hl s l1 r l3 n [] p5 e5 t5 (by simp; omega) q5
    exact ⟨⟨s, l1, r, l3, l⟩, p6, e6, t6, start _ _ h5 (k1.to (by simp)), join k2⟩
  · rw [if_neg he] at h5
    exact ⟨⟨s, l1, r, l3, []⟩, p5, e5, t5, start _ _ h5 (Evt.succ (fun k => by rw [code_reader_function.l0, if_neg (by decide)]) (Evt.const _)), join (Out.none_ he)⟩

/-! ### What stands in front -/
def mg : List Int := [87, 68, 82, 49]
theorem magic_loop : ∀ (d i p : Nat) (e t : Int), i + d = 4 → p ≤ b.length →
    ∃ (p1 : Nat) (e1 t1 : Int), Evt (fun k => code_reader_magic.l0 k i b p e t) ((p1 : Int), e1, t1) ∧ Out b (fun _ : Unit => mg.drop i) (fun _ => True) p e t () p1 e1 t1
  | 0, i, p, e, t, h, hp => by
    have h4 : i = 4 := by omega
    subst h4
    exact ⟨p, e, t, Evt.succ (fun k => by rw [code_reader_magic.l0, if_neg (by decide)]) (Evt.const _), Out.pure_ trivial (fun _ _ => rfl) rfl⟩
  | d + 1, i, p, e, t, h, hp => by
    obtain ⟨x, p1, e1, t1, h1, h2, h3⟩ := one_code hb hl p e t hp
    have hw : wrap64 ((i : Int) + 1) = ((i + 1 : Nat) : Int) := by unfold wrap64; omega
    have hm : mg.drop i = mg.getD i 0 :: mg.drop (i + 1) := by
      have : i = 0 ∨ i = 1 ∨ i = 2 ∨ i = 3 := by omega
      rcases this with rfl | rfl | rfl | rfl <;> rfl
    have hbt : bt (⟨#[87, 68, 82, 49]⟩ : ByteArray) (i : Int) = mg.getD i 0 := by
      have : i = 0 ∨ i = 1 ∨ i = 2 ∨ i = 3 := by omega
      rcases this with rfl | rfl | rfl | rfl <;> rfl
    have hv : vB (mg.getD i 0) := by
      have : i = 0 ∨ i = 1 ∨ i = 2 ∨ i = 3 := by omega
      rcases this with rfl | rfl | rfl | rfl <;> decide
    -- the byte, and whether it is the right one
    have key : ∃ (e2 t2 : Int), (∀ k, code_reader_magic.l0 (k + 1) i b p e t = code_reader_magic.l0 k ((i + 1 : Nat) : Int) b p1 e2 t2) ∧ Out b cB (fun y => y = mg.getD i 0) p e t (mg.getD i 0) p1 e2 t2 := by
      by_cases he : e1 = 0
      · subst he
        by_cases hx : x = mg.getD i 0
        · refine ⟨0, t1, fun k => ?_, h2.cut (x' := mg.getD i 0) (fun y hy => hy ▸ hv) (fun h => absurd rfl h) (fun _ _ => ⟨hx.symm, rfl, rfl⟩) (fun _ h => absurd hx h)⟩
          rw [code_reader_magic.l0, if_pos (by omega), h1, Option.bind_some, if_pos rfl, if_pos (by omega), if_pos (hx.trans hbt.symm), hw]
        · refine ⟨12, i, fun k => ?_, h2.cut (x' := mg.getD i 0) (fun y hy => hy ▸ hv) (fun h => absurd rfl h) (fun _ h => absurd h hx) (fun _ _ => by decide)⟩
          rw [code_reader_magic.l0, if_pos (by omega), h1, Option.bind_some, if_pos rfl, if_pos (by omega), if_neg (fun h => hx (h.trans hbt)), fail_code, if_pos rfl, if_pos rfl, hw]
          rfl
      · refine ⟨e1, t1, fun k => ?_, h2.cut (x' := mg.getD i 0) (fun y hy => hy ▸ hv) (fun h => ⟨rfl, rfl⟩) (fun h => absurd h he) (fun h => absurd h he)⟩
        rw [code_reader_magic.l0, if_pos (by omega), h1, Option.bind_some, if_neg he, hw]
    obtain ⟨e2, t2, k1, k2⟩ := key
    obtain ⟨p3, e3, t3, g1, g2⟩ := magic_loop d (i + 1) p1 e2 t2 (by omega) (h2.pos hp)
    refine ⟨p3, e3, t3, Evt.succ k1 g1, (Out.seq (d := fun _ _ => mg.drop (i + 1)) (u := fun _ _ => True) k2 g2).map (fun _ => ()) (fun z _ => ⟨(mg.getD i 0, ()), rfl, ⟨rfl, trivial⟩, by rw [hm]; rfl⟩) (fun _ => ⟨trivial, by rw [hm]; rfl⟩)⟩
end
end Go.Proofs.Ytakpdmkfengghaa.Rd
end
section
namespace Go.Proofs.Ytakpdmkfengghaa.Rd
open Go Go.RowKit Go.Proofs.Ytakpdmkfengghaa.Q Go.Proofs.YtakpdmkfengghaaW.PrintWords Go.Proofs.YtakpdmkfengghaaW.PrintLast Go.Proofs.YtakpdmkfengghaaW.PrintMore Go.Proofs.Ytakpdmkfengghaa.Wr Go.Proofs.Ytakpdmkfengghaa.Pe
set_option linter.unusedVariables false
set_option linter.unusedSimpArgs false

abbrev Ans := List S42 × List S48 × Int × Int
/-- What is answered at the end. -/
def fin (b : List Int) (p : Nat) (e t : Int) (cs : List S42) (fs : List S48) : Ans := if e = 0 then (if p < b.length then ([], [], (p : Int), 11) else (cs, fs, 0, 0)) else ([], [], t, e)
section
variable {b : List Int} (hb : isB b) (hl : b.length ≤ 1099511627776)
include hb hl
theorem classes_loop (x0 : List Int) : ∀ (n : Nat) (acc : List S42) (p : Nat) (e t : Int), acc.length + n ≤ 1000 → p ≤ b.length →
    ∃ (l : List S42) (p1 : Nat) (e1 t1 : Int), (∀ R, Evt (fun k => code_Decode.j1 k x0 b p1 e1 t1 (acc ++ l)) R → Evt (fun k => code_Decode.l0 k x0 n b p e t acc) R) ∧ Out b (fun l : List S42 => l.flatMap cClass) (lenV n vClass) p e t l p1 e1 t1
  | 0, acc, p, e, t, _, hp => ⟨[], p, e, t, fun R hR => Evt.succ (g := fun k => code_Decode.j1 k x0 b p e t acc) (fun k => by rw [code_Decode.l0, if_neg (by decide)]) (by rw [List.append_nil] at hR; exact hR), Out.nil_⟩
  | n + 1, acc, p, e, t, hn, hp => by
    by_cases he : e = 0
    · obtain ⟨x, p1, e1, t1, h1, h2⟩ := class_read hb hl p e t hp
      obtain ⟨l, p2, e2, t2, g1, g2⟩ := classes_loop x0 n (acc ++ [x]) p1 e1 t1 (by simp; omega) (h2.pos hp)
      refine ⟨x :: l, p2, e2, t2, fun R hR => Evt.succ (fun k => by rw [code_Decode.l0, if_pos (by omega), if_pos he]) (Evt.bind h1 (Evt.eq (g := fun k => code_Decode.l0 k x0 n b p1 e1 t1 (acc ++ [x])) (fun k => ?_) (g1 R (by rw [List.append_assoc]; exact hR)))), Out.cons_ h2 g2⟩
      have hw : wrap64 (((n + 1 : Nat) : Int) - 1) = (n : Int) := by unfold wrap64; omega
      rw [if_pos (by omega), hw]
    · exact ⟨[], p, e, t, fun R hR => Evt.succ (g := fun k => code_Decode.j1 k x0 b p e t acc) (fun k => by rw [code_Decode.l0, if_pos (by omega), if_neg he]) (by rw [List.append_nil] at hR; exact hR), Out.none_ he⟩
theorem funcs_loop (x0 : List Int) (cs : List S42) : ∀ (n : Nat) (acc : List S48) (p : Nat) (e t : Int), acc.length + n ≤ 1000 → p ≤ b.length →
    ∃ (l : List S48) (p1 : Nat) (e1 t1 : Int), (∀ R, Evt (fun k => code_Decode.j3 k x0 b p1 e1 t1 cs (acc ++ l)) R → Evt (fun k => code_Decode.l1 k x0 n b p e t cs acc) R) ∧ Out b (fun l : List S48 => l.flatMap cFunc) (lenV n vFuncR) p e t l p1 e1 t1
  | 0, acc, p, e, t, _, hp => ⟨[], p, e, t, fun R hR => Evt.succ (g := fun k => code_Decode.j3 k x0 b p e t cs acc) (fun k => by rw [code_Decode.l1, if_neg (by decide)]) (by rw [List.append_nil] at hR; exact hR), Out.nil_⟩
  | n + 1, acc, p, e, t, hn, hp => by
    by_cases he : e = 0
    · obtain ⟨x, p1, e1, t1, h1, h2⟩ := func_read hb hl p e t hp
      obtain ⟨l, p2, e2, t2, g1, g2⟩ := funcs_loop x0 cs n (acc ++ [x]) p1 e1 t1 (by simp; omega) (h2.pos hp)
      refine ⟨x :: l, p2, e2, t2, fun R hR => Evt.succ (fun k => by rw [code_Decode.l1, if_pos (by omega), if_pos he]) (Evt.bind h1 (Evt.eq (g := fun k => code_Decode.l1 k x0 n b p1 e1 t1 cs (acc ++ [x])) (fun k => ?_) (g1 R (by rw [List.append_assoc]; exact hR)))), Out.cons_ h2 g2⟩
      have hw : wrap64 (((n + 1 : Nat) : Int) - 1) = (n : Int) := by unfold wrap64; omega
      rw [if_pos (by omega), hw]
    · exact ⟨[], p, e, t, fun R hR => Evt.succ (g := fun k => code_Decode.j3 k x0 b p e t cs acc) (fun k => by rw [code_Decode.l1, if_pos (by omega), if_neg he]) (by rw [List.append_nil] at hR; exact hR), Out.none_ he⟩
omit hb hl in
theorem end_code (p : Nat) (e t : Int) (cs : List S42) (fs : List S48) : Evt (fun k => code_Decode.j3 k b b p e t cs fs) (fin b p e t cs fs) := by
  unfold fin
  by_cases he : e = 0
  · subst he
    rw [if_pos rfl]
    by_cases h : p < b.length
    · rw [if_pos h]
      refine Evt.succ (g := fun k => code_Decode.j4 k true b p 0 t cs fs) (fun k => ?_) (Evt.succ (fun k => ?_) (Evt.const _))
      · have : decide ((p : Int) < (b.length : Int)) = true := by simp; omega
        rw [code_Decode.j3, if_pos rfl, this]
      · rw [code_Decode.j4, if_pos rfl, fail_code, if_pos rfl, if_pos rfl]
        rw [Option.bind_some, if_neg (show ¬ ((11 : Int) = 0) by decide)]
    · rw [if_neg h]
      refine Evt.succ (g := fun k => code_Decode.j4 k false b p 0 t cs fs) (fun k => ?_) (Evt.succ (fun k => ?_) (Evt.const _))
      · have : decide ((p : Int) < (b.length : Int)) = false := by simp; omega
        rw [code_Decode.j3, if_pos rfl, this]
      · rw [code_Decode.j4, if_neg (by decide), if_pos rfl]
  · rw [if_neg he]
    refine Evt.succ (g := fun k => code_Decode.j4 k false b p e t cs fs) (fun k => by rw [code_Decode.j3, if_neg he]) (Evt.succ (fun k => ?_) (Evt.const _))
    rw [code_Decode.j4, if_neg (by decide), if_neg he]
/-- Programs that have bytes, with numbers of 64 bits. -/
def vP (z : List S42 × List S48) : Prop := vProg z.1 z.2 ∧ ∀ f ∈ z.2, ∀ i ∈ f.f4, i64ok i.f1
abbrev cP : List S42 × List S48 → List Int := fun z => mg ++ cProg z.1 z.2
theorem decode_read (hs : b.length ≤ 65536) :
    ∃ (cs : List S42) (fs : List S48) (p : Nat) (e t : Int), Evt (fun k => code_Decode.f k b) (fin b p e t cs fs) ∧ Out b cP vP 0 0 0 (cs, fs) p e t := by
  obtain ⟨p1, e1, t1, h1, h1'⟩ := magic_loop hb hl 4 0 0 0 0 rfl (Nat.zero_le _)
  have q1 := h1'.pos (Nat.zero_le _)
  obtain ⟨n, p2, e2, t2, h2, h2'⟩ := count_code hb hl 16 (by decide) p1 e1 t1 q1
  have q2 := h2'.pos q1
  have r1 : ∃ (cs : List S42) (p3 : Nat) (e3 t3 : Int), (∀ R, Evt (fun k => code_Decode.j1 k b b p3 e3 t3 cs) R → Evt (fun k => code_Decode.f k b) R) ∧ Out b (fun l : List S42 => vint l.length ++ l.flatMap cClass) (fun l => l.length ≤ 16 ∧ ∀ x ∈ l, vClass x) p1 e1 t1 cs p3 e3 t3 ∧ p3 ≤ b.length := by
    have start : ∀ m : Int, Evt (fun k => code_reader_count.f k b p1 e1 t1 16) (m, (p2 : Int), e2, t2) → ∀ R, Evt (fun k => code_Decode.l0 k b m b p2 e2 t2 []) R → Evt (fun k => code_Decode.f k b) R := by
      intro m hm R hR
      unfold code_Decode.f
      refine Evt.eq (g := fun k => (code_reader_magic.f k b 0 0 0).bind fun bt470 => (code_reader_count.f k b bt470.1 bt470.2.1 bt470.2.2 16).bind fun bt474 => code_Decode.l0 k b bt474.1 b bt474.2.1 bt474.2.2.1 bt474.2.2.2 []) (fun k => by rw [if_neg (by omega)]) (Evt.bind (a := ((p1 : Int), e1, t1)) ?_ (Evt.bind hm hR))
      exact h1
    by_cases he : e2 = 0
    · rw [if_pos he] at h2
      have h0 : e1 = 0 := Classical.byContradiction fun h => h ((h2'.stuck h).1.symm.trans he)
      have hn := (h2'.back h0 he).1
      obtain ⟨cs, p3, e3, t3, k1, k2⟩ := classes_loop hb hl b n [] p2 e2 t2 (by simp; omega) q2
      exact ⟨cs, p3, e3, t3, fun R hR => start _ h2 R (k1 R (by simpa using hR)), Out.counted h2' k2, k2.pos q2⟩
    · rw [if_neg he] at h2
      exact ⟨[], p2, e2, t2, fun R hR => start _ h2 R (Evt.succ (g := fun k => code_Decode.j1 k b b p2 e2 t2 []) (fun k => by rw [code_Decode.l0, if_neg (by decide)]) hR), Out.counted h2' (Out.none_ he), q2⟩
  obtain ⟨cs, p3, e3, t3, k1, k2, q3⟩ := r1
  obtain ⟨m, p4, e4, t4, h4, h4'⟩ := count_code hb hl 16 (by decide) p3 e3 t3 q3
  have q4 := h4'.pos q3
  have r2 : ∃ (fs : List S48) (p5 : Nat) (e5 t5 : Int), (∀ R, Evt (fun k => code_Decode.j3 k b b p5 e5 t5 cs fs) R → Evt (fun k => code_Decode.j1 k b b p3 e3 t3 cs) R) ∧ Out b (fun l : List S48 => vint l.length ++ l.flatMap cFunc) (fun l => l.length ≤ 16 ∧ ∀ x ∈ l, vFuncR x) p3 e3 t3 fs p5 e5 t5 := by
    have start : ∀ m : Int, Evt (fun k => code_reader_count.f k b p3 e3 t3 16) (m, (p4 : Int), e4, t4) → ∀ R, Evt (fun k => code_Decode.l1 k b m b p4 e4 t4 cs []) R → Evt (fun k => code_Decode.j1 k b b p3 e3 t3 cs) R := by
      intro m hm R hR
      exact Evt.succ (fun k => by rw [code_Decode.j1]) (Evt.bind hm hR)
    by_cases he : e4 = 0
    · rw [if_pos he] at h4
      have h0 : e3 = 0 := Classical.byContradiction fun h => h ((h4'.stuck h).1.symm.trans he)
      have hn := (h4'.back h0 he).1
      obtain ⟨fs, p5, e5, t5, g1, g2⟩ := funcs_loop hb hl b cs m [] p4 e4 t4 (by simp; omega) q4
      exact ⟨fs, p5, e5, t5, fun R hR => start _ h4 R (g1 R (by simpa using hR)), Out.counted h4' g2⟩
    · rw [if_neg he] at h4
      exact ⟨[], p4, e4, t4, fun R hR => start _ h4 R (Evt.succ (g := fun k => code_Decode.j3 k b b p4 e4 t4 cs []) (fun k => by rw [code_Decode.l1, if_neg (by decide)]) hR), Out.counted h4' (Out.none_ he)⟩
  obtain ⟨fs, p5, e5, t5, g1, g2⟩ := r2
  refine ⟨cs, fs, p5, e5, t5, k1 _ (g1 _ (end_code p5 e5 t5 cs fs)), ?_⟩
  exact (Out.seq (d := fun _ (z : List S42 × List S48) => (vint z.1.length ++ z.1.flatMap cClass) ++ (vint z.2.length ++ z.2.flatMap cFunc)) (u := fun _ (z : List S42 × List S48) => (z.1.length ≤ 16 ∧ ∀ x ∈ z.1, vClass x) ∧ z.2.length ≤ 16 ∧ ∀ x ∈ z.2, vFuncR x) h1'
    (Out.seq (d := fun _ (l : List S48) => vint l.length ++ l.flatMap cFunc) (u := fun _ (l : List S48) => l.length ≤ 16 ∧ ∀ x ∈ l, vFuncR x) k2 g2)).map (c' := cP) (v' := vP) (fun z => z.2)
    (fun z hz => ⟨((), z), rfl, ⟨trivial, ⟨hz.1.1, hz.1.2.1⟩, hz.1.2.2.1, fun f hf => ⟨hz.1.2.2.2 f hf, hz.2 f hf⟩⟩, by simp [cP, cProg, mg]⟩)
    (fun h => ⟨⟨⟨h.2.1.1, h.2.1.2, h.2.2.1, fun f hf => (h.2.2.2 f hf).1⟩, fun f hf => (h.2.2.2 f hf).2⟩, by simp [cP, cProg, mg]⟩)
end
/-! ### The four laws -/
theorem isB_cP {z : List S42 × List S48} (h : vP z) : isB (cP z) := isB_prog h.1
/-- What has bytes comes back from them. -/
theorem decode_back {z : List S42 × List S48} (h : vP z) (hs : (cP z).length ≤ 65536) : Evt (fun k => code_Decode.f k (cP z)) (z.1, z.2, 0, 0) := by
  obtain ⟨cs, fs, p, e, t, h1, h2⟩ := decode_read (isB_cP h) (by omega) hs
  obtain ⟨a1, a2, a3, a4⟩ := h2.good rfl z [] h (by simp)
  subst a1
  rw [a3] at h1
  unfold fin at h1
  rw [if_pos rfl, if_neg (by omega)] at h1
  exact h1
/-- With a byte more they are none. -/
theorem decode_more {z : List S42 × List S48} (h : vP z) (m : Int) (hm : 0 ≤ m ∧ m < 256) (hs : (cP z).length < 65536) : Evt (fun k => code_Decode.f k (cP z ++ [m])) ([], [], ((cP z).length : Int), 11) := by
  have hB : isB (cP z ++ [m]) := isB_app (isB_cP h) (by intro x hx; simp at hx; omega)
  have hL : (cP z ++ [m]).length = (cP z).length + 1 := by rw [List.length_append]; rfl
  obtain ⟨cs, fs, p, e, t, h1, h2⟩ := decode_read hB (by omega) (by omega)
  obtain ⟨a1, a2, a3, a4⟩ := h2.good rfl z [m] h (by simp)
  rw [a3] at h1
  unfold fin at h1
  rw [if_pos rfl, if_pos (by omega), show p = (cP z).length by omega] at h1
  exact h1
/-- Without the last one, too. -/
theorem decode_less {z : List S42 × List S48} (h : vP z) (hs : (cP z).length ≤ 65536) : Evt (fun k => code_Decode.f k ((cP z).take ((cP z).length - 1))) ([], [], (((cP z).length - 1 : Nat) : Int), 10) := by
  have hB : isB ((cP z).take ((cP z).length - 1)) := fun x hx => isB_cP h x (List.mem_of_mem_take hx)
  have hne : 4 ≤ (cP z).length := by show 4 ≤ (mg ++ _).length; rw [List.length_append]; show 4 ≤ 4 + _; omega
  have hL : ((cP z).take ((cP z).length - 1)).length = (cP z).length - 1 := by rw [List.length_take]; omega
  obtain ⟨cs, fs, p, e, t, h1, h2⟩ := decode_read hB (by omega) (by omega)
  obtain ⟨a1, a2⟩ := h2.short rfl z ((cP z).drop ((cP z).length - 1)) h (fun hn => by have := congrArg List.length hn; rw [List.length_drop, List.length_nil] at this; omega) (by rw [List.drop_zero]; exact (List.take_append_drop _ _).symm)
  subst a1
  unfold fin at h1
  rw [if_neg (by decide), a2, hL] at h1
  exact h1
/-- What is read has just these bytes. -/
theorem decode_just {b : List Int} (hb : isB b) (hs : b.length ≤ 65536) : ∃ r : Ans, Evt (fun k => code_Decode.f k b) r ∧ (r.2.2.2 = 0 → vP (r.1, r.2.1) ∧ b = cP (r.1, r.2.1)) ∧ (r.2.2.2 ≠ 0 → r.1 = [] ∧ r.2.1 = []) := by
  obtain ⟨cs, fs, p, e, t, h1, h2⟩ := decode_read hb (by omega) hs
  refine ⟨_, h1, fun h0 => ?_, fun h0 => ?_⟩
  · unfold fin at h0 ⊢
    by_cases he : e = 0
    · rw [if_pos he] at h0 ⊢
      by_cases hp : p < b.length
      · rw [if_pos hp] at h0; exact absurd h0 (by show ¬ ((11 : Int) = 0); decide)
      · rw [if_neg hp]
        obtain ⟨a1, a2, a3⟩ := h2.back rfl he
        refine ⟨a1, ?_⟩
        rw [List.drop_zero, List.drop_of_length_le (by omega), List.append_nil] at a2
        exact a2
    · rw [if_neg he] at h0; exact absurd h0 he
  · unfold fin at h0 ⊢
    by_cases he : e = 0
    · rw [if_pos he] at h0 ⊢
      by_cases hp : p < b.length
      · rw [if_pos hp]; exact ⟨rfl, rfl⟩
      · rw [if_neg hp] at h0; exact absurd rfl h0
    · rw [if_neg he]; exact ⟨rfl, rfl⟩
end Go.Proofs.Ytakpdmkfengghaa.Rd
end
