/- Are two programs equal: the statement's walk. Conditions: the bytes stay below 2^40. -/
import Derived.Test.YtakpdmkfengghaaProg
import Derived.Test.YtakpdmkfengghaaSep
import Derived.Test.YtakpdmkfengghaaWr7
import Derived.Test.YtakpdmkfengghaaPinj
import Derived.Test.YtakpdmkfengghaaPe3
import Derived.Test.YtakpdmkfengghaaF14
import Derived.Test.YtakpdmkfengghaaWp1
import Derived.StillTailTactics
import Derived.Below
import Derived.Deep.Draws
import Derived.Deep.AppendLies
import Derived.Maps.AppendAt
import Derived.OwnWalk
import Derived.Laws.BytesArg
import Derived.Laws.MakeOwn
import Derived.Laws.OwnMore
import Derived.Deep.OwnRows
import Derived.Tactics
import Derived.Lib.ConvBytes
import Derived.Laws.Slices
import Derived.WalkKit
import Derived.KernelRfl
import Derived.RowKit3
import Derived.Deep.LoopGhost
import Derived.Deep.QuietTactic
import Derived.BigQuiet
import Derived.WideLaws
import Derived.Deep.DeepCutAuto
import Derived.Deep.CutBlock
import Derived.Deep.RegionHeld3
import Derived.Laws.Rows
import Derived.Lib.AppendStr
import Derived.ArgAppend
import Derived.Laws.IdiomCopy
import Derived.OrdersHeld
import Derived.Laws.BitsLemmas
import Derived.RowKit
import Derived.Lib.SlBytesConst
namespace Go.Proofs.Ytakpdmkfengghaa.Wr
open Go Go.RowKit Go.Proofs.Ytakpdmkfengghaa.Sep Go.Proofs.YtakpdmkfengghaaW.PrintWords Go.Proofs.YtakpdmkfengghaaW.PrintLast Go.Proofs.YtakpdmkfengghaaW.PrintMore Go.Proofs.Ytakpdmkfengghaa.Q Go.Proofs.Ytakpdmkfengghaa.Pe
set_option linter.unusedVariables false
set_option linter.unusedSimpArgs false

/-- What a row of bytes reads as. -/
theorem row_reads {w0 w : World} {F : List HP} {A : Option Addr} {n c : Nat} {l : List Int} (h : St w0 w (row 5 1 (.slice A n c) n (u8s l) :: F)) : l.length = n ∧ Kd.C (Kd.int .u8) w A l.length l := by
  have ho := h.owns
  have hl : l.length = n := by have := ho.len; simpa [u8s] using this
  refine ⟨hl, rfl, ?_, fun h0 => ?_⟩
  · obtain ⟨A1, c1, he, h1, h2⟩ := ho.slice
    simp only [maxLen] at h2
    omega
  · obtain ⟨g, c1, he, hc, hcell⟩ := h.row_some (by omega)
    injection he with hA
    subst hA
    refine ⟨_, rfl, fun j p hj => ⟨[.int .u8 p], rfl, rfl, fun i u hi => ?_⟩⟩
    match i, hi with
    | 0, hi =>
      simp only [List.getElem?_cons_zero, Option.some.injEq] at hi
      subst hi
      have ha : (⟨g, 0, none⟩ : Addr).add j = ⟨g, j, none⟩ := by unfold Addr.add; split <;> simp_all
      show w.cell? ((⟨g, 0, none⟩ : Addr).add (j * 1 + 0)) = _
      rw [Nat.mul_one, Nat.add_zero, ha]
      exact hcell j _ (by simp [u8s, hj])
theorem row_cap {w0 w : World} {F : List HP} {A : Option Addr} {n c : Nat} {l : List Int} (h : St w0 w (row 5 1 (.slice A n c) n (u8s l) :: F)) : n ≤ c := by
  obtain ⟨A1, c1, he, h1, h2⟩ := h.owns.slice
  injection he with _ _ hc
  omega
theorem two_ {w w' : World} {F : List HP} {g0 g1 : Nat} {a b c d : Value} {t : TypeId} (h : St w w' (blk g1 #[c, d] t :: blk g0 #[a, b] t :: F)) :
    w'.cell? ⟨g0, 0, none⟩ = some a ∧ w'.cell? ⟨g0, 1, none⟩ = some b ∧ w'.cell? ⟨g1, 0, none⟩ = some c ∧ w'.cell? ⟨g1, 1, none⟩ = some d :=
  ⟨(h.perm (.swap _ _ _)).cell 0, (h.perm (.swap _ _ _)).cell 1, h.cell 0, h.cell 1⟩
theorem lC_of {w : World} {A : Option Addr} {n : Nat} {l : List S42} (h : Kd.C k42 w A n l) : lC l := by
  intro x hx
  obtain ⟨j, hj⟩ := List.getElem?_of_mem hx
  have h0 : 0 < n := by have := (List.getElem?_eq_some_iff.1 hj).1; have := h.1; omega
  obtain ⟨ad, _, hc⟩ := h.2.2 h0
  obtain ⟨c, _, hK, _⟩ := hc j x hj
  obtain ⟨A1, c1, _, _, g1⟩ := k42_open hK
  exact Kd.C_max g1
theorem lF_of {w : World} {A : Option Addr} {n : Nat} {l : List S48} (h : Kd.C k48 w A n l) : lF l := by
  intro x hx
  obtain ⟨j, hj⟩ := List.getElem?_of_mem hx
  have h0 : 0 < n := by have := (List.getElem?_eq_some_iff.1 hj).1; have := h.1; omega
  obtain ⟨ad, _, hc⟩ := h.2.2 h0
  obtain ⟨c, _, hK, _⟩ := hc j x hj
  obtain ⟨A1, c1, A3, c3, A4, c4, _, _, g1, _, g3, _, g4⟩ := k48_open hK
  exact ⟨Kd.C_max g1, Kd.C_max g3, Kd.C_max g4⟩
theorem Evt_at {α : Type} {g : Nat → Option α} {r : α} (h : Evt g r) : ∃ k, g k = some r := let ⟨k, hk⟩ := h; ⟨k, hk k (Nat.le_refl _)⟩

/-- A program that came in. -/
structure In (w : World) (A1 : Option Addr) (c1 : Nat) (A2 : Option Addr) (c2 : Nat) (cs : List S42) (fs : List S48) : Prop where
  r1 : Kd.C k42 w A1 cs.length cs
  l1 : cs.length ≤ c1
  r2 : Kd.C k48 w A2 fs.length fs
  l2 : fs.length ≤ c2
  wf : wfP cs fs
theorem In.below {w w' : World} {A1 : Option Addr} {c1 : Nat} {A2 : Option Addr} {c2 : Nat} {cs : List S42} {fs : List S48} (h : In w A1 c1 A2 c2 cs fs) (hb : Below w.heap.size w w') : In w' A1 c1 A2 c2 cs fs := ⟨Kd.C_below h.r1 hb, h.l1, Kd.C_below h.r2 hb, h.l2, h.wf⟩
theorem In.light {w : World} {A1 : Option Addr} {c1 : Nat} {A2 : Option Addr} {c2 : Nat} {cs : List S42} {fs : List S48} (h : In w A1 c1 A2 c2 cs fs) :
    Calls Try.prog 11 #[.agg #[.slice A1 cs.length c1, .slice A2 fs.length c2]] w fun e w' => e = .returned (.bool (lightP cs fs)) ∧ Below w.heap.size w w' := by
  obtain ⟨k, hk⟩ := Evt_at (light_code cs fs)
  exact windrowlaw13_light.calls k A1 c1 cs A2 c2 fs _ w h.r1 h.l1 h.r2 h.l2 hk
theorem In.same {w : World} {A1 : Option Addr} {c1 : Nat} {A2 : Option Addr} {c2 : Nat} {cs : List S42} {fs : List S48} (h : In w A1 c1 A2 c2 cs fs) {B1 : Option Addr} {d1 : Nat} {B2 : Option Addr} {d2 : Nat} {cs' : List S42} {fs' : List S48} (h' : In w B1 d1 B2 d2 cs' fs') :
    Calls Try.prog 16 #[.agg #[.slice A1 cs.length c1, .slice A2 fs.length c2], .agg #[.slice B1 cs'.length d1, .slice B2 fs'.length d2]] w fun e w' => e = .returned (.bool (decide (cs = cs' ∧ fs = fs'))) ∧ Below w.heap.size w w' := by
  obtain ⟨k, hk⟩ := Evt_at (same_ref cs cs' fs fs' (Kd.C_max h.r1) (Kd.C_max h.r2) (lC_of h.r1) (lF_of h.r2))
  exact windrowref13_Same.calls k A1 c1 cs A2 c2 fs B1 d1 cs' B2 d2 fs' _ w h.r1 h.l1 h.r2 h.l2 h'.r1 h'.l1 h'.r2 h'.l2 hk
theorem In.equal {w : World} {A1 : Option Addr} {c1 : Nat} {A2 : Option Addr} {c2 : Nat} {cs : List S42} {fs : List S48} (h : In w A1 c1 A2 c2 cs fs) {B1 : Option Addr} {d1 : Nat} {B2 : Option Addr} {d2 : Nat} {cs' : List S42} {fs' : List S48} (h' : In w B1 d1 B2 d2 cs' fs') :
    Calls Try.prog 18 #[.agg #[.slice A1 cs.length c1, .slice A2 fs.length c2], .agg #[.slice B1 cs'.length d1, .slice B2 fs'.length d2]] w fun e w' => e = .returned (.bool (decide (cs = cs' ∧ fs = fs'))) ∧ Below w.heap.size w w' := by
  obtain ⟨k, hk⟩ := Evt_at (equal_code cs cs' fs fs' (Kd.C_max h.r1) (Kd.C_max h.r2) (lC_of h.r1) (lF_of h.r2))
  exact code_Equal.calls k A1 c1 cs A2 c2 fs B1 d1 cs' B2 d2 fs' _ w h.r1 h.l1 h.r2 h.l2 h'.r1 h'.l1 h'.r2 h'.l2 hk
theorem In.encode {w : World} {A1 : Option Addr} {c1 : Nat} {A2 : Option Addr} {c2 : Nat} {cs : List S42} {fs : List S48} (h : In w A1 c1 A2 c2 cs fs) :
    Calls Try.prog 12 #[.agg #[.slice A1 cs.length c1, .slice A2 fs.length c2]] w fun en w' => ∃ B d, en = .returned (.tuple #[.slice B (encN cs fs).1.length d, .int .i64 (encN cs fs).2]) ∧ St w w' [row 5 1 (.slice B (encN cs fs).1.length d) (encN cs fs).1.length (u8s (encN cs fs).1)] :=
  (Wr.encode A1 c1 A2 c2 cs fs h.wf w h.r1 h.r2).mono fun en w' ⟨v, he, hs⟩ => by
    obtain ⟨B, d, rfl, _⟩ := hs.row_slice
    exact ⟨B, d, he, hs⟩
theorem bytes_ {w : World} {A B : Option Addr} {c d : Nat} {a b : List Int} (ha : Kd.C (Kd.int .u8) w A a.length a) (hc : a.length ≤ c) (hb : Kd.C (Kd.int .u8) w B b.length b) (hd : b.length ≤ d) (h1 : isB a) (h2 : isB b) :
    Calls Try.prog 14 #[.slice A a.length c, .slice B b.length d] w fun e w' => e = .returned (.bool (decide (a = b))) ∧ Below w.heap.size w w' := by
  have h : windrowlaw13_bytes.f a b = some (decide (a = b)) := by
    unfold windrowlaw13_bytes.f
    congr 1
    rw [Bool.eq_iff_iff, beq_iff_eq, decide_eq_true_eq, str_eq]
    exact ⟨str_inj h1 h2, fun h => by rw [h]⟩
  exact (windrowlaw13_bytes.calls A c a B d b _ w ha hc hb hd h).mono fun e w' h => ⟨h.1, by first | exact h.2 | exact h.2.below⟩

set_option maxHeartbeats 8000000 in
set_option maxRecDepth 100000 in
theorem law_equal (A1 : Option Addr) (c1 : Nat) (A2 : Option Addr) (c2 : Nat) (cs : List S42) (fs : List S48) (B1 : Option Addr) (d1 : Nat) (B2 : Option Addr) (d2 : Nat) (ds : List S42) (gs : List S48) (w : World)
    (hp : In w A1 c1 A2 c2 cs fs) (hq : In w B1 d1 B2 d2 ds gs) :
    Calls Try.prog 6 #[.agg #[.slice A1 cs.length c1, .slice A2 fs.length c2], .agg #[.slice B1 ds.length d1, .slice B2 gs.length d2]] w fun en w' => en = .returned (.bool true) ∧ Below w.heap.size w w' := by
  have HP := Aside.mk hp
  have HQ := Aside.mk hq
  have H0 : Aside (St w ((w.alloc (.cells #[.slice A1 cs.length c1, .slice A2 fs.length c2] 29)).alloc (.cells #[.slice B1 ds.length d1, .slice B2 gs.length d2] 29)) (blk (w.heap.size + 1) #[.slice B1 ds.length d1, .slice B2 gs.length d2] 29 :: blk w.heap.size #[.slice A1 cs.length c1, .slice A2 fs.length c2] 29 :: [])) :=
    ⟨by simpa using ((St.start w).alloc #[.slice A1 cs.length c1, .slice A2 fs.length c2] 29).alloc #[.slice B1 ds.length d1, .slice B2 gs.length d2] 29⟩
  clear hp hq
  by_cases lp : lightP cs fs = true
  · by_cases lq : lightP ds gs = true
    · have hs2 : decide (cs = cs ∧ fs = fs) = true := decide_eq_true ⟨rfl, rfl⟩
      by_cases hs : cs = ds ∧ fs = gs
      · have hs1 : decide (cs = ds ∧ fs = gs) = true := decide_eq_true hs
        have he : (encN cs fs).1 = (encN ds gs).1 ∧ (encN cs fs).2 = (encN ds gs).2 := by rw [hs.1, hs.2]; exact ⟨rfl, rfl⟩
        have hb1 : decide ((encN cs fs).1 = (encN ds gs).1) = true := decide_eq_true he.1
        by_cases e1 : (encN cs fs).2 = 0
        · have e2 : (encN ds gs).2 = 0 := by rw [← he.2]; exact e1
          have e1b : ((encN cs fs).2 != 0) = false := by simpa using e1
          have e2b : ((encN ds gs).2 != 0) = false := by simpa using e2
          clear e1 e2 hs he
          go_enter Try.func6, Try.ntmps6
          go_wp2_with (first
            | (go_at_call 8; have H0' := H0; refine (coded _).mono ?_; rintro e w1 ⟨rfl, hb⟩; have h1 := H0.out.step hb; obtain ⟨x0, x1, x2, x3⟩ := two_ h1; have H1 := Aside.mk h1; clear h1 hb H0 H0')
            | (go_at_call 11; have H1' := H1; refine (In.light (HP.out.below H1.out.below)).mono ?_; rintro e w2 ⟨rfl, hb⟩; have h1 := H1.out.step hb; obtain ⟨x0, x1, x2, x3⟩ := two_ h1; have H2 := Aside.mk h1; clear h1 hb H1 H1')
            | (go_at_call 11; have H2' := H2; refine (In.light (HQ.out.below H2.out.below)).mono ?_; rintro e w3 ⟨rfl, hb⟩; have h1 := H2.out.step hb; obtain ⟨x0, x1, x2, x3⟩ := two_ h1; have H3 := Aside.mk h1; clear h1 hb H2 H2')
            | (go_at_call 16; refine (In.same (HP.out.below H3.out.below) (HQ.out.below H3.out.below)).mono ?_; rintro e w4 ⟨rfl, hb⟩; have h1 := H3.out.step hb; obtain ⟨x0, x1, x2, x3⟩ := two_ h1; have H4 := Aside.mk h1; clear h1 hb)
            | (go_at_call 12; have H5' := H5; refine (In.encode (HQ.out.below H5.out.below)).mono ?_; rintro e w6 ⟨E2, k2, rfl, hs⟩; have h1 := (H5.out.join hs); have h2 := h1.perm (List.perm_append_comm (l₁ := [_, _]) (l₂ := [_, _])); obtain ⟨x0, x1, x2, x3⟩ := two_ h2; have H6 := Aside.mk h1; clear h1 h2 hs H5 H5')
            | (go_at_call 12; have H4' := H4; refine (In.encode (HP.out.below H4.out.below)).mono ?_; rintro e w5 ⟨E1, k1, rfl, hs⟩; have h1 := (H4.out.join hs); have h2 := h1.perm (List.perm_append_comm (l₁ := [_]) (l₂ := [_, _])); obtain ⟨x0, x1, x2, x3⟩ := two_ h2; have H5 := Aside.mk h1; clear h1 h2 hs H4 H4')
            | (go_at_call 18; have H8' := H8; refine (In.equal (HP.out.below H8.out.below) (HP.out.below H8.out.below)).mono ?_; rintro e w10 ⟨rfl, hb⟩; have H10 := Aside.mk (H8.out.step hb); clear hb)
            | (go_at_call 14; refine (bytes_ (row_reads (St.rest (P := row 5 1 (.slice E2 (encN ds gs).1.length k2) (encN ds gs).1.length (u8s (encN ds gs).1)) H7.out)).2 (row_cap (St.rest (P := row 5 1 (.slice E2 (encN ds gs).1.length k2) (encN ds gs).1.length (u8s (encN ds gs).1)) H7.out)) (row_reads H7.out).2 (row_cap H7.out) (isB_enc _ _) (isB_enc _ _)).mono ?_; rintro e w8 ⟨rfl, hb⟩; have h1 := H7.out.step hb; have h2 := h1.perm (List.perm_append_comm (l₁ := [_, _]) (l₂ := [_, _])); obtain ⟨x0, x1, x2, x3⟩ := two_ h2; have H8 := Aside.mk h1; clear h1 h2 hb)
            | (go_at_call 18; have H6' := H6; refine (In.equal (HP.out.below H6.out.below) (HQ.out.below H6.out.below)).mono ?_; rintro e w7 ⟨rfl, hb⟩; have h1 := H6.out.step hb; have h2 := h1.perm (List.perm_append_comm (l₁ := [_, _]) (l₂ := [_, _])); obtain ⟨x0, x1, x2, x3⟩ := two_ h2; have H7 := Aside.mk h1; clear h1 h2 hb H6 H6'))
          go_ret
          exact ⟨rfl, H10.out.below⟩
        · have e1b : ((encN cs fs).2 != 0) = true := by simpa using e1
          clear e1 hs he
          go_enter Try.func6, Try.ntmps6
          go_wp2_with (first
            | (go_at_call 8; have H0' := H0; refine (coded _).mono ?_; rintro e w1 ⟨rfl, hb⟩; have h1 := H0.out.step hb; obtain ⟨x0, x1, x2, x3⟩ := two_ h1; have H1 := Aside.mk h1; clear h1 hb H0 H0')
            | (go_at_call 11; have H1' := H1; refine (In.light (HP.out.below H1.out.below)).mono ?_; rintro e w2 ⟨rfl, hb⟩; have h1 := H1.out.step hb; obtain ⟨x0, x1, x2, x3⟩ := two_ h1; have H2 := Aside.mk h1; clear h1 hb H1 H1')
            | (go_at_call 11; have H2' := H2; refine (In.light (HQ.out.below H2.out.below)).mono ?_; rintro e w3 ⟨rfl, hb⟩; have h1 := H2.out.step hb; obtain ⟨x0, x1, x2, x3⟩ := two_ h1; have H3 := Aside.mk h1; clear h1 hb H2 H2')
            | (go_at_call 16; refine (In.same (HP.out.below H3.out.below) (HQ.out.below H3.out.below)).mono ?_; rintro e w4 ⟨rfl, hb⟩; have h1 := H3.out.step hb; obtain ⟨x0, x1, x2, x3⟩ := two_ h1; have H4 := Aside.mk h1; clear h1 hb)
            | (go_at_call 12; have H5' := H5; refine (In.encode (HQ.out.below H5.out.below)).mono ?_; rintro e w6 ⟨E2, k2, rfl, hs⟩; have h1 := (H5.out.join hs); have h2 := h1.perm (List.perm_append_comm (l₁ := [_, _]) (l₂ := [_, _])); obtain ⟨x0, x1, x2, x3⟩ := two_ h2; have H6 := Aside.mk h1; clear h1 h2 hs H5 H5')
            | (go_at_call 12; have H4' := H4; refine (In.encode (HP.out.below H4.out.below)).mono ?_; rintro e w5 ⟨E1, k1, rfl, hs⟩; have h1 := (H4.out.join hs); have h2 := h1.perm (List.perm_append_comm (l₁ := [_]) (l₂ := [_, _])); obtain ⟨x0, x1, x2, x3⟩ := two_ h2; have H5 := Aside.mk h1; clear h1 h2 hs H4 H4')
            | (go_at_call 18; refine (In.equal (HP.out.below H7.out.below) (HP.out.below H7.out.below)).mono ?_; rintro e w10 ⟨rfl, hb⟩; have H10 := Aside.mk (H7.out.step hb); clear hb)
            | (go_at_call 18; have H6' := H6; refine (In.equal (HP.out.below H6.out.below) (HQ.out.below H6.out.below)).mono ?_; rintro e w7 ⟨rfl, hb⟩; have h1 := H6.out.step hb; have h2 := h1.perm (List.perm_append_comm (l₁ := [_, _]) (l₂ := [_, _])); obtain ⟨x0, x1, x2, x3⟩ := two_ h2; have H7 := Aside.mk h1; clear h1 h2 hb H6 H6'))
          go_ret
          exact ⟨rfl, H10.out.below⟩
      · have hs1 : decide (cs = ds ∧ fs = gs) = false := decide_eq_false hs
        by_cases e1 : (encN cs fs).2 = 0
        · have e1b : ((encN cs fs).2 != 0) = false := by simpa using e1
          by_cases e2 : (encN ds gs).2 = 0
          · have e2b : ((encN ds gs).2 != 0) = false := by simpa using e2
            have hb1 : decide ((encN cs fs).1 = (encN ds gs).1) = false := decide_eq_false fun h => hs (enc_inj e1 e2 h)
            clear e1 e2 hs
            go_enter Try.func6, Try.ntmps6
            go_wp2_with (first
              | (go_at_call 8; have H0' := H0; refine (coded _).mono ?_; rintro e w1 ⟨rfl, hb⟩; have h1 := H0.out.step hb; obtain ⟨x0, x1, x2, x3⟩ := two_ h1; have H1 := Aside.mk h1; clear h1 hb H0 H0')
              | (go_at_call 11; have H1' := H1; refine (In.light (HP.out.below H1.out.below)).mono ?_; rintro e w2 ⟨rfl, hb⟩; have h1 := H1.out.step hb; obtain ⟨x0, x1, x2, x3⟩ := two_ h1; have H2 := Aside.mk h1; clear h1 hb H1 H1')
              | (go_at_call 11; have H2' := H2; refine (In.light (HQ.out.below H2.out.below)).mono ?_; rintro e w3 ⟨rfl, hb⟩; have h1 := H2.out.step hb; obtain ⟨x0, x1, x2, x3⟩ := two_ h1; have H3 := Aside.mk h1; clear h1 hb H2 H2')
              | (go_at_call 16; refine (In.same (HP.out.below H3.out.below) (HQ.out.below H3.out.below)).mono ?_; rintro e w4 ⟨rfl, hb⟩; have h1 := H3.out.step hb; obtain ⟨x0, x1, x2, x3⟩ := two_ h1; have H4 := Aside.mk h1; clear h1 hb)
              | (go_at_call 12; have H5' := H5; refine (In.encode (HQ.out.below H5.out.below)).mono ?_; rintro e w6 ⟨E2, k2, rfl, hs⟩; have h1 := (H5.out.join hs); have h2 := h1.perm (List.perm_append_comm (l₁ := [_, _]) (l₂ := [_, _])); obtain ⟨x0, x1, x2, x3⟩ := two_ h2; have H6 := Aside.mk h1; clear h1 h2 hs H5 H5')
              | (go_at_call 12; have H4' := H4; refine (In.encode (HP.out.below H4.out.below)).mono ?_; rintro e w5 ⟨E1, k1, rfl, hs⟩; have h1 := (H4.out.join hs); have h2 := h1.perm (List.perm_append_comm (l₁ := [_]) (l₂ := [_, _])); obtain ⟨x0, x1, x2, x3⟩ := two_ h2; have H5 := Aside.mk h1; clear h1 h2 hs H4 H4')
              | (go_at_call 18; have H8' := H8; refine (In.equal (HP.out.below H8.out.below) (HP.out.below H8.out.below)).mono ?_; rintro e w10 ⟨rfl, hb⟩; have H10 := Aside.mk (H8.out.step hb); clear hb)
              | (go_at_call 14; refine (bytes_ (row_reads (St.rest (P := row 5 1 (.slice E2 (encN ds gs).1.length k2) (encN ds gs).1.length (u8s (encN ds gs).1)) H7.out)).2 (row_cap (St.rest (P := row 5 1 (.slice E2 (encN ds gs).1.length k2) (encN ds gs).1.length (u8s (encN ds gs).1)) H7.out)) (row_reads H7.out).2 (row_cap H7.out) (isB_enc _ _) (isB_enc _ _)).mono ?_; rintro e w8 ⟨rfl, hb⟩; have h1 := H7.out.step hb; have h2 := h1.perm (List.perm_append_comm (l₁ := [_, _]) (l₂ := [_, _])); obtain ⟨x0, x1, x2, x3⟩ := two_ h2; have H8 := Aside.mk h1; clear h1 h2 hb)
              | (go_at_call 18; have H6' := H6; refine (In.equal (HP.out.below H6.out.below) (HQ.out.below H6.out.below)).mono ?_; rintro e w7 ⟨rfl, hb⟩; have h1 := H6.out.step hb; have h2 := h1.perm (List.perm_append_comm (l₁ := [_, _]) (l₂ := [_, _])); obtain ⟨x0, x1, x2, x3⟩ := two_ h2; have H7 := Aside.mk h1; clear h1 h2 hb H6 H6'))
            go_ret
            exact ⟨rfl, H10.out.below⟩
          · have e2b : ((encN ds gs).2 != 0) = true := by simpa using e2
            clear e1 e2 hs
            go_enter Try.func6, Try.ntmps6
            go_wp2_with (first
              | (go_at_call 8; have H0' := H0; refine (coded _).mono ?_; rintro e w1 ⟨rfl, hb⟩; have h1 := H0.out.step hb; obtain ⟨x0, x1, x2, x3⟩ := two_ h1; have H1 := Aside.mk h1; clear h1 hb H0 H0')
              | (go_at_call 11; have H1' := H1; refine (In.light (HP.out.below H1.out.below)).mono ?_; rintro e w2 ⟨rfl, hb⟩; have h1 := H1.out.step hb; obtain ⟨x0, x1, x2, x3⟩ := two_ h1; have H2 := Aside.mk h1; clear h1 hb H1 H1')
              | (go_at_call 11; have H2' := H2; refine (In.light (HQ.out.below H2.out.below)).mono ?_; rintro e w3 ⟨rfl, hb⟩; have h1 := H2.out.step hb; obtain ⟨x0, x1, x2, x3⟩ := two_ h1; have H3 := Aside.mk h1; clear h1 hb H2 H2')
              | (go_at_call 16; refine (In.same (HP.out.below H3.out.below) (HQ.out.below H3.out.below)).mono ?_; rintro e w4 ⟨rfl, hb⟩; have h1 := H3.out.step hb; obtain ⟨x0, x1, x2, x3⟩ := two_ h1; have H4 := Aside.mk h1; clear h1 hb)
              | (go_at_call 12; have H5' := H5; refine (In.encode (HQ.out.below H5.out.below)).mono ?_; rintro e w6 ⟨E2, k2, rfl, hs⟩; have h1 := (H5.out.join hs); have h2 := h1.perm (List.perm_append_comm (l₁ := [_, _]) (l₂ := [_, _])); obtain ⟨x0, x1, x2, x3⟩ := two_ h2; have H6 := Aside.mk h1; clear h1 h2 hs H5 H5')
              | (go_at_call 12; have H4' := H4; refine (In.encode (HP.out.below H4.out.below)).mono ?_; rintro e w5 ⟨E1, k1, rfl, hs⟩; have h1 := (H4.out.join hs); have h2 := h1.perm (List.perm_append_comm (l₁ := [_]) (l₂ := [_, _])); obtain ⟨x0, x1, x2, x3⟩ := two_ h2; have H5 := Aside.mk h1; clear h1 h2 hs H4 H4')
              | (go_at_call 18; refine (In.equal (HP.out.below H7.out.below) (HP.out.below H7.out.below)).mono ?_; rintro e w10 ⟨rfl, hb⟩; have H10 := Aside.mk (H7.out.step hb); clear hb)
              | (go_at_call 18; have H6' := H6; refine (In.equal (HP.out.below H6.out.below) (HQ.out.below H6.out.below)).mono ?_; rintro e w7 ⟨rfl, hb⟩; have h1 := H6.out.step hb; have h2 := h1.perm (List.perm_append_comm (l₁ := [_, _]) (l₂ := [_, _])); obtain ⟨x0, x1, x2, x3⟩ := two_ h2; have H7 := Aside.mk h1; clear h1 h2 hb H6 H6'))
            go_ret
            exact ⟨rfl, H10.out.below⟩
        · have e1b : ((encN cs fs).2 != 0) = true := by simpa using e1
          clear e1 hs
          go_enter Try.func6, Try.ntmps6
          go_wp2_with (first
            | (go_at_call 8; have H0' := H0; refine (coded _).mono ?_; rintro e w1 ⟨rfl, hb⟩; have h1 := H0.out.step hb; obtain ⟨x0, x1, x2, x3⟩ := two_ h1; have H1 := Aside.mk h1; clear h1 hb H0 H0')
            | (go_at_call 11; have H1' := H1; refine (In.light (HP.out.below H1.out.below)).mono ?_; rintro e w2 ⟨rfl, hb⟩; have h1 := H1.out.step hb; obtain ⟨x0, x1, x2, x3⟩ := two_ h1; have H2 := Aside.mk h1; clear h1 hb H1 H1')
            | (go_at_call 11; have H2' := H2; refine (In.light (HQ.out.below H2.out.below)).mono ?_; rintro e w3 ⟨rfl, hb⟩; have h1 := H2.out.step hb; obtain ⟨x0, x1, x2, x3⟩ := two_ h1; have H3 := Aside.mk h1; clear h1 hb H2 H2')
            | (go_at_call 16; refine (In.same (HP.out.below H3.out.below) (HQ.out.below H3.out.below)).mono ?_; rintro e w4 ⟨rfl, hb⟩; have h1 := H3.out.step hb; obtain ⟨x0, x1, x2, x3⟩ := two_ h1; have H4 := Aside.mk h1; clear h1 hb)
            | (go_at_call 12; have H5' := H5; refine (In.encode (HQ.out.below H5.out.below)).mono ?_; rintro e w6 ⟨E2, k2, rfl, hs⟩; have h1 := (H5.out.join hs); have h2 := h1.perm (List.perm_append_comm (l₁ := [_, _]) (l₂ := [_, _])); obtain ⟨x0, x1, x2, x3⟩ := two_ h2; have H6 := Aside.mk h1; clear h1 h2 hs H5 H5')
            | (go_at_call 12; have H4' := H4; refine (In.encode (HP.out.below H4.out.below)).mono ?_; rintro e w5 ⟨E1, k1, rfl, hs⟩; have h1 := (H4.out.join hs); have h2 := h1.perm (List.perm_append_comm (l₁ := [_]) (l₂ := [_, _])); obtain ⟨x0, x1, x2, x3⟩ := two_ h2; have H5 := Aside.mk h1; clear h1 h2 hs H4 H4')
            | (go_at_call 18; refine (In.equal (HP.out.below H7.out.below) (HP.out.below H7.out.below)).mono ?_; rintro e w10 ⟨rfl, hb⟩; have H10 := Aside.mk (H7.out.step hb); clear hb)
            | (go_at_call 18; have H6' := H6; refine (In.equal (HP.out.below H6.out.below) (HQ.out.below H6.out.below)).mono ?_; rintro e w7 ⟨rfl, hb⟩; have h1 := H6.out.step hb; have h2 := h1.perm (List.perm_append_comm (l₁ := [_, _]) (l₂ := [_, _])); obtain ⟨x0, x1, x2, x3⟩ := two_ h2; have H7 := Aside.mk h1; clear h1 h2 hb H6 H6'))
          go_ret
          exact ⟨rfl, H10.out.below⟩
    · have lq1 : lightP ds gs = false := by simpa using lq
      go_enter Try.func6, Try.ntmps6
      go_wp2_with (first
        | (go_at_call 8; have H0' := H0; refine (coded _).mono ?_; rintro e w1 ⟨rfl, hb⟩; have h1 := H0.out.step hb; obtain ⟨x0, x1, x2, x3⟩ := two_ h1; have H1 := Aside.mk h1; clear h1 hb H0 H0')
        | (go_at_call 11; have H2' := H2; refine (In.light (HQ.out.below H2.out.below)).mono ?_; rintro e w3 ⟨rfl, hb⟩; have h1 := H2.out.step hb; obtain ⟨x0, x1, x2, x3⟩ := two_ h1; have H3 := Aside.mk h1; clear h1 hb H2 H2')
        | (go_at_call 11; have H1' := H1; refine (In.light (HP.out.below H1.out.below)).mono ?_; rintro e w2 ⟨rfl, hb⟩; have h1 := H1.out.step hb; obtain ⟨x0, x1, x2, x3⟩ := two_ h1; have H2 := Aside.mk h1; clear h1 hb H1 H1')
        | (go_at_call 8; refine (coded _).mono ?_; rintro e w9 ⟨rfl, hb⟩; have H9 := Aside.mk (H3.out.step hb); clear hb))
      go_ret
      exact ⟨rfl, H9.out.below⟩
  · have lp1 : lightP cs fs = false := by simpa using lp
    go_enter Try.func6, Try.ntmps6
    go_wp2_with (first
      | (go_at_call 8; have H0' := H0; refine (coded _).mono ?_; rintro e w1 ⟨rfl, hb⟩; have h1 := H0.out.step hb; obtain ⟨x0, x1, x2, x3⟩ := two_ h1; have H1 := Aside.mk h1; clear h1 hb H0 H0')
      | (go_at_call 11; have H1' := H1; refine (In.light (HP.out.below H1.out.below)).mono ?_; rintro e w2 ⟨rfl, hb⟩; have h1 := H1.out.step hb; obtain ⟨x0, x1, x2, x3⟩ := two_ h1; have H2 := Aside.mk h1; clear h1 hb H1 H1')
      | (go_at_call 8; refine (coded _).mono ?_; rintro e w9 ⟨rfl, hb⟩; have H9 := Aside.mk (H2.out.step hb); clear hb))
    go_ret
    exact ⟨rfl, H9.out.below⟩
end Go.Proofs.Ytakpdmkfengghaa.Wr
