/- What CodeBack's walk asks of Decode and Encode, in one place. Conditions: programs of few parts, bytes. -/
import Derived.Test.YtakpdmkfengghaaMrD
import Derived.Test.YtakpdmkfengghaaIn0
import Derived.Test.YtakpdmkfengghaaIn2
import Derived.Test.YtakpdmkfengghaaSep2
import Derived.StillTailTactics
import Derived.Below
import Derived.Deep.Draws
import Derived.Deep.AppendLies
import Derived.Maps.AppendAt
import Derived.OwnWalk
import Derived.Laws.MakeOwn
import Derived.Laws.OwnMore
import Derived.Deep.OwnRows
import Derived.Tactics
import Derived.Laws.Slices
import Derived.WalkKit
import Derived.KernelRfl
import Derived.RowKit3
import Derived.BigQuiet
import Derived.WideLaws
import Derived.RowKit
import Derived.Test.YtakpdmkfengghaaIn
section
namespace Go.Proofs.Ytakpdmkfengghaa.Wr
open Go Go.RowKit Go.Proofs.Ytakpdmkfengghaa.Sep Go.Proofs.YtakpdmkfengghaaW.PrintWords Go.Proofs.YtakpdmkfengghaaW.PrintLast Go.Proofs.YtakpdmkfengghaaW.PrintMore Go.Proofs.Ytakpdmkfengghaa.Q Go.Proofs.Ytakpdmkfengghaa.Pe Go.Proofs.Ytakpdmkfengghaa.Rd
set_option linter.unusedVariables false
set_option linter.unusedSimpArgs false

theorem In.equal {w : World} {A1 : Option Addr} {c1 : Nat} {A2 : Option Addr} {c2 : Nat} {cs : List S42} {fs : List S48} (h : In w A1 c1 A2 c2 cs fs) {B1 : Option Addr} {d1 : Nat} {B2 : Option Addr} {d2 : Nat} (h' : In w B1 d1 B2 d2 cs fs) :
    Calls Try.prog 18 #[.agg #[.slice A1 cs.length c1, .slice A2 fs.length c2], .agg #[.slice B1 cs.length d1, .slice B2 fs.length d2]] w fun e w' => e = .returned (.bool true) ∧ Below w.heap.size w w' := by
  obtain ⟨k, hk⟩ := Evt_at (equal_code cs cs fs fs (Kd.C_max h.r1) (Kd.C_max h.r2) (lC_of h.r1) (lF_of h.r2))
  have e : decide (cs = cs ∧ fs = fs) = true := decide_eq_true ⟨rfl, rfl⟩
  rw [e] at hk
  exact code_Equal.calls k A1 c1 cs A2 c2 fs B1 d1 cs B2 d2 fs _ w h.r1 h.l1 h.r2 h.l2 h'.r1 h'.l1 h'.r2 h'.l2 hk
/-- A program that was read lies in memory so. -/
structure Got (w : World) (B1 : Option Addr) (d1 : Nat) (B2 : Option Addr) (d2 : Nat) (cs : List S42) (fs : List S48) : Prop where
  r1 : Kd.C k42 w B1 cs.length cs
  l1 : cs.length ≤ d1
  r2 : Kd.C k48 w B2 fs.length fs
  l2 : fs.length ≤ d2
theorem Got.below {w w' : World} {A1 : Option Addr} {c1 : Nat} {A2 : Option Addr} {c2 : Nat} {cs : List S42} {fs : List S48} (h : Got w A1 c1 A2 c2 cs fs) (hb : Below w.heap.size w w') : Got w' A1 c1 A2 c2 cs fs := ⟨Kd.C_below h.r1 hb, h.l1, Kd.C_below h.r2 hb, h.l2⟩
theorem Got.in_ {w : World} {A1 : Option Addr} {c1 : Nat} {A2 : Option Addr} {c2 : Nat} {cs : List S42} {fs : List S48} (h : Got w A1 c1 A2 c2 cs fs) (hw : wfP cs fs) : In w A1 c1 A2 c2 cs fs := ⟨h.r1, h.l1, h.r2, h.l2, hw⟩
theorem dec_ {w : World} {A : Option Addr} {n c : Nat} {l : List Int} (hn : l.length = n) (hr : Kd.C (Kd.int .u8) w A l.length l) (hc : n ≤ c) {cs : List S42} {fs : List S48} {to_ e : Int} (hk : Evt (fun k => code_Decode.f k l) (cs, fs, to_, e)) :
    Calls Try.prog 19 #[.slice A n c] w fun en w' => ∃ B1 d1 B2 d2, en = .returned (.tuple #[.agg #[.slice B1 cs.length d1, .slice B2 fs.length d2], .int .i64 to_, .int .i64 e]) ∧ Got w' B1 d1 B2 d2 cs fs ∧ Below w.heap.size w w' := by
  subst hn
  obtain ⟨k, hk⟩ := Evt_at hk
  refine (code_Decode.calls k A c l _ _ _ _ w hr hc hk).mono fun en w' ⟨v0, v1, he, hs0, hs1, hb⟩ => ?_
  have hr0 := Kd.S_R hs0
  have hr1 := Kd.S_R hs1
  obtain ⟨B1, d1, rfl⟩ := Kd.R_slice hr0
  obtain ⟨B2, d2, rfl⟩ := Kd.R_slice hr1
  have g0 := Kd.R_reads' hr0
  have g1 := Kd.R_reads' hr1
  exact ⟨B1, d1, B2, d2, he, ⟨g0.2.2, g0.2.1, g1.2.2, g1.2.1⟩, hb⟩
/-- The writer's bytes are the code. -/
theorem enc_of {cs : List S42} {fs : List S48} (h : vP (cs, fs)) : encN cs fs = (cP (cs, fs), 0) := by
  have h0 := (e3_code cs fs).1.2 h.1
  have h1 := (e3_code cs fs).2 h0
  unfold encN
  rw [if_pos h0]
  exact Prod.ext h1 h0
theorem enc_ok {cs : List S42} {fs : List S48} (hw : wfP cs fs) (h : (encN cs fs).2 = 0) : vP (cs, fs) ∧ (encN cs fs).1 = cP (cs, fs) := by
  have h0 : (e3_ cs fs).2 = 0 := by
    unfold encN at h
    by_cases h0 : (e3_ cs fs).2 = 0
    · exact h0
    · rw [if_neg h0] at h; exact absurd h h0
  have hv := (e3_code cs fs).1.1 h0
  have hv2 : vP (cs, fs) := ⟨hv, fun f hf i hi => (hw.2 f hf).2 i hi⟩
  exact ⟨hv2, by rw [enc_of hv2]⟩
theorem vText_ok {t : ByteArray} (h : vText t) : okS t := by unfold vText at h; unfold okS; omega
theorem wf_read {cs : List S42} {fs : List S48} (h : vP (cs, fs)) : wfP cs fs :=
  ⟨fun x hx => ⟨vText_ok (h.1.2.1 x hx).1, fun f hf => vText_ok ((h.1.2.1 x hx).2.2 f hf).1⟩, fun x hx => ⟨vText_ok (h.1.2.2.2 x hx).1, fun i hi => h.2 x hx i hi⟩⟩
/-- What was read is written: the same bytes. -/
theorem Got.encode {w : World} {A1 : Option Addr} {c1 : Nat} {A2 : Option Addr} {c2 : Nat} {cs : List S42} {fs : List S48} {b : List Int} (h : Got w A1 c1 A2 c2 cs fs) (hv : vP (cs, fs)) (hb : b = cP (cs, fs)) :
    Calls Try.prog 12 #[.agg #[.slice A1 cs.length c1, .slice A2 fs.length c2]] w fun en w' => ∃ B d, en = .returned (.tuple #[.slice B b.length d, .int .i64 0]) ∧ St w w' [row 5 1 (.slice B b.length d) b.length (u8s b)] := by
  have := In.encode (h.in_ (wf_read hv))
  rw [enc_of hv, ← hb] at this
  exact this
theorem bytes_same {w : World} {A B : Option Addr} {c d : Nat} {b : List Int} (ha : Kd.C (Kd.int .u8) w A b.length b) (hc : b.length ≤ c) (hb : Kd.C (Kd.int .u8) w B b.length b) (hd : b.length ≤ d) (h1 : isB b) :
    Calls Try.prog 14 #[.slice A b.length c, .slice B b.length d] w fun e w' => e = .returned (.bool true) ∧ Below w.heap.size w w' := by
  have := bytes_ ha hc hb hd h1 h1
  rw [decide_eq_true (rfl : b = b)] at this
  exact this
theorem one_u8_ (l : List Int) : ∀ u ∈ u8s l, u.oneCell' = true := by
  intro u hu
  obtain ⟨x, _, rfl⟩ := List.mem_map.1 hu
  rfl
theorem u8s_len (l : List Int) : (u8s l).length = l.length := by simp [u8s]
/-- A cut of a row of bytes. -/
theorem cut_reads {w : World} {A : Option Addr} {c n : Nat} {l : List Int} (h : Kd.C (Kd.int .u8) w A l.length l) (hn : n ≤ l.length) (hc : l.length ≤ c) :
    (∀ W : World, (Instr.slice 31 (.slice A l.length c) none (some (.int .i64 (n : Int))) none).run Try.prog W = .ok (.slice A n c) W) ∧ (l.take n).length = n ∧ Kd.C (Kd.int .u8) w A (l.take n).length (l.take n) := by
  obtain ⟨i0, hi0, _, hsz, _⟩ := info_parts Wr.info5
  obtain ⟨h1, h2, h3⟩ := print_take_of (P := Try.prog) (Value.int .u8) (0 : Int) 31 5 .i64 Try.underlying31 hi0 hsz A c l (n : Int) (by omega) (by omega) hc
  have hl : (l.take n).length = n := by rw [List.length_take]; omega
  rw [Int.toNat_natCast] at h1 h2
  rw [hl] at h1
  exact ⟨h1, hl, Kd.C_of_reads (h1 := fun _ => rfl) (h2 _ (Kd.reads_of_C h))⟩
end Go.Proofs.Ytakpdmkfengghaa.Wr
end
section
namespace Go.Proofs.Ytakpdmkfengghaa.Wr
open Go Go.RowKit Go.Proofs.Ytakpdmkfengghaa.Sep Go.Proofs.YtakpdmkfengghaaW.PrintWords Go.Proofs.YtakpdmkfengghaaW.PrintLast Go.Proofs.YtakpdmkfengghaaW.PrintMore Go.Proofs.Ytakpdmkfengghaa.Q Go.Proofs.Ytakpdmkfengghaa.Pe Go.Proofs.Ytakpdmkfengghaa.Rd
set_option linter.unusedVariables false
set_option linter.unusedSimpArgs false

set_option maxHeartbeats 8000000 in
set_option maxRecDepth 100000 in
theorem law_back (A1 : Option Addr) (c1 : Nat) (A2 : Option Addr) (c2 : Nat) (cs : List S42) (fs : List S48) (A : Option Addr) (c : Nat) (b : List Int) (m : Int) (w : World)
    (hp : In w A1 c1 A2 c2 cs fs) (hb : Kd.C (Kd.int .u8) w A b.length b) (hc : b.length ≤ c) (hB : isB b) (hm : 0 ≤ m ∧ m < 256) :
    Calls Try.prog 7 #[.agg #[.slice A1 cs.length c1, .slice A2 fs.length c2], .slice A b.length c, .int .u8 m] w fun en w' => en = .returned (.bool true) ∧ Below w.heap.size w w' := by
  have HP := Aside.mk hp
  have HBB := Aside.mk hb
  have HBc := Aside.mk hc
  have HIS := Aside.mk hB
  have HM := Aside.mk hm
  have H0 : Aside (St w (w.alloc (.cells #[.slice A1 cs.length c1, .slice A2 fs.length c2] 29)) (blk w.heap.size #[.slice A1 cs.length c1, .slice A2 fs.length c2] 29 :: [])) := ⟨(St.start w).alloc _ _⟩
  clear hp hb hc hB hm
  by_cases lp : lightP cs fs = true
  · by_cases hlen : 20000 < b.length
    · have dl : decide ((20000 : Int) < (b.length : Int)) = true := by simp; omega
      go_enter Try.func7, Try.ntmps7
      go_wp2_with (first
          | (go_at_call 8; have H0' := H0; refine (coded _).mono ?_; rintro e w1 ⟨rfl, hb⟩; have h1 := H0.out.step hb; have x0 := h1.cell 0; have x1 := h1.cell 1; have H1 := Aside.mk h1; clear h1 hb H0 H0')
          | (go_at_call 11; have H1' := H1; refine (In.light (HP.out.below H1.out.below)).mono ?_; rintro e w2 ⟨rfl, hb⟩; have h1 := H1.out.step hb; have x0 := h1.cell 0; have x1 := h1.cell 1; have H2 := Aside.mk h1; clear h1 hb H1 H1')
          | (go_at_call 8; refine (coded _).mono ?_; rintro e w9 ⟨rfl, hb⟩; have H9 := Aside.mk (H2.out.step hb); clear hb))
      go_ret
      exact ⟨rfl, H9.out.below⟩
    · have dl : decide ((20000 : Int) < (b.length : Int)) = false := by simp; omega
      obtain ⟨⟨ds, gs, to_, e4⟩, hdec, hy0, hn0⟩ := decode_just HIS.out (by omega)
      have hy : e4 = 0 → vP (ds, gs) ∧ b = cP (ds, gs) := hy0
      have hn : e4 ≠ 0 → ds = [] ∧ gs = [] := hn0
      clear hy0 hn0
      by_cases hblk : (encN cs fs).2 = 0 ∧ (encN cs fs).1.length ≤ 60000
      · obtain ⟨e0, hn6⟩ := hblk
        obtain ⟨hv, hcp⟩ := enc_ok HP.out.wf e0
        have HV := Aside.mk hv
        obtain ⟨N, hN⟩ : ∃ N, N = (encN cs fs).1.length := ⟨_, rfl⟩
        have hN4 : 4 ≤ N := by rw [hN, hcp]; show 4 ≤ (mg ++ _).length; rw [List.length_append]; show 4 ≤ 4 + _; omega
        obtain ⟨E, hE⟩ : ∃ E, E = (encN cs fs).1 := ⟨_, rfl⟩
        have hEN : E.length = N := by rw [hE, hN]
        have HB1 := Aside.mk (decode_back hv (by rw [← hcp, ← hN]; omega))
        have HB2 := Aside.mk (decode_more hv m HM.out (by rw [← hcp, ← hN]; omega))
        have HB3 := Aside.mk (decode_less hv (by rw [← hcp, ← hN]; omega))
        rw [← hcp, ← hE] at HB1 HB2 HB3
        rw [hEN] at HB2 HB3
        have HE := Aside.mk (show ∃ B d, True from ⟨0, 0, trivial⟩)
        have hw1 : wrap64 ((N : Int) - 1) = ((N - 1 : Nat) : Int) := by unfold wrap64; omega
        have d6 : decide ((N : Int) ≤ 60000) = true := by simp; omega
        have HEe : Aside ((encN cs fs) = (E, 0)) := ⟨Prod.ext hE.symm e0⟩
        have HEN := Aside.mk hEN
        have HN4 := Aside.mk hN4
        have HN6 := Aside.mk hn6
        rw [← hN] at HN6
        have HDEC := Aside.mk hdec
        clear hE e0 hN hv hcp hEN hn6 hdec hlen hN4
        by_cases h4 : e4 = 0
        · subst h4
          have HVR := Aside.mk (hy rfl)
          clear hy hn
          go_enter Try.func7, Try.ntmps7
          go_wp2_with (first
          | (go_at_call 8; have H0' := H0; refine (coded _).mono ?_; rintro e w1 ⟨rfl, hb⟩; have h1 := H0.out.step hb; have x0 := h1.cell 0; have x1 := h1.cell 1; have H1 := Aside.mk h1; clear h1 hb H0 H0')
          | (go_at_call 11; have H1' := H1; refine (In.light (HP.out.below H1.out.below)).mono ?_; rintro e w2 ⟨rfl, hb⟩; have h1 := H1.out.step hb; have x0 := h1.cell 0; have x1 := h1.cell 1; have H2 := Aside.mk h1; clear h1 hb H1 H1')
          | (go_at_call 12; have H2' := H2; have h9 := In.encode (HP.out.below H2.out.below); rw [HEe.out] at h9; dsimp only at h9; rw [HEN.out] at h9; refine h9.mono ?_; clear h9; rintro e w3 ⟨EB, d, rfl, hs⟩; have h1 := H2.out.join hs; have hcap := row_cap hs; obtain ⟨gE, cE, heq, _, _⟩ := h1.row_some (show 0 < N by have := HN4.out; omega); injection heq with he1 _ he2; subst he1; subst he2; have HCAP := Aside.mk hcap; have x0 := (h1.pick 1 rfl).cell 0; have x1 := (h1.pick 1 rfl).cell 1; have H3 := Aside.mk h1; clear h1 hs hcap H2 H2')
          | (go_at_call 19; have H3' := H3; refine (dec_ HEN.out (by have := (row_reads H3.out).2; exact this) HCAP.out HB1.out).mono ?_; rintro e w4 ⟨B1, d1, B2, d2, rfl, hg, hb⟩; have h1 := H3.out.step hb; have x0 := (h1.pick 1 rfl).cell 0; have x1 := (h1.pick 1 rfl).cell 1; have lx := World.block_lt_of_cell? _ _ x0; have HG := Aside.mk (hg.in_ HP.out.wf); have H4 := Aside.mk (h1.alloc #[.slice B1 cs.length d1, .slice B2 fs.length d2] 29); clear h1 hb hg H3 H3')
          | (go_at_call 18; have H4' := H4; have hg4 := HG.out.below (below_alloc (Below.refl _ _) (.cells #[.slice B1 cs.length d1, .slice B2 fs.length d2] 29)); refine (In.equal (HP.out.below H4.out.below) hg4).mono ?_; rintro e w5 ⟨rfl, hb⟩; have h1 := H4.out.step hb; have HG5 := Aside.mk (hg4.below hb); have x0 := (h1.pick 2 rfl).cell 0; have x1 := (h1.pick 2 rfl).cell 1; have x2 := h1.cell 0; have x3 := h1.cell 1; have H5 := Aside.mk h1; clear h1 hb hg4 HG H4 H4')
          | (go_at_call 18; have H5' := H5; refine (In.equal HG5.out (HP.out.below H5.out.below)).mono ?_; rintro e w6 ⟨rfl, hb⟩; have h1 := H5.out.step hb; have H6 := Aside.mk h1; clear h1 hb HG5 H5 H5')
          | (at_builtin; refine append_run rfl (.tmp 68) (.tmp 69) 31 5 (.int .u8 0) 1 1 rfl Try.underlying31 Wr.info5 rfl (by decide) (by decide) _ 0 [] rfl ⟨gE, 0, none⟩ N d (u8s E) rfl (by rw [u8s_len, HEN.out, Nat.mul_one]) ((H6.out.new_row (e := 5) #[] (0, 0) (n := 0) (size := 1) rfl (by decide)).pick 2 rfl).owns.cells (one_u8_ E) (H6.out.new_row (e := 5) #[] (0, 0) (n := 0) (size := 1) rfl (by decide)) (by have := HN6.out; omega) ?_; intro A7 c7 w7 hc7 h7; simp only [Nat.zero_add, List.nil_append] at h7 ⊢; have H7 := Aside.mk h7; clear h7 hc7 H6)
          | (at_builtin; refine append1 rfl (.tmp 70) (.tmp 72) 31 5 (.int .u8 0) 1 rfl Try.underlying31 Wr.info5 rfl (by decide) _ N (u8s E) (.int .u8 m) rfl rfl rfl H7.out (by have := HN6.out; omega) ?_; intro A8 c8 w8 hc8 h8; rw [show u8s E ++ [.int .u8 m] = u8s (E ++ [m]) by simp [u8s]] at h8; have H8 := Aside.mk h8; clear h8 hc8 H7)
          | (go_at_call 19; have H8' := H8; refine (dec_ (l := E ++ [m]) (by rw [List.length_append, HEN.out]; rfl) (row_reads H8.out).2 (row_cap H8.out) HB2.out).mono ?_; rintro e w9 ⟨F1, f1, F2, f2, rfl, hg, hb⟩; have h1 := H8.out.step hb; obtain ⟨hcut, hl3, hC3⟩ := cut_reads (n := N - 1) (row_reads (h1.pick 2 rfl)).2 (by have := HEN.out; omega) (by rw [HEN.out]; exact HCAP.out); rw [HEN.out] at hcut; have HL3 := Aside.mk hl3; have HC3 := Aside.mk hC3; have H9 := Aside.mk h1; clear h1 hb hg hl3 hC3 H8 H8')
          | (go_at_call 19; have H9' := H9; refine (dec_ (l := E.take (N - 1)) HL3.out HC3.out (by have := HCAP.out; omega) HB3.out).mono ?_; rintro e w10 ⟨G1, g1, G2, g2, rfl, hg, hb⟩; have h1 := H9.out.step hb; have H10 := Aside.mk (h1.alloc #[.slice G1 ([] : List S42).length g1, .slice G2 ([] : List S48).length g2] 29); clear h1 hb hg hcut HL3 HC3 H9 H9')
          | (go_at_call 19; have H10' := H10; refine (dec_ rfl (Kd.C_below HBB.out H10.out.below) HBc.out HDEC.out).mono ?_; rintro e w11 ⟨K1, k1, K2, k2, rfl, hg, hb⟩; have h1 := H10.out.step hb; have HG11 := Aside.mk hg; have H11 := Aside.mk (h1.alloc #[.slice K1 ds.length k1, .slice K2 gs.length k2] 29); clear h1 hb hg H10 H10')
          | (go_at_call 12; have H11' := H11; have hg := HG11.out.below (below_alloc (Below.refl _ _) (.cells #[.slice K1 ds.length k1, .slice K2 gs.length k2] 29)); refine (hg.encode HVR.out.1 HVR.out.2).mono ?_; rintro e w12 ⟨P1, p1, rfl, hs⟩; have H12 := Aside.mk (H11.out.join hs); clear hs hg H11 H11' HG11)
          | (go_at_call 14; refine (bytes_same (row_reads H12.out).2 (row_cap H12.out) (Kd.C_below HBB.out H12.out.below) HBc.out HIS.out).mono ?_; rintro e w13 ⟨rfl, hb⟩; have H13 := Aside.mk (H12.out.step hb); clear hb))
          go_ret
          exact ⟨rfl, H13.out.below⟩
        · obtain ⟨rfl, rfl⟩ := hn h4
          have e4b : (e4 != 0) = true := by simpa using h4
          clear hy hn h4
          go_enter Try.func7, Try.ntmps7
          go_wp2_with (first
          | (go_at_call 8; have H0' := H0; refine (coded _).mono ?_; rintro e w1 ⟨rfl, hb⟩; have h1 := H0.out.step hb; have x0 := h1.cell 0; have x1 := h1.cell 1; have H1 := Aside.mk h1; clear h1 hb H0 H0')
          | (go_at_call 11; have H1' := H1; refine (In.light (HP.out.below H1.out.below)).mono ?_; rintro e w2 ⟨rfl, hb⟩; have h1 := H1.out.step hb; have x0 := h1.cell 0; have x1 := h1.cell 1; have H2 := Aside.mk h1; clear h1 hb H1 H1')
          | (go_at_call 12; have H2' := H2; have h9 := In.encode (HP.out.below H2.out.below); rw [HEe.out] at h9; dsimp only at h9; rw [HEN.out] at h9; refine h9.mono ?_; clear h9; rintro e w3 ⟨EB, d, rfl, hs⟩; have h1 := H2.out.join hs; have hcap := row_cap hs; obtain ⟨gE, cE, heq, _, _⟩ := h1.row_some (show 0 < N by have := HN4.out; omega); injection heq with he1 _ he2; subst he1; subst he2; have HCAP := Aside.mk hcap; have x0 := (h1.pick 1 rfl).cell 0; have x1 := (h1.pick 1 rfl).cell 1; have H3 := Aside.mk h1; clear h1 hs hcap H2 H2')
          | (go_at_call 19; have H3' := H3; refine (dec_ HEN.out (by have := (row_reads H3.out).2; exact this) HCAP.out HB1.out).mono ?_; rintro e w4 ⟨B1, d1, B2, d2, rfl, hg, hb⟩; have h1 := H3.out.step hb; have x0 := (h1.pick 1 rfl).cell 0; have x1 := (h1.pick 1 rfl).cell 1; have lx := World.block_lt_of_cell? _ _ x0; have HG := Aside.mk (hg.in_ HP.out.wf); have H4 := Aside.mk (h1.alloc #[.slice B1 cs.length d1, .slice B2 fs.length d2] 29); clear h1 hb hg H3 H3')
          | (go_at_call 18; have H4' := H4; have hg4 := HG.out.below (below_alloc (Below.refl _ _) (.cells #[.slice B1 cs.length d1, .slice B2 fs.length d2] 29)); refine (In.equal (HP.out.below H4.out.below) hg4).mono ?_; rintro e w5 ⟨rfl, hb⟩; have h1 := H4.out.step hb; have HG5 := Aside.mk (hg4.below hb); have x0 := (h1.pick 2 rfl).cell 0; have x1 := (h1.pick 2 rfl).cell 1; have x2 := h1.cell 0; have x3 := h1.cell 1; have H5 := Aside.mk h1; clear h1 hb hg4 HG H4 H4')
          | (go_at_call 18; have H5' := H5; refine (In.equal HG5.out (HP.out.below H5.out.below)).mono ?_; rintro e w6 ⟨rfl, hb⟩; have h1 := H5.out.step hb; have H6 := Aside.mk h1; clear h1 hb HG5 H5 H5')
          | (at_builtin; refine append_run rfl (.tmp 68) (.tmp 69) 31 5 (.int .u8 0) 1 1 rfl Try.underlying31 Wr.info5 rfl (by decide) (by decide) _ 0 [] rfl ⟨gE, 0, none⟩ N d (u8s E) rfl (by rw [u8s_len, HEN.out, Nat.mul_one]) ((H6.out.new_row (e := 5) #[] (0, 0) (n := 0) (size := 1) rfl (by decide)).pick 2 rfl).owns.cells (one_u8_ E) (H6.out.new_row (e := 5) #[] (0, 0) (n := 0) (size := 1) rfl (by decide)) (by have := HN6.out; omega) ?_; intro A7 c7 w7 hc7 h7; simp only [Nat.zero_add, List.nil_append] at h7 ⊢; have H7 := Aside.mk h7; clear h7 hc7 H6)
          | (at_builtin; refine append1 rfl (.tmp 70) (.tmp 72) 31 5 (.int .u8 0) 1 rfl Try.underlying31 Wr.info5 rfl (by decide) _ N (u8s E) (.int .u8 m) rfl rfl rfl H7.out (by have := HN6.out; omega) ?_; intro A8 c8 w8 hc8 h8; rw [show u8s E ++ [.int .u8 m] = u8s (E ++ [m]) by simp [u8s]] at h8; have H8 := Aside.mk h8; clear h8 hc8 H7)
          | (go_at_call 19; have H8' := H8; refine (dec_ (l := E ++ [m]) (by rw [List.length_append, HEN.out]; rfl) (row_reads H8.out).2 (row_cap H8.out) HB2.out).mono ?_; rintro e w9 ⟨F1, f1, F2, f2, rfl, hg, hb⟩; have h1 := H8.out.step hb; obtain ⟨hcut, hl3, hC3⟩ := cut_reads (n := N - 1) (row_reads (h1.pick 2 rfl)).2 (by have := HEN.out; omega) (by rw [HEN.out]; exact HCAP.out); rw [HEN.out] at hcut; have HL3 := Aside.mk hl3; have HC3 := Aside.mk hC3; have H9 := Aside.mk h1; clear h1 hb hg hl3 hC3 H8 H8')
          | (go_at_call 19; have H9' := H9; refine (dec_ (l := E.take (N - 1)) HL3.out HC3.out (by have := HCAP.out; omega) HB3.out).mono ?_; rintro e w10 ⟨G1, g1, G2, g2, rfl, hg, hb⟩; have h1 := H9.out.step hb; have H10 := Aside.mk (h1.alloc #[.slice G1 ([] : List S42).length g1, .slice G2 ([] : List S48).length g2] 29); clear h1 hb hg hcut HL3 HC3 H9 H9')
          | (go_at_call 19; have H10' := H10; refine (dec_ rfl (Kd.C_below HBB.out H10.out.below) HBc.out HDEC.out).mono ?_; rintro e w11 ⟨K1, k1, K2, k2, rfl, hg, hb⟩; have h1 := H10.out.step hb; have HG11 := Aside.mk hg; have H11 := Aside.mk (h1.alloc #[.slice K1 ([] : List S42).length k1, .slice K2 ([] : List S48).length k2] 29); clear h1 hb hg H10 H10'))
          go_ret
          exact ⟨rfl, H11.out.below⟩
      · have HDEC := Aside.mk hdec
        clear hdec hlen
        by_cases e0 : (encN cs fs).2 = 0
        · have d6 : decide (((encN cs fs).1.length : Int) ≤ 60000) = false := by
            have : ¬ (encN cs fs).1.length ≤ 60000 := fun h => hblk ⟨e0, h⟩
            simp; omega
          have e0b : ((encN cs fs).2 == 0) = true := by simpa using e0
          clear hblk e0
          by_cases h4 : e4 = 0
          · subst h4
            have HVR := Aside.mk (hy rfl)
            clear hy hn
            go_enter Try.func7, Try.ntmps7
            go_wp2_with (first
          | (go_at_call 8; have H0' := H0; refine (coded _).mono ?_; rintro e w1 ⟨rfl, hb⟩; have h1 := H0.out.step hb; have x0 := h1.cell 0; have x1 := h1.cell 1; have H1 := Aside.mk h1; clear h1 hb H0 H0')
          | (go_at_call 11; have H1' := H1; refine (In.light (HP.out.below H1.out.below)).mono ?_; rintro e w2 ⟨rfl, hb⟩; have h1 := H1.out.step hb; have x0 := h1.cell 0; have x1 := h1.cell 1; have H2 := Aside.mk h1; clear h1 hb H1 H1')
          | (go_at_call 12; have H2' := H2; refine (In.encode (HP.out.below H2.out.below)).mono ?_; rintro e w3 ⟨EB, d, rfl, hs⟩; have H10 := Aside.mk (H2.out.join hs); clear hs H2 H2')
          | (go_at_call 19; have H10' := H10; refine (dec_ rfl (Kd.C_below HBB.out H10.out.below) HBc.out HDEC.out).mono ?_; rintro e w11 ⟨K1, k1, K2, k2, rfl, hg, hb⟩; have h1 := H10.out.step hb; have HG11 := Aside.mk hg; have H11 := Aside.mk (h1.alloc #[.slice K1 ds.length k1, .slice K2 gs.length k2] 29); clear h1 hb hg H10 H10')
          | (go_at_call 12; have H11' := H11; have hg := HG11.out.below (below_alloc (Below.refl _ _) (.cells #[.slice K1 ds.length k1, .slice K2 gs.length k2] 29)); refine (hg.encode HVR.out.1 HVR.out.2).mono ?_; rintro e w12 ⟨P1, p1, rfl, hs⟩; have H12 := Aside.mk (H11.out.join hs); clear hs hg H11 H11' HG11)
          | (go_at_call 14; refine (bytes_same (row_reads H12.out).2 (row_cap H12.out) (Kd.C_below HBB.out H12.out.below) HBc.out HIS.out).mono ?_; rintro e w13 ⟨rfl, hb⟩; have H13 := Aside.mk (H12.out.step hb); clear hb))
            go_ret
            exact ⟨rfl, H13.out.below⟩
          · obtain ⟨rfl, rfl⟩ := hn h4
            have e4b : (e4 != 0) = true := by simpa using h4
            clear hy hn h4
            go_enter Try.func7, Try.ntmps7
            go_wp2_with (first
          | (go_at_call 8; have H0' := H0; refine (coded _).mono ?_; rintro e w1 ⟨rfl, hb⟩; have h1 := H0.out.step hb; have x0 := h1.cell 0; have x1 := h1.cell 1; have H1 := Aside.mk h1; clear h1 hb H0 H0')
          | (go_at_call 11; have H1' := H1; refine (In.light (HP.out.below H1.out.below)).mono ?_; rintro e w2 ⟨rfl, hb⟩; have h1 := H1.out.step hb; have x0 := h1.cell 0; have x1 := h1.cell 1; have H2 := Aside.mk h1; clear h1 hb H1 H1')
          | (go_at_call 12; have H2' := H2; refine (In.encode (HP.out.below H2.out.below)).mono ?_; rintro e w3 ⟨EB, d, rfl, hs⟩; have H10 := Aside.mk (H2.out.join hs); clear hs H2 H2')
          | (go_at_call 19; have H10' := H10; refine (dec_ rfl (Kd.C_below HBB.out H10.out.below) HBc.out HDEC.out).mono ?_; rintro e w11 ⟨K1, k1, K2, k2, rfl, hg, hb⟩; have h1 := H10.out.step hb; have HG11 := Aside.mk hg; have H11 := Aside.mk (h1.alloc #[.slice K1 ([] : List S42).length k1, .slice K2 ([] : List S48).length k2] 29); clear h1 hb hg H10 H10'))
            go_ret
            exact ⟨rfl, H11.out.below⟩
        · have e0b : ((encN cs fs).2 == 0) = false := by simpa using e0
          clear hblk e0
          by_cases h4 : e4 = 0
          · subst h4
            have HVR := Aside.mk (hy rfl)
            clear hy hn
            go_enter Try.func7, Try.ntmps7
            go_wp2_with (first
          | (go_at_call 8; have H0' := H0; refine (coded _).mono ?_; rintro e w1 ⟨rfl, hb⟩; have h1 := H0.out.step hb; have x0 := h1.cell 0; have x1 := h1.cell 1; have H1 := Aside.mk h1; clear h1 hb H0 H0')
          | (go_at_call 11; have H1' := H1; refine (In.light (HP.out.below H1.out.below)).mono ?_; rintro e w2 ⟨rfl, hb⟩; have h1 := H1.out.step hb; have x0 := h1.cell 0; have x1 := h1.cell 1; have H2 := Aside.mk h1; clear h1 hb H1 H1')
          | (go_at_call 12; have H2' := H2; refine (In.encode (HP.out.below H2.out.below)).mono ?_; rintro e w3 ⟨EB, d, rfl, hs⟩; have H10 := Aside.mk (H2.out.join hs); clear hs H2 H2')
          | (go_at_call 19; have H10' := H10; refine (dec_ rfl (Kd.C_below HBB.out H10.out.below) HBc.out HDEC.out).mono ?_; rintro e w11 ⟨K1, k1, K2, k2, rfl, hg, hb⟩; have h1 := H10.out.step hb; have HG11 := Aside.mk hg; have H11 := Aside.mk (h1.alloc #[.slice K1 ds.length k1, .slice K2 gs.length k2] 29); clear h1 hb hg H10 H10')
          | (go_at_call 12; have H11' := H11; have hg := HG11.out.below (below_alloc (Below.refl _ _) (.cells #[.slice K1 ds.length k1, .slice K2 gs.length k2] 29)); refine (hg.encode HVR.out.1 HVR.out.2).mono ?_; rintro e w12 ⟨P1, p1, rfl, hs⟩; have H12 := Aside.mk (H11.out.join hs); clear hs hg H11 H11' HG11)
          | (go_at_call 14; refine (bytes_same (row_reads H12.out).2 (row_cap H12.out) (Kd.C_below HBB.out H12.out.below) HBc.out HIS.out).mono ?_; rintro e w13 ⟨rfl, hb⟩; have H13 := Aside.mk (H12.out.step hb); clear hb))
            go_ret
            exact ⟨rfl, H13.out.below⟩
          · obtain ⟨rfl, rfl⟩ := hn h4
            have e4b : (e4 != 0) = true := by simpa using h4
            clear hy hn h4
            go_enter Try.func7, Try.ntmps7
            go_wp2_with (first
          | (go_at_call 8; have H0' := H0; refine (coded _).mono ?_; rintro e w1 ⟨rfl, hb⟩; have h1 := H0.out.step hb; have x0 := h1.cell 0; have x1 := h1.cell 1; have H1 := Aside.mk h1; clear h1 hb H0 H0')
          | (go_at_call 11; have H1' := H1; refine (In.light (HP.out.below H1.out.below)).mono ?_; rintro e w2 ⟨rfl, hb⟩; have h1 := H1.out.step hb; have x0 := h1.cell 0; have x1 := h1.cell 1; have H2 := Aside.mk h1; clear h1 hb H1 H1')
          | (go_at_call 12; have H2' := H2; refine (In.encode (HP.out.below H2.out.below)).mono ?_; rintro e w3 ⟨EB, d, rfl, hs⟩; have H10 := Aside.mk (H2.out.join hs); clear hs H2 H2')
          | (go_at_call 19; have H10' := H10; refine (dec_ rfl (Kd.C_below HBB.out H10.out.below) HBc.out HDEC.out).mono ?_; rintro e w11 ⟨K1, k1, K2, k2, rfl, hg, hb⟩; have h1 := H10.out.step hb; have HG11 := Aside.mk hg; have H11 := Aside.mk (h1.alloc #[.slice K1 ([] : List S42).length k1, .slice K2 ([] : List S48).length k2] 29); clear h1 hb hg H10 H10'))
            go_ret
            exact ⟨rfl, H11.out.below⟩
  · have lp1 : lightP cs fs = false := by simpa using lp
    go_enter Try.func7, Try.ntmps7
    go_wp2_with (first
          | (go_at_call 8; have H0' := H0; refine (coded _).mono ?_; rintro e w1 ⟨rfl, hb⟩; have h1 := H0.out.step hb; have x0 := h1.cell 0; have x1 := h1.cell 1; have H1 := Aside.mk h1; clear h1 hb H0 H0')
          | (go_at_call 11; have H1' := H1; refine (In.light (HP.out.below H1.out.below)).mono ?_; rintro e w2 ⟨rfl, hb⟩; have h1 := H1.out.step hb; have x0 := h1.cell 0; have x1 := h1.cell 1; have H2 := Aside.mk h1; clear h1 hb H1 H1')
          | (go_at_call 8; refine (coded _).mono ?_; rintro e w9 ⟨rfl, hb⟩; have H9 := Aside.mk (H2.out.step hb); clear hb))
    go_ret
    exact ⟨rfl, H9.out.below⟩
end Go.Proofs.Ytakpdmkfengghaa.Wr
end
section
namespace Go.Proofs.Ytakpdmkfengghaa.Open
open Go Go.RowKit Go.Proofs.YtakpdmkfengghaaW.PrintWords Go.Proofs.Ytakpdmkfengghaa.Q Go.Proofs.Ytakpdmkfengghaa.Wr
theorem wf_u8 {n : Int} (h : (Lit.int .u8 n).wf = true) : 0 ≤ n ∧ n < 256 := by
  simp only [Lit.wf, Bool.and_eq_true, decide_eq_true_eq] at h
  have h2 : (0 : Int) ≤ n ∧ n ≤ 255 := h
  omega
theorem o31 : Opens Try.prog 31 (Kd.slice 5 (Kd.int .u8)) isB := opens_slice Try.underlying31 (by kernel_rfl) (opens_imp (opens_int Try.underlying5) fun _ h => wf_u8 h)
theorem bytes_of {W : World} {a : List Int} {A : Option Addr} {n c : Nat} (hK : (Kd.slice 5 (Kd.int .u8)).K W a [.slice A n c]) : n = a.length ∧ a.length ≤ c ∧ Kd.C (Kd.int .u8) W A a.length a := by
  obtain ⟨A1, c1, he, l1, g1⟩ := hK
  injection he with he _
  injection he with e1 e2 e3
  subst e1; subst e3
  exact ⟨e2, l1, g1⟩
end Go.Proofs.Ytakpdmkfengghaa.Open
end
