/- A copy is the same, and shares nothing: the statement's walk. Conditions: programs of few parts. -/
import Derived.Test.YtakpdmkfengghaaCp1
import Derived.Test.YtakpdmkfengghaaIn1
import Derived.StillTailTactics
import Derived.Below
import Derived.Deep.Draws
import Derived.Deep.AppendLies
import Derived.Maps.AppendAt
import Derived.OwnWalk
import Derived.Laws.BytesArg
import Derived.Laws.MakeOwn
import Derived.Laws.OwnMore
import Derived.Deep.OwnRows
import Derived.Tactics
import Derived.Lib.ConvBytes
import Derived.Laws.Slices
import Derived.WalkKit
import Derived.KernelRfl
import Derived.RowKit3
import Derived.Deep.LoopGhost
import Derived.Deep.QuietTactic
import Derived.BigQuiet
import Derived.WideLaws
import Derived.Deep.DeepCutAuto
import Derived.Deep.CutBlock
import Derived.Deep.RegionHeld3
import Derived.Laws.Rows
import Derived.Lib.AppendStr
import Derived.ArgAppend
import Derived.Laws.IdiomCopy
import Derived.OrdersHeld
import Derived.Laws.BitsLemmas
import Derived.RowKit
import Derived.Lib.SlBytesConst
namespace Go.Proofs.Ytakpdmkfengghaa.Wr
open Go Go.RowKit Go.Proofs.Ytakpdmkfengghaa.Sep Go.Proofs.YtakpdmkfengghaaW.PrintWords Go.Proofs.YtakpdmkfengghaaW.PrintLast Go.Proofs.YtakpdmkfengghaaW.PrintMore Go.Proofs.Ytakpdmkfengghaa.Q Go.Proofs.Ytakpdmkfengghaa.Pe
set_option linter.unusedVariables false
set_option linter.unusedSimpArgs false
/-- An own row, its blocks being as they were. -/
theorem R_keep_ {α : Type} {d : Kd α} {e : Nat} {w3 w' : World} {base : Nat} {v : Value} {xs : List α} (h : d.R e w3 base (fun _ => True) v xs) (hs : ∀ k, base ≤ k → k < w3.heap.size → w'.heap[k]? = w3.heap[k]?) : d.R e w' base (fun _ => True) v xs :=
  Kd.R_mono (Kd.R_move (Kd.R_bound h) (fun k hk => hs k hk.2.1 hk.2.2.1)) (fun _ _ => trivial)
theorem In.of_R {w : World} {b : Nat} {B1 : Option Addr} {d1 : Nat} {B2 : Option Addr} {d2 : Nat} {cs : List S42} {fs : List S48} (h0 : k42.R 42 w b (fun _ => True) (.slice B1 cs.length d1) cs) (h1 : k48.R 48 w b (fun _ => True) (.slice B2 fs.length d2) fs) (hw : wfP cs fs) : In w B1 d1 B2 d2 cs fs := by
  have g0 := Kd.R_reads' h0
  have g1 := Kd.R_reads' h1
  exact ⟨g0.2.2, g0.2.1, g1.2.2, g1.2.1, hw⟩
/-- A copy: its rows are of the blocks b .. of w3. -/
structure Cop (w3 : World) (b : Nat) (B1 : Option Addr) (d1 : Nat) (B2 : Option Addr) (d2 : Nat) (cs : List S42) (fs : List S48) : Prop where
  r0 : k42.R 42 w3 b (fun _ => True) (.slice B1 cs.length d1) cs
  r1 : k48.R 48 w3 b (fun _ => True) (.slice B2 fs.length d2) fs
theorem Cop.in_ {w3 w' w0 : World} {L : List HP} {b : Nat} {B1 : Option Addr} {d1 : Nat} {B2 : Option Addr} {d2 : Nat} {cs : List S42} {fs : List S48} (h : Cop w3 b B1 d1 B2 d2 cs fs) (hs : St w0 w' (snap w3 b w3.heap.size :: L)) (hw : wfP cs fs) : In w' B1 d1 B2 d2 cs fs :=
  In.of_R (R_keep_ h.r0 hs.snap_same.2) (R_keep_ h.r1 hs.snap_same.2) hw
theorem In.classes {w : World} {A1 : Option Addr} {c1 : Nat} {A2 : Option Addr} {c2 : Nat} {cs : List S42} {fs : List S48} (h : In w A1 c1 A2 c2 cs fs) {B1 : Option Addr} {d1 : Nat} {B2 : Option Addr} {d2 : Nat} {cs' : List S42} {fs' : List S48} (h' : In w B1 d1 B2 d2 cs' fs') :
    Calls Try.prog 17 #[.slice A1 cs.length c1, .slice B1 cs'.length d1] w fun e w' => e = .returned (.bool (decide (cs = cs'))) ∧ Below w.heap.size w w' := by
  obtain ⟨k, hk⟩ := Evt_at (classes_ref cs cs' (Kd.C_max h.r1) (lC_of h.r1))
  exact windrowref10_Same.calls k A1 c1 cs B1 d1 cs' _ w h.r1 h.l1 h'.r1 h'.l1 hk
/-- The cells that hold slices, in the rows of classes and functions. -/
def kp (e : TypeId) (j : Nat) : Prop := (e = 42 ∧ j % 2 = 1) ∨ (e = 48 ∧ j % 5 ≠ 0)
abbrev R5 (w w3 w4 : World) (n : Nat) (A1 : Option Addr) (c1 : Nat) (A2 : Option Addr) (c2 : Nat) (B1 : Option Addr) (d1 : Nat) (B2 : Option Addr) (d2 : Nat) (E1 : Option Addr) (k1 : Nat) (E2 : Option Addr) (k2 : Nat) (cs : List S42) (fs : List S48) : List HP :=
  [blk w4.heap.size #[.slice E1 cs.length k1, .slice E2 fs.length k2] 29, snap w4 n w4.heap.size, blk w3.heap.size #[.slice B1 cs.length d1, .slice B2 fs.length d2] 29, blk w.heap.size #[.slice A1 cs.length c1, .slice A2 fs.length c2] 29]
set_option maxHeartbeats 8000000 in
set_option maxRecDepth 100000 in
theorem law_copies (A1 : Option Addr) (c1 : Nat) (A2 : Option Addr) (c2 : Nat) (cs : List S42) (fs : List S48) (w : World) (hp : In w A1 c1 A2 c2 cs fs) :
    Calls Try.prog 5 #[.agg #[.slice A1 cs.length c1, .slice A2 fs.length c2]] w fun en w' => en = .returned (.bool true) ∧ Below w.heap.size w w' := by
  have HP := Aside.mk hp
  have H0 : Aside (St w (w.alloc (.cells #[.slice A1 cs.length c1, .slice A2 fs.length c2] 29)) (blk w.heap.size #[.slice A1 cs.length c1, .slice A2 fs.length c2] 29 :: [])) := ⟨(St.start w).alloc _ _⟩
  clear hp
  by_cases lp : lightP cs fs = true
  · have LP := Aside.mk lp
    have hss : decide (cs = cs ∧ fs = fs) = true := decide_eq_true ⟨rfl, rfl⟩
    go_enter Try.func5, Try.ntmps5
    go_upto_block 0 with (first
      | (go_at_call 8; refine (coded _).mono ?_; rintro e w1 ⟨rfl, hb⟩; have h1 := H0.out.step hb; have x0 := h1.cell 0; have x1 := h1.cell 1; have H1 := Aside.mk h1; clear h1 hb H0)
      | (go_at_call 11; refine (In.light (HP.out.below H1.out.below)).mono ?_; rintro e w2 ⟨rfl, hb⟩; have h1 := H1.out.step hb; have x0 := h1.cell 0; have x1 := h1.cell 1; have H2 := Aside.mk h1; clear h1 hb H1)
      | (go_at_call 15; have H2' := H2; refine (In.copy (HP.out.below H2.out.below) LP.out).mono ?_; rintro e w3 ⟨B1, d1, B2, d2, rfl, hin, hr0, hr1, hb⟩; have h1 : St w w3 _ := H2.out.join (St.of_call hb); have x0 := (h1.pick 1 rfl).cell 0; have x1 := (h1.pick 1 rfl).cell 1; have lx := World.block_lt_of_cell? _ _ x0; have hc : Cop w3 w2.heap.size B1 d1 B2 d2 cs fs := ⟨hr0, hr1⟩; have HQ := Aside.mk hc; have H3 := Aside.mk (h1.alloc #[.slice B1 cs.length d1, .slice B2 fs.length d2] 29); clear h1 hb hr0 hr1 hin hc H2 H2')
      | (go_at_call 15; go_loud (refine (In.copy (HQ.out.in_ (H3.out.pick 1 rfl) HP.out.wf) LP.out).mono ?_); rintro e w4 ⟨E1, k1, E2, k2, rfl, hin, hr0, hr1, hb⟩; have h1 : St w w4 _ := H3.out.join (St.of_call hb); have x0 := (h1.pick 3 rfl).cell 0; have x1 := (h1.pick 3 rfl).cell 1; have x2 := (h1.pick 1 rfl).cell 0; have x3 := (h1.pick 1 rfl).cell 1; have lx := World.block_lt_of_cell? _ _ x0; have lx2 := World.block_lt_of_cell? _ _ x2; have hc : Cop w4 _ E1 k1 E2 k2 cs fs := ⟨hr0, hr1⟩; have HR := Aside.mk hc; have H4 := Aside.mk (h1.alloc #[.slice E1 cs.length k1, .slice E2 fs.length k2] 29); clear h1 hb hr0 hr1 hin hc H3)
      | (go_at_call 16; go_loud (refine (In.same (HP.out.below H4.out.below) (HQ.out.in_ (H4.out.pick 3 rfl) HP.out.wf)).mono ?_); rintro e w5 ⟨rfl, hb⟩; have h1 := H4.out.step hb; have x0 := (h1.pick 4 rfl).cell 0; have x1 := (h1.pick 4 rfl).cell 1; have x2 := (h1.pick 2 rfl).cell 0; have x3 := (h1.pick 2 rfl).cell 1; have x4 := h1.cell 0; have x5 := h1.cell 1; have H5 := Aside.mk h1; clear h1 hb H4))
    obtain ⟨N1, hN1⟩ : ∃ n, n = w2.heap.size := ⟨_, rfl⟩
    rw [← hN1] at HQ H5
    obtain ⟨N3, hN3⟩ : ∃ n, n = (w3.alloc (.cells #[.slice B1 cs.length d1, .slice B2 fs.length d2] 29)).heap.size := ⟨_, rfl⟩
    rw [← hN3] at HR H5
    clear hN1 hN3
    have h6 := ((H5.out.pick 3 rfl).to_mut kp)
    have H6 : Wr.Aside (St w w5 (wrtn kp w3 N1 w3.heap.size :: R5 w w3 w4 N3 A1 c1 A2 c2 B1 d1 B2 d2 E1 k1 E2 k2 cs fs)) := ⟨h6.perm (.cons _ (.refl _))⟩
    clear h6 H5 x0 x1 x2 x3 x4 x5 lx lx2
    have hlm1 := Kd.C_max HP.out.r1
    have hlm2 := Kd.C_max HP.out.r2
    go_cut [5] (fun v5 wc => Wr.Aside (St w wc (wrtn kp w3 N1 w3.heap.size :: R5 w w3 w4 N3 A1 c1 A2 c2 B1 d1 B2 d2 E1 k1 E2 k2 cs fs)))
    case first =>
      go_wp2_with fail
      go_loopg [5] (cs.length) (fun m v5 w' => ∃ i : Nat, m = cs.length - i ∧ i ≤ cs.length ∧ v5 = .int .i64 i ∧ Wr.Aside (St w w' (wrtn kp w3 N1 w3.heap.size :: R5 w w3 w4 N3 A1 c1 A2 c2 B1 d1 B2 d2 E1 k1 E2 k2 cs fs)))
      case atStart => exact ⟨0, rfl, Nat.zero_le _, rfl, H6⟩
      case round =>
        clear H6
        obtain ⟨i, rfl, hi, rfl, H⟩ := hrel
        have x2 := (H.out.pick 3 rfl).cell 0
        have x3 := (H.out.pick 3 rfl).cell 1
        by_cases hlt : i < cs.length
        · obtain ⟨g, cg, cur, hB, hg1, hg, hgs, cells, hM, hcells⟩ := R_at HQ.out.r0 i hlt
          obtain ⟨v1, rfl, hF⟩ := k42_openM hM
          obtain ⟨F1, cF, rfl⟩ := Kd.R_slice hF
          injection hB with hB _ hBd
          subst hB
          subst hBd
          have hg2 := size_of_some hg
          have hsz : k42.sz = 2 := rfl
          rw [hsz] at hgs hcells
          have hh := H.out.mut_cell hg1 hg2 hg (i * 2 + 1) (by omega)
          have y1 : wr.cell? ⟨g, i * 2 + 1, none⟩ = some (.slice F1 cs[i].f1.length cF) := (hh.2.1 (.inl ⟨rfl, by omega⟩)).trans (hcells 1 _ rfl)
          have HF := Aside.mk hF
          have HG := Aside.mk hg
          have YC : Wr.Aside (cur[i * 2 + 1]? = some (.slice F1 cs[i].f1.length cF)) := ⟨hcells 1 _ rfl⟩
          clear hh hM hF hcells
          have hfm := HP.out.wf
          have hlf : cs[i].f1.length ≤ 9223372036854775807 := Kd.C_max (Kd.R_reads' HF.out).2.2
          generalize hx : cs[i] = x at HF y1 hlf YC
          clear hx hfm
          go_upto_block 2 with fail
          go_cut [6] (fun v6 wc => Wr.Aside (St w wc (wrtn kp w3 N1 w3.heap.size :: R5 w w3 w4 N3 A1 c1 A2 c2 (some ⟨g, 0, none⟩) d1 B2 d2 E1 k1 E2 k2 cs fs)))
          case first =>
            go_wp2_with fail
            go_loopg [6] (x.f1.length) (fun m v6 w' => ∃ k : Nat, m = x.f1.length - k ∧ k ≤ x.f1.length ∧ v6 = .int .i64 k ∧ Wr.Aside (St w w' (wrtn kp w3 N1 w3.heap.size :: R5 w w3 w4 N3 A1 c1 A2 c2 (some ⟨g, 0, none⟩) d1 B2 d2 E1 k1 E2 k2 cs fs)))
            case atStart => exact ⟨0, rfl, Nat.zero_le _, rfl, H⟩
            case round =>
              clear H x2 x3 y1
              obtain ⟨k, rfl, hk, rfl, H⟩ := hrel
              have x2 := (H.out.pick 3 rfl).cell 0
              have x3 := (H.out.pick 3 rfl).cell 1
              have hh := H.out.mut_cell hg1 hg2 HG.out (i * 2 + 1) (by omega)
              have y1 : wr.cell? ⟨g, i * 2 + 1, none⟩ = some (.slice F1 x.f1.length cF) := (hh.2.1 (.inl ⟨rfl, by omega⟩)).trans YC.out
              clear hh
              by_cases hlk : k < x.f1.length
              · obtain ⟨g2, cg2, cur2, hF1, hh1, hh2, hh3, _⟩ := R_at HF.out k hlk
                injection hF1 with hF1 _ hFd
                subst hF1
                subst hFd
                have hsz4 : k44.sz = 2 := rfl
                rw [hsz4] at hh3
                have hh4 := size_of_some hh2
                obtain ⟨⟨z0, q0⟩, _, fr0⟩ := H.out.mut_cell hh1 hh4 hh2 (k * 2) (by omega)
                obtain ⟨⟨z1, q1⟩, _, fr1⟩ := H.out.mut_cell hh1 hh4 hh2 (k * 2 + 1) (by omega)
                have fr2 : w3.frozen? ⟨g2, k * 2, none⟩ = false := by simp [World.frozen?, hh2]
                have fr3 : w3.frozen? ⟨g2, k * 2 + 1, none⟩ = false := by simp [World.frozen?, hh2]
                rw [fr2] at fr0
                rw [fr3] at fr1
                have hn0 : ¬ kp 44 (k * 2) := by rintro (⟨h, _⟩ | ⟨h, _⟩) <;> exact absurd h (by decide)
                have hn1 : ¬ kp 44 (k * 2 + 1) := by rintro (⟨h, _⟩ | ⟨h, _⟩) <;> exact absurd h (by decide)
                have hS := Aside.mk ((H.out.mut_set hh1 hh4 hh2 (k * 2) hn0 (.string ⟨#[]⟩)).mut_set hh1 hh4 hh2 (k * 2 + 1) hn1 (.int .i64 0))
                clear fr2 fr3 hn0 hn1 hh1 hh2 hh3 hh4
                go_wp2
                go_roundg (x.f1.length - (k + 1))
                case measure => omega
                case rel => exact ⟨k + 1, rfl, by omega, by go_num, hS⟩
              · go_wp2
                go_meet
                case rel => exact H
          case rest =>
            have H9 := hcut
            clear H x2 x3 y1 hcut
            have H := H9
            clear H9
            have x2 := (H.out.pick 3 rfl).cell 0
            have x3 := (H.out.pick 3 rfl).cell 1
            obtain ⟨⟨z0, q0⟩, _, fr0⟩ := H.out.mut_cell hg1 hg2 HG.out (i * 2) (by omega)
            have fr2 : w3.frozen? ⟨g, i * 2, none⟩ = false := by simp [World.frozen?, HG.out]
            rw [fr2] at fr0
            have hn0 : ¬ kp 42 (i * 2) := by
              rintro (⟨_, h⟩ | ⟨h, _⟩)
              · omega
              · exact absurd h (by decide)
            have hS := Aside.mk (H.out.mut_set hg1 hg2 HG.out (i * 2) hn0 (.string ⟨#[33]⟩))
            clear fr2 hn0
            go_wp2
            go_roundg (cs.length - (i + 1))
            case measure => omega
            case rel => exact ⟨i + 1, rfl, by omega, by go_num, hS⟩
        · go_wp2
          go_meet
          case rel => exact H
    case rest =>
      have H9 := hcut
      clear H6 hcut
      have H := H9
      clear H9
      have x2 := (H.out.pick 3 rfl).cell 0
      have x3 := (H.out.pick 3 rfl).cell 1
      go_upto_block 4 with fail
      go_cut [7] (fun v7 wc => Wr.Aside (St w wc (wrtn kp w3 N1 w3.heap.size :: R5 w w3 w4 N3 A1 c1 A2 c2 B1 d1 B2 d2 E1 k1 E2 k2 cs fs)))
      case first =>
        go_wp2_with fail
        go_loopg [7] (fs.length) (fun m v7 w' => ∃ i : Nat, m = fs.length - i ∧ i ≤ fs.length ∧ v7 = .int .i64 i ∧ Wr.Aside (St w w' (wrtn kp w3 N1 w3.heap.size :: R5 w w3 w4 N3 A1 c1 A2 c2 B1 d1 B2 d2 E1 k1 E2 k2 cs fs)))
        case atStart => exact ⟨0, rfl, Nat.zero_le _, rfl, H⟩
        case round =>
          clear H x2 x3
          obtain ⟨i, rfl, hi, rfl, H⟩ := hrel
          have x2 := (H.out.pick 3 rfl).cell 0
          have x3 := (H.out.pick 3 rfl).cell 1
          by_cases hlt : i < fs.length
          · obtain ⟨g, cg, cur, hB, hg1, hg, hgs, cells, hM, hcells⟩ := R_at HQ.out.r1 i hlt
            obtain ⟨v1, v3, v4, rfl, hF1, hF3, hF4⟩ := k48_openM hM
            obtain ⟨G1, e1, rfl⟩ := Kd.R_slice hF1
            obtain ⟨G3, e3, rfl⟩ := Kd.R_slice hF3
            obtain ⟨G4, e4, rfl⟩ := Kd.R_slice hF4
            injection hB with hB _ hBd
            subst hB
            subst hBd
            have hg2 := size_of_some hg
            have hsz : k48.sz = 5 := rfl
            rw [hsz] at hgs hcells
            have hh1 := H.out.mut_cell hg1 hg2 hg (i * 5 + 1) (by omega)
            have y1 : wr.cell? ⟨g, i * 5 + 1, none⟩ = some (.slice G1 fs[i].f1.length e1) := (hh1.2.1 (.inr ⟨rfl, by omega⟩)).trans (hcells 1 _ rfl)
            have hh3 := H.out.mut_cell hg1 hg2 hg (i * 5 + 3) (by omega)
            have y3 : wr.cell? ⟨g, i * 5 + 3, none⟩ = some (.slice G3 fs[i].f3.length e3) := (hh3.2.1 (.inr ⟨rfl, by omega⟩)).trans (hcells 3 _ rfl)
            have hh4 := H.out.mut_cell hg1 hg2 hg (i * 5 + 4) (by omega)
            have y4 : wr.cell? ⟨g, i * 5 + 4, none⟩ = some (.slice G4 fs[i].f4.length e4) := (hh4.2.1 (.inr ⟨rfl, by omega⟩)).trans (hcells 4 _ rfl)
            have HF1 := Aside.mk hF1
            have HF3 := Aside.mk hF3
            have HF4 := Aside.mk hF4
            have HG := Aside.mk hg
            have YC1 : Wr.Aside (cur[i * 5 + 1]? = some (.slice G1 fs[i].f1.length e1)) := ⟨hcells 1 _ rfl⟩
            have YC3 : Wr.Aside (cur[i * 5 + 3]? = some (.slice G3 fs[i].f3.length e3)) := ⟨hcells 3 _ rfl⟩
            have YC4 : Wr.Aside (cur[i * 5 + 4]? = some (.slice G4 fs[i].f4.length e4)) := ⟨hcells 4 _ rfl⟩
            clear hh1 hh3 hh4 hM hF1 hF3 hF4 hcells
            have hl1 : fs[i].f1.length ≤ 9223372036854775807 := Kd.C_max (Kd.R_reads' HF1.out).2.2
            have hl3 : fs[i].f3.length ≤ 9223372036854775807 := Kd.C_max (Kd.R_reads' HF3.out).2.2
            have hl4 : fs[i].f4.length ≤ 9223372036854775807 := Kd.C_max (Kd.R_reads' HF4.out).2.2
            generalize hx : fs[i] = x at HF1 HF3 HF4 y1 y3 y4 hl1 hl3 hl4 YC1 YC3 YC4
            clear hx
            go_upto_block 6 with fail
            go_cut [8] (fun v8 wc => Wr.Aside (St w wc (wrtn kp w3 N1 w3.heap.size :: R5 w w3 w4 N3 A1 c1 A2 c2 B1 d1 (some ⟨g, 0, none⟩) d2 E1 k1 E2 k2 cs fs)))
            case first =>
              go_wp2_with fail
              go_loopg [8] (x.f4.length) (fun m v8 w' => ∃ k : Nat, m = x.f4.length - k ∧ k ≤ x.f4.length ∧ v8 = .int .i64 k ∧ Wr.Aside (St w w' (wrtn kp w3 N1 w3.heap.size :: R5 w w3 w4 N3 A1 c1 A2 c2 B1 d1 (some ⟨g, 0, none⟩) d2 E1 k1 E2 k2 cs fs)))
              case atStart => exact ⟨0, rfl, Nat.zero_le _, rfl, H⟩
              case round =>
                clear H x2 x3 y1 y3 y4
                obtain ⟨k, rfl, hk, rfl, H⟩ := hrel
                have x2 := (H.out.pick 3 rfl).cell 0
                have x3 := (H.out.pick 3 rfl).cell 1
                have hh := H.out.mut_cell hg1 hg2 HG.out (i * 5 + 4) (by omega)
                have y4 : wr.cell? ⟨g, i * 5 + 4, none⟩ = some (.slice G4 x.f4.length e4) := (hh.2.1 (.inr ⟨rfl, by omega⟩)).trans YC4.out
                clear hh
                by_cases hlk : k < x.f4.length
                · obtain ⟨g2, cg2, cur2, hF1, hh1, hh2, hh3, _⟩ := R_at HF4.out k hlk
                  injection hF1 with hF1 _ hFd
                  subst hF1
                  subst hFd
                  have hsz4 : k23.sz = 3 := rfl
                  rw [hsz4] at hh3
                  have hh4 := size_of_some hh2
                  obtain ⟨⟨z0, q0⟩, _, fr0⟩ := H.out.mut_cell hh1 hh4 hh2 (k * 3) (by omega)
                  have ff0 : w3.frozen? ⟨g2, k * 3, none⟩ = false := by simp [World.frozen?, hh2]
                  rw [ff0] at fr0
                  have hn0 : ¬ kp 23 (k * 3) := by rintro (⟨h, _⟩ | ⟨h, _⟩) <;> exact absurd h (by decide)
                  obtain ⟨⟨z1, q1⟩, _, fr1⟩ := H.out.mut_cell hh1 hh4 hh2 (k * 3 + 1) (by omega)
                  have ff1 : w3.frozen? ⟨g2, k * 3 + 1, none⟩ = false := by simp [World.frozen?, hh2]
                  rw [ff1] at fr1
                  have hn1 : ¬ kp 23 (k * 3 + 1) := by rintro (⟨h, _⟩ | ⟨h, _⟩) <;> exact absurd h (by decide)
                  obtain ⟨⟨z2, q2⟩, _, fr2⟩ := H.out.mut_cell hh1 hh4 hh2 (k * 3 + 2) (by omega)
                  have ff2 : w3.frozen? ⟨g2, k * 3 + 2, none⟩ = false := by simp [World.frozen?, hh2]
                  rw [ff2] at fr2
                  have hn2 : ¬ kp 23 (k * 3 + 2) := by rintro (⟨h, _⟩ | ⟨h, _⟩) <;> exact absurd h (by decide)
                  have hS := Aside.mk (((H.out.mut_set hh1 hh4 hh2 (k * 3) hn0 (.int .i64 (-1))).mut_set hh1 hh4 hh2 (k * 3 + 1) hn1 (.int .i64 0)).mut_set hh1 hh4 hh2 (k * 3 + 2) hn2 (.int .i64 0))
                  clear ff0 hn0 ff1 hn1 ff2 hn2 hh1 hh2 hh3 hh4
                  go_wp2
                  go_roundg (x.f4.length - (k + 1))
                  case measure => omega
                  case rel => exact ⟨k + 1, rfl, by omega, by go_num, hS⟩
                · go_wp2
                  go_meet
                  case rel => exact H
            case rest =>
              have H9 := hcut
              clear H x2 x3 y1 y3 y4 hcut
              have H := H9
              clear H9
              have x2 := (H.out.pick 3 rfl).cell 0
              have x3 := (H.out.pick 3 rfl).cell 1
              have hh1 := H.out.mut_cell hg1 hg2 HG.out (i * 5 + 1) (by omega)
              have y1 := (hh1.2.1 (.inr ⟨rfl, by omega⟩)).trans YC1.out
              clear hh1
              have hh3 := H.out.mut_cell hg1 hg2 HG.out (i * 5 + 3) (by omega)
              have y3 := (hh3.2.1 (.inr ⟨rfl, by omega⟩)).trans YC3.out
              clear hh3
              have hh4 := H.out.mut_cell hg1 hg2 HG.out (i * 5 + 4) (by omega)
              have y4 := (hh4.2.1 (.inr ⟨rfl, by omega⟩)).trans YC4.out
              clear hh4
              go_upto_block 8 with fail
              go_cut [9] (fun v9 wc => Wr.Aside (St w wc (wrtn kp w3 N1 w3.heap.size :: R5 w w3 w4 N3 A1 c1 A2 c2 B1 d1 (some ⟨g, 0, none⟩) d2 E1 k1 E2 k2 cs fs)))
              case first =>
                go_wp2_with fail
                go_loopg [9] (x.f1.length) (fun m v9 w' => ∃ k : Nat, m = x.f1.length - k ∧ k ≤ x.f1.length ∧ v9 = .int .i64 k ∧ Wr.Aside (St w w' (wrtn kp w3 N1 w3.heap.size :: R5 w w3 w4 N3 A1 c1 A2 c2 B1 d1 (some ⟨g, 0, none⟩) d2 E1 k1 E2 k2 cs fs)))
                case atStart => exact ⟨0, rfl, Nat.zero_le _, rfl, H⟩
                case round =>
                  clear H x2 x3 y1 y3 y4
                  obtain ⟨k, rfl, hk, rfl, H⟩ := hrel
                  have x2 := (H.out.pick 3 rfl).cell 0
                  have x3 := (H.out.pick 3 rfl).cell 1
                  have hh := H.out.mut_cell hg1 hg2 HG.out (i * 5 + 1) (by omega)
                  have y1 : wr.cell? ⟨g, i * 5 + 1, none⟩ = some (.slice G1 x.f1.length e1) := (hh.2.1 (.inr ⟨rfl, by omega⟩)).trans YC1.out
                  clear hh
                  by_cases hlk : k < x.f1.length
                  · obtain ⟨g2, cg2, cur2, hF1, hh1, hh2, hh3, _⟩ := R_at HF1.out k hlk
                    injection hF1 with hF1 _ hFd
                    subst hF1
                    subst hFd
                    have hsz4 : (Kd.int .i64).sz = 1 := rfl
                    rw [hsz4] at hh3
                    have hh4 := size_of_some hh2
                    obtain ⟨⟨z0, q0⟩, _, fr0⟩ := H.out.mut_cell hh1 hh4 hh2 (k) (by omega)
                    have ff0 : w3.frozen? ⟨g2, k, none⟩ = false := by simp [World.frozen?, hh2]
                    rw [ff0] at fr0
                    have hn0 : ¬ kp 3 (k) := by rintro (⟨h, _⟩ | ⟨h, _⟩) <;> exact absurd h (by decide)
                    have hS := Aside.mk (H.out.mut_set hh1 hh4 hh2 (k) hn0 (.int .i64 (-1)))
                    clear ff0 hn0 hh1 hh2 hh3 hh4
                    go_wp2
                    go_roundg (x.f1.length - (k + 1))
                    case measure => omega
                    case rel => exact ⟨k + 1, rfl, by omega, by go_num, hS⟩
                  · go_wp2
                    go_meet
                    case rel => exact H
              case rest =>
                have H9 := hcut
                clear H x2 x3 y1 y3 y4 hcut
                have H := H9
                clear H9
                have x2 := (H.out.pick 3 rfl).cell 0
                have x3 := (H.out.pick 3 rfl).cell 1
                have hh1 := H.out.mut_cell hg1 hg2 HG.out (i * 5 + 1) (by omega)
                have y1 := (hh1.2.1 (.inr ⟨rfl, by omega⟩)).trans YC1.out
                clear hh1
                have hh3 := H.out.mut_cell hg1 hg2 HG.out (i * 5 + 3) (by omega)
                have y3 := (hh3.2.1 (.inr ⟨rfl, by omega⟩)).trans YC3.out
                clear hh3
                have hh4 := H.out.mut_cell hg1 hg2 HG.out (i * 5 + 4) (by omega)
                have y4 := (hh4.2.1 (.inr ⟨rfl, by omega⟩)).trans YC4.out
                clear hh4
                go_upto_block 10 with fail
                go_cut [10] (fun v10 wc => Wr.Aside (St w wc (wrtn kp w3 N1 w3.heap.size :: R5 w w3 w4 N3 A1 c1 A2 c2 B1 d1 (some ⟨g, 0, none⟩) d2 E1 k1 E2 k2 cs fs)))
                case first =>
                  go_wp2_with fail
                  go_loopg [10] (x.f3.length) (fun m v10 w' => ∃ k : Nat, m = x.f3.length - k ∧ k ≤ x.f3.length ∧ v10 = .int .i64 k ∧ Wr.Aside (St w w' (wrtn kp w3 N1 w3.heap.size :: R5 w w3 w4 N3 A1 c1 A2 c2 B1 d1 (some ⟨g, 0, none⟩) d2 E1 k1 E2 k2 cs fs)))
                  case atStart => exact ⟨0, rfl, Nat.zero_le _, rfl, H⟩
                  case round =>
                    clear H x2 x3 y1 y3 y4
                    obtain ⟨k, rfl, hk, rfl, H⟩ := hrel
                    have x2 := (H.out.pick 3 rfl).cell 0
                    have x3 := (H.out.pick 3 rfl).cell 1
                    have hh := H.out.mut_cell hg1 hg2 HG.out (i * 5 + 3) (by omega)
                    have y3 : wr.cell? ⟨g, i * 5 + 3, none⟩ = some (.slice G3 x.f3.length e3) := (hh.2.1 (.inr ⟨rfl, by omega⟩)).trans YC3.out
                    clear hh
                    by_cases hlk : k < x.f3.length
                    · obtain ⟨g2, cg2, cur2, hF1, hh1, hh2, hh3, _⟩ := R_at HF3.out k hlk
                      injection hF1 with hF1 _ hFd
                      subst hF1
                      subst hFd
                      have hsz4 : (Kd.int .i64).sz = 1 := rfl
                      rw [hsz4] at hh3
                      have hh4 := size_of_some hh2
                      obtain ⟨⟨z0, q0⟩, _, fr0⟩ := H.out.mut_cell hh1 hh4 hh2 (k) (by omega)
                      have ff0 : w3.frozen? ⟨g2, k, none⟩ = false := by simp [World.frozen?, hh2]
                      rw [ff0] at fr0
                      have hn0 : ¬ kp 3 (k) := by rintro (⟨h, _⟩ | ⟨h, _⟩) <;> exact absurd h (by decide)
                      have hS := Aside.mk (H.out.mut_set hh1 hh4 hh2 (k) hn0 (.int .i64 (-1)))
                      clear ff0 hn0 hh1 hh2 hh3 hh4
                      go_wp2
                      go_roundg (x.f3.length - (k + 1))
                      case measure => omega
                      case rel => exact ⟨k + 1, rfl, by omega, by go_num, hS⟩
                    · go_wp2
                      go_meet
                      case rel => exact H
                case rest =>
                  have H9 := hcut
                  clear H x2 x3 y1 y3 y4 hcut
                  have H := H9
                  clear H9
                  have x2 := (H.out.pick 3 rfl).cell 0
                  have x3 := (H.out.pick 3 rfl).cell 1
                  have hh1 := H.out.mut_cell hg1 hg2 HG.out (i * 5 + 1) (by omega)
                  have y1 := (hh1.2.1 (.inr ⟨rfl, by omega⟩)).trans YC1.out
                  clear hh1
                  have hh3 := H.out.mut_cell hg1 hg2 HG.out (i * 5 + 3) (by omega)
                  have y3 := (hh3.2.1 (.inr ⟨rfl, by omega⟩)).trans YC3.out
                  clear hh3
                  have hh4 := H.out.mut_cell hg1 hg2 HG.out (i * 5 + 4) (by omega)
                  have y4 := (hh4.2.1 (.inr ⟨rfl, by omega⟩)).trans YC4.out
                  clear hh4
                  obtain ⟨⟨z0, q0⟩, _, fr0⟩ := H.out.mut_cell hg1 hg2 HG.out (i * 5) (by omega)
                  have fr2 : w3.frozen? ⟨g, i * 5, none⟩ = false := by simp [World.frozen?, HG.out]
                  rw [fr2] at fr0
                  have hn0 : ¬ kp 48 (i * 5) := by
                    rintro (⟨h, _⟩ | ⟨_, h⟩)
                    · exact absurd h (by decide)
                    · omega
                  have hS := Aside.mk (H.out.mut_set hg1 hg2 HG.out (i * 5) hn0 (.string ⟨#[33]⟩))
                  clear fr2 hn0
                  go_wp2
                  go_roundg (fs.length - (i + 1))
                  case measure => omega
                  case rel => exact ⟨i + 1, rfl, by omega, by go_num, hS⟩
          · go_wp2
            go_meet
            case rel => exact H
      case rest =>
        have H9 := hcut
        clear H x2 x3 hcut
        have H := H9
        clear H9
        have x0 := (H.out.pick 4 rfl).cell 0
        have x1 := (H.out.pick 4 rfl).cell 1
        have x4 := (H.out.pick 1 rfl).cell 0
        have x5 := (H.out.pick 1 rfl).cell 1
        have hcc : decide (cs = cs) = true := decide_eq_true rfl
        go_wp2_with (first
          | (go_at_call 16; go_loud (refine (In.same (HP.out.below H.out.below) (HR.out.in_ (H.out.pick 2 rfl) HP.out.wf)).mono ?_); rintro e w8 ⟨rfl, hb⟩; have h1 := H.out.step hb; have x0 := (h1.pick 4 rfl).cell 0; have x1 := (h1.pick 4 rfl).cell 1; have x4 := (h1.pick 1 rfl).cell 0; have x5 := (h1.pick 1 rfl).cell 1; have H8 := Aside.mk h1; clear h1 hb)
          | (go_at_call 17; go_loud (refine (In.classes (HP.out.below H8.out.below) (HR.out.in_ (H8.out.pick 2 rfl) HP.out.wf)).mono ?_); rintro e w9 ⟨rfl, hb⟩; have H9 := Aside.mk (H8.out.step hb); clear hb))
        go_ret
        exact ⟨rfl, H9.out.below⟩
  · have lp1 : lightP cs fs = false := by simpa using lp
    go_enter Try.func5, Try.ntmps5
    go_wp2_with (first
      | (go_at_call 8; have H0' := H0; refine (coded _).mono ?_; rintro e w1 ⟨rfl, hb⟩; have h1 := H0.out.step hb; have x0 := h1.cell 0; have x1 := h1.cell 1; have H1 := Aside.mk h1; clear h1 hb H0 H0')
      | (go_at_call 11; refine (In.light (HP.out.below H1.out.below)).mono ?_; rintro e w2 ⟨rfl, hb⟩; have h1 := H1.out.step hb; have H2 := Aside.mk h1; clear h1 hb)
      | (go_at_call 8; refine (coded _).mono ?_; rintro e w9 ⟨rfl, hb⟩; have H9 := Aside.mk (H2.out.step hb); clear hb))
    go_ret
    exact ⟨rfl, H9.out.below⟩
end Go.Proofs.Ytakpdmkfengghaa.Wr
