/- A claim asks: it looks at a page's entry. Conditions: the arena's port has a grant; the plan is right. -/
import Derived.Test.YtelfiegocdjnoaaDoorCl1
import Derived.Test.YtelfiegocdjnoaaDoorMrF0
namespace Go.Proofs.YtelfiegocdjnoaaDoor.Ar
open Go Go.RowKit Go.Proofs.YtelfiegocdjnoaaDoor.Sep Go.Proofs.YtelfiegocdjnoaaDoor.Pg Go.Proofs.YtelfiegocdjnoaaDoorW.PrintWords Go.Proofs.YtelfiegocdjnoaaDoorW.PrintLast Go.Proofs.YtelfiegocdjnoaaDoorW.PrintMore Go.Proofs.YtelfiegocdjnoaaDoor.Q
set_option linter.unusedVariables false
set_option linter.unusedSimpArgs false
set_option maxHeartbeats 8000000
set_option maxRecDepth 100000
theorem hready_c {k c s o y : Int} (h : isE k c s o y = true) (cls cyc : Int) (w : World) : Calls Tryd.prog 160 #[.agg #[.int .i64 k, .int .i64 c, .int .i64 s, .int .i64 o, .int .i64 y], .int .i64 cls, .int .i64 cyc] w fun e w' => e = .returned (.bool (rdyE k c s y cls cyc)) ∧ Below w.heap.size w w' := by
  have HE := Aside0.mk (fun w => (by have := hright_c k c s o y w; rwa [h] at this : Calls Tryd.prog 165 #[.agg #[.int .i64 k, .int .i64 c, .int .i64 s, .int .i64 o, .int .i64 y]] w fun e w' => e = .returned (.bool true) ∧ Below w.heap.size w w'))
  have H := Aside0.mk ((St.start w).alloc #[.int .i64 k, .int .i64 c, .int .i64 s, .int .i64 o, .int .i64 y] 168)
  obtain ⟨b, hb9⟩ : ∃ b, b = rdyE k c s y cls cyc := ⟨_, rfl⟩
  rw [← hb9]
  have HB := Aside0.mk hb9
  clear h hb9
  have a0 := H.out.cell 0
  have a1 := H.out.cell 1
  have a2 := H.out.cell 2
  have a3 := H.out.cell 3
  have a4 := H.out.cell 4
  go_enter Tryd.func160, Tryd.ntmps160
  go_wp2_with (go_at_call 165; refine (HE.out _).mono ?_; rintro e w2 ⟨rfl, hb⟩; replace H := Aside0.mk (H.out.step hb); clear hb a0 a1 a2 a3 a4; have a0 := H.out.cell 0; have a1 := H.out.cell 1; have a2 := H.out.cell 2; have a3 := H.out.cell 3; have a4 := H.out.cell 4)
  all_goals
    have hb9 := HB.out
    go_ret
    refine ⟨congrArg (fun b : Bool => Ending.returned (Value.bool b)) ?_, H.out.below⟩
    grind [rdyE]
def ask.T0 : Bool × List (List Nat × List Nat) := (true, [([], []), ([], []), ([], []), ([2], [2]), ([3], [3]), ([4], [4]), ([], []), ([6], [6]), ([7], [7]), ([8], [8]), ([5, 9], [5, 9]), ([1, 10, 10], [1, 10]), ([0, 0, 1, 2, 3, 4, 5, 6, 7, 8, 9, 10, 11], [0]), ([12, 0, 1, 2, 3, 4, 5, 6, 7, 8, 9, 10, 11], [12]), ([13, 11, 11, 0, 1, 2, 3, 4, 5, 6, 7, 8, 9, 10, 11], [11, 13])])
def ask.B0 : List Nat := [0, 0, 0, 4, 12, 28, 0, 64, 192, 448, 1020, 2046, 4095, 8191, 16383]
theorem ask.tab0 : rtab .any (opsOf Tryd.f118 0) = ask.T0 := by kernel_rfl
theorem ask.bits0 : waitsOk ask.T0.2 ask.B0 = true := by kernel_rfl
def ask.T6 : Bool × List (List Nat × List Nat) := (true, [([], []), ([0], [0]), ([1], [1]), ([2], [2]), ([3], [3]), ([4], [4]), ([5], [5]), ([6, 5], [5, 6]), ([5, 7], [5, 7]), ([8, 5], [8]), ([9], [9]), ([9], [9]), ([11, 9], [9, 11]), ([12, 9], [9, 12]), ([13, 9], [9, 13]), ([9], [9]), ([15, 9], [9, 15]), ([16, 9], [9, 16]), ([17, 9], [9, 17]), ([10, 14, 18, 9, 9], [9, 10, 14, 18]), ([9, 19], [9, 19]), ([20, 19], [20])])
def ask.B6 : List Nat := [0, 1, 3, 7, 15, 31, 63, 127, 255, 511, 1023, 1023, 3071, 7167, 15359, 1023, 33791, 99327, 230399, 524287, 1048575, 2097151]
theorem ask.tab6 : rtab .any (opsOf Tryd.f118 6) = ask.T6 := by kernel_rfl
theorem ask.bits6 : waitsOk ask.T6.2 ask.B6 = true := by kernel_rfl
def ask.T8 : Bool × List (List Nat × List Nat) := (true, [([], []), ([0], [0]), ([1], [1]), ([2], [2]), ([3], [3]), ([4], [4]), ([5], [5]), ([6, 5], [5, 6]), ([5, 7], [5, 7]), ([8, 5], [8]), ([9], [9]), ([9], [9]), ([11, 9], [9, 11]), ([12, 9], [9, 12]), ([13, 9], [9, 13]), ([10, 14, 9, 9], [9, 10, 14]), ([9, 15], [9, 15]), ([16, 15], [16]), ([17], [17]), ([18, 17], [17, 18]), ([19, 17], [17, 19]), ([17, 20], [17, 20]), ([21, 17], [21]), ([22], [22]), ([23, 22], [22, 23]), ([22], [22]), ([25, 22], [22, 25]), ([26, 22], [22, 26]), ([27, 22], [22, 27]), ([24, 28, 22], [22, 24, 28]), ([22, 29], [22, 29]), ([30, 22], [30])])
def ask.B8 : List Nat := [0, 1, 3, 7, 15, 31, 63, 127, 255, 511, 1023, 1023, 3071, 7167, 15359, 32767, 65535, 131071, 262143, 524287, 1048575, 2097151, 4194303, 8388607, 16777215, 8388607, 41943039, 109051903, 243269631, 536870911, 1073741823, 2147483647]
theorem ask.tab8 : rtab .any (opsOf Tryd.f118 8) = ask.T8 := by kernel_rfl
theorem ask.bits8 : waitsOk ask.T8.2 ask.B8 = true := by kernel_rfl
variable {w0 w : World} {F : List HP} {a gC p g : Nat} {lv : Value} {l : List Acc} {cn fl who : Int} {X : List Int} {q : Cp} {x : Cl}
theorem clask_ (hq : q.Right) (hp : x.pg < q.P + 1) (hr : x.rd = 0 ∨ x.rd = 1) (hX : X.length = 128 + 64 * q.P) (hl : l.length ≤ 100000) (hc0 : 0 ≤ cn) (hc1 : cn ≤ 100000) (hv : u64 (X.getD (adr q.P q.T 0 x.pg) 0))
    (h : St w0 w (Are p a gC who true X lv l cn fl ++ clB g q x (.pointer none) :: F)) :
    Calls Tryd.prog 118 #[clP g, .pointer (some ⟨p, 0, none⟩)] w fun e w' => ∃ lv', e = .returned (.tuple #[]) ∧
      St w0 w' (Are p a gC who false X lv' (l ++ [⟨who, 1, adr q.P q.T 0 x.pg, 0, 0, X.getD (adr q.P q.T 0 x.pg) 0, X.getD (adr q.P q.T 0 x.pg) 0⟩]) (cn + 1) fl ++ clB g q (x.ask q (X.getD (adr q.P q.T 0 x.pg) 0)) (.pointer none) :: F) := by
  have hE := entry_in hq.hP hq.hT (i := (x.pg : Int)) (by omega) (by omega)
  rw [Int.toNat_natCast] at hE
  have HE := Aside.mk hE
  have hi : adr q.P q.T 0 x.pg < X.length := by rw [hX]; exact adr_lt hq.hP hq.hT hp (by decide)
  generalize adr q.P q.T 0 x.pg = i at HE hi hv ⊢
  have HX := Aside.mk (show X.length ≤ 4096 by have := hq.hP; omega)
  have HL := Aside.mk (show l.length ≤ 1000000 by omega)
  have HC := Aside.mk (show cn ≤ 1000000 by omega)
  have HI := Aside.mk hi
  have H0 := Aside.mk hc0
  have HPG := Aside.mk hp
  have HP5 := Aside.mk hq.hP
  have HR := Aside.mk hr
  have H := Aside.mk h
  obtain ⟨v, hvv⟩ : ∃ v, v = X.getD i 0 := ⟨_, rfl⟩
  have hload := fun (w : World) (h : St w0 w (Are p a gC who true X lv l cn fl ++ clB g q x (.pointer none) :: F)) => load_ i HI.out HX.out HL.out H0.out HC.out h
  rw [← hvv] at hload hv ⊢
  replace hload := Aside.mk hload
  obtain ⟨k, c, s, o, y, f, hd⟩ : ∃ k c s o y f, dec v = (k, c, s, o, y, f) := ⟨_, _, _, _, _, _, rfl⟩
  have HDEC := Aside.mk (fun w => dec_ci hv.1 hv.2 hd w)
  have hnext := fun (z : Cl) (hz : z.pg = x.pg) (hz2 : z.rd = x.rd) (F' : List HP) (w1 : World) (h1 : St w0 w1 (clB g q z (.pointer none) :: F')) => clnext_ (by rw [hz]; exact HPG.out) HP5.out (by rw [hz2]; rcases HR.out with h | h <;> simp [h]) h1
  have HN := Aside.mk hnext
  -- what is asked
  have hask : ∀ z : Cl, z = x.ask q v → (x.rd = 1 ∧ v = 0 ∧ z = { x with was := v, k := k, c := c, st := s, o := o, y := y, at_ := 5 }) ∨
      (x.rd = 1 ∧ v ≠ 0 ∧ z = ({ x with was := v, k := k, c := c, st := s, o := o, y := y } : Cl).next q) ∨
      (x.rd = 0 ∧ f = 4 ∧ z = ({ x with was := v, k := k, c := c, st := s, o := o, y := y } : Cl).next q) ∨
      (x.rd = 0 ∧ f = 0 ∧ isE k c s o y = true ∧ rdyE k c s y q.cls q.cyc = true ∧ z = { x with was := v, k := k, c := c, st := s, o := o, y := y, at_ := 1 }) ∨
      (x.rd = 0 ∧ f = 0 ∧ isE k c s o y = true ∧ rdyE k c s y q.cls q.cyc = false ∧ dueE k s y q.cyc = false ∧ z = ({ x with was := v, k := k, c := c, st := s, o := o, y := y } : Cl).next q) ∨
      (x.rd = 0 ∧ f = 0 ∧ isE k c s o y = true ∧ rdyE k c s y q.cls q.cyc = false ∧ dueE k s y q.cyc = true ∧ k = 2 ∧ z = ({ x with was := v, k := k, c := c, st := s, o := o, y := y } : Cl).next q) ∨
      (x.rd = 0 ∧ f = 0 ∧ isE k c s o y = true ∧ rdyE k c s y q.cls q.cyc = false ∧ dueE k s y q.cyc = true ∧ k = 1 ∧ c ≠ q.cls ∧ z = ({ x with was := v, k := k, c := c, st := s, o := o, y := y } : Cl).next q) ∨
      (x.rd = 0 ∧ f = 0 ∧ isE k c s o y = true ∧ rdyE k c s y q.cls q.cyc = false ∧ dueE k s y q.cyc = true ∧ k = 1 ∧ c = q.cls ∧ z = { x with was := v, k := k, c := c, st := s, o := o, y := y, at_ := 4 }) := by
    rintro z rfl
    have ea : x.ask q v = (if x.rd = 1 ∧ v = 0 then { x with was := v, k := k, c := c, st := s, o := o, y := y, at_ := 5 } else if x.rd = 0 ∧ f = 0 ∧ rdyE k c s y q.cls q.cyc = true then { x with was := v, k := k, c := c, st := s, o := o, y := y, at_ := 1 }
        else if x.rd = 0 ∧ f = 0 ∧ dueE k s y q.cyc = true ∧ k = 1 ∧ c = q.cls then { x with was := v, k := k, c := c, st := s, o := o, y := y, at_ := 4 } else ({ x with was := v, k := k, c := c, st := s, o := o, y := y } : Cl).next q) := by
      unfold Cl.ask Cl.seen
      rw [hd]
    rw [ea]
    have hi9 : f = 0 → isE k c s o y = true := fun hf => by rcases dec_isE hd with h | h <;> first | exact h.2 | (rw [hf] at h; cases h)
    rcases HR.out with hr0 | hr1
    · have nr : ¬ (x.rd = 1 ∧ v = 0) := fun hh => by have := hh.1; omega
      rw [if_neg nr]
      by_cases hf : f = 0
      · have hi := hi9 hf
        cases hrd : rdyE k c s y q.cls q.cyc
        · rw [if_neg (fun hh => by have := hh.2.2; cases this)]
          cases hdu : dueE k s y q.cyc
          · rw [if_neg (fun hh => by have := hh.2.2.1; cases this)]
            exact .inr (.inr (.inr (.inr (.inl ⟨hr0, hf, hi, rfl, rfl, rfl⟩))))
          · by_cases hk : k = 1
            · by_cases hc : c = q.cls
              · rw [if_pos ⟨hr0, hf, rfl, hk, hc⟩]
                exact .inr (.inr (.inr (.inr (.inr (.inr (.inr ⟨hr0, hf, hi, rfl, rfl, hk, hc, rfl⟩))))))
              · rw [if_neg (fun hh => hc hh.2.2.2.2)]
                exact .inr (.inr (.inr (.inr (.inr (.inr (.inl ⟨hr0, hf, hi, rfl, rfl, hk, hc, rfl⟩))))))
            · rw [if_neg (fun hh => hk hh.2.2.2.1)]
              have hk2 : k = 2 := by
                simp only [dueE, Bool.and_eq_true, Bool.or_eq_true, beq_iff_eq] at hdu
                rcases hdu.1.1 with h | h
                · exact absurd h hk
                · exact h
              exact .inr (.inr (.inr (.inr (.inr (.inl ⟨hr0, hf, hi, rfl, rfl, hk2, rfl⟩)))))
        · rw [if_pos ⟨hr0, hf, rfl⟩]
          exact .inr (.inr (.inr (.inl ⟨hr0, hf, hi, rfl, rfl⟩)))
      · rw [if_neg (fun hh => hf hh.2.1), if_neg (fun hh => hf hh.2.1)]
        exact .inr (.inr (.inl ⟨hr0, by rcases dec_isE hd with h | h <;> first | exact absurd h.1 hf | exact h, rfl⟩))
    · by_cases hv0 : v = 0
      · rw [if_pos ⟨hr1, hv0⟩]
        exact .inl ⟨hr1, hv0, rfl⟩
      · rw [if_neg (fun hh => hv0 hh.2), if_neg (fun hh => by have := hh.1; omega), if_neg (fun hh => by have := hh.1; omega)]
        exact .inr (.inl ⟨hr1, hv0, rfl⟩)
  obtain ⟨z, hz⟩ : ∃ z, z = x.ask q v := ⟨_, rfl⟩
  have HZ := Aside.mk (hask z hz)
  rw [← hz]
  clear hask hz hnext hvv hd hv h hE hi hp hr hX hl hc0 hc1 hq
  go_enter Tryd.func118, Tryd.ntmps118
  go_wp2_with fail
  replace H := Aside.mk H.out.drew
  refine start_ (n := 15) (S := fun w' => w'.cell? ⟨g, 0, none⟩ = some (.int .i64 ((q.P : Int) + 1)) ∧ w'.cell? ⟨g, 1, none⟩ = some (.int .i64 ((q.T : Int) + 1)) ∧ w'.cell? ⟨g, 2, none⟩ = some (.int .i64 1) ∧ w'.cell? ⟨g, 8, none⟩ = some (.int .i64 (x.pg : Int))) (ds := []) (flg 15 0) (by kernel_rfl) rfl rfl (⟨(H.out.pick 4 rfl).cell 0, (H.out.pick 4 rfl).cell 1, (H.out.pick 4 rfl).cell 2, (H.out.pick 4 rfl).cell 8⟩) (fun hHeld => ?_)
  refine with_tabW ask.tab0 ask.bits0 (fun HT_ HW_ => ?_)
  refine pu_ (v := ?_) (a' := ?_) 0 (some 6) 1 rfl rfl HT_ (by kernel_rfl) (.inl ⟨by rfl, ?_⟩) ?_ ?_; rotate_left 2; (· intro w'; go_simp; with_reducible rfl); (· simp only [nrm]; rfl)
  refine pu_ (v := ?_) (a' := ?_) 1 (some 7) 3 rfl rfl HT_ (by kernel_rfl) (.inl ⟨by rfl, ?_⟩) ?_ ?_; rotate_left 2; (· intro w'; go_simp; with_reducible rfl); (· simp only [nrm]; rfl)
  refine pu_ (v := ?_) (a' := ?_) 2 (some 8) 7 rfl rfl HT_ (by kernel_rfl) (.inl ⟨by rfl, ?_⟩) ?_ ?_; rotate_left 2; (· intro w'; go_simp; with_reducible rfl); (· simp only [nrm]; rfl)
  refine pu_ (v := ?_) (a' := ?_) 3 (some 9) 15 rfl rfl HT_ (by kernel_rfl) (.inl ⟨by rfl, ?_⟩) ?_ ?_; rotate_left 2; (· intro w'; go_simp; with_reducible rfl); (· simp only [nrm]; rfl)
  refine pu_ (v := ?_) (a' := ?_) 4 (some 10) 31 rfl rfl HT_ (by kernel_rfl) (.inl ⟨by rfl, ?_⟩) ?_ ?_; rotate_left 2; (· intro w'; go_simp; with_reducible rfl); (· simp only [nrm]; rfl)
  refine tk_ (v := ?_) (a' := ?_) 5 (some 11) 63 rfl rfl HT_ HW_ (by kernel_rfl) (.inl ⟨by rfl, ?_⟩) hHeld ?_ ?_; rotate_left 2; (· rintro w' ⟨_, _, _, _⟩; go_simp; with_reducible rfl); (· simp only [nrm]; rfl)
  refine pu_ (v := ?_) (a' := ?_) 6 (some 12) 127 rfl rfl HT_ (by kernel_rfl) (.inl ⟨by rfl, ?_⟩) ?_ ?_; rotate_left 2; (· intro w'; go_simp; with_reducible rfl); (· simp only [nrm]; rfl)
  refine pu_ (v := ?_) (a' := ?_) 7 (some 13) 255 rfl rfl HT_ (by kernel_rfl) (.inl ⟨by rfl, ?_⟩) ?_ ?_; rotate_left 2; (· intro w'; go_simp; with_reducible rfl); (· simp only [nrm]; rfl)
  refine pu_ (v := ?_) (a' := ?_) 8 (some 14) 511 rfl rfl HT_ (by kernel_rfl) (.inl ⟨by rfl, ?_⟩) ?_ ?_; rotate_left 2; (· intro w'; go_simp; with_reducible rfl); (· simp only [nrm]; rfl)
  refine tk_ (v := ?_) (a' := ?_) 9 (some 15) 1023 rfl rfl HT_ HW_ (by kernel_rfl) (.inl ⟨by rfl, ?_⟩) hHeld ?_ ?_; rotate_left 2; (· rintro w' ⟨_, _, _, _⟩; go_simp; with_reducible rfl); (· simp only [nrm]; rfl)
  refine on_ 10 (some 16) 2047 rfl rfl HT_ (by kernel_rfl) (by decide) (fun K hK => ?_)
  refine goes_ Tryd.func85 (by kernel_rfl) rfl #[.agg #[.int .i64 ((q.P : Int) + 1), .int .i64 ((q.T : Int) + 1), .int .i64 1], .int .i64 (x.pg : Int)] (by rfl) rfl rfl (by (try simp only [List.map_toArray, List.map_cons, List.map_nil]); first | done | rfl) ?_
  refine (layout_Plan_Entry.calls _ _ _ _ _ _ HE.out).mono ?_
  rintro e w2 ⟨rfl, hb⟩
  replace H := Aside.mk (H.out.step hb)
  clear hb
  refine ⟨_, rfl, ?_⟩
  refine hK.out _ _ ⟨(H.out.pick 4 rfl).cell 0, (H.out.pick 4 rfl).cell 1, (H.out.pick 4 rfl).cell 2, (H.out.pick 4 rfl).cell 8⟩ (fun hHeld => ?_)
  clear hK K
  refine norm_ (a' := ?_) ?_ ?_
  rotate_left
  · show Act.put _ (some 16) _ = _
    simp only [nrm]
    rfl
  refine on_ 11 (some 17) 4095 rfl rfl HT_ (by kernel_rfl) (by decide) (fun K hK => ?_)
  refine goes_ Tryd.func122 (by kernel_rfl) rfl #[.pointer (some ⟨p, 0, none⟩), .int .i64 i] (by rfl) rfl rfl (by (try simp only [List.map_toArray, List.map_cons, List.map_nil]); first | done | rfl) ?_
  refine (hload.out _ H.out).mono ?_
  rintro e w3 ⟨lv1, rfl, h1⟩
  replace H := Aside.mk h1
  clear h1
  refine ⟨_, rfl, ?_⟩
  refine hK.out _ _ ⟨(H.out.pick 4 rfl).cell 0, (H.out.pick 4 rfl).cell 1, (H.out.pick 4 rfl).cell 2, (H.out.pick 4 rfl).cell 8⟩ (fun hHeld => ?_)
  clear hK K
  refine norm_ (a' := ?_) ?_ ?_
  rotate_left
  · show Act.put _ (some 17) _ = _
    simp only [nrm]
    rfl
  refine pu_ (v := ?_) (a' := ?_) 12 (some 18) 8191 rfl rfl HT_ (by kernel_rfl) (.inl ⟨by rfl, ?_⟩) ?_ ?_; rotate_left 2; (· intro w'; go_simp; with_reducible rfl); (· simp only [nrm]; rfl)
  refine pu_ (v := ?_) (a' := ?_) 13 (some 19) 16383 rfl rfl HT_ (by kernel_rfl) (.inl ⟨by rfl, ?_⟩) ?_ ?_; rotate_left 2; (· intro w'; go_simp; with_reducible rfl); (· simp only [nrm]; rfl)
  refine on_ 14 (none) 32767 rfl rfl HT_ (by kernel_rfl) (by decide) (fun K hK => ?_)
  have k1 := (H.out.pick 4 rfl).cell 9
  have kf := (H.out.pick 4 rfl).frozen 9
  refine skip_ (w1 := ?_) (by rfl) rfl ?_ ?_
  rotate_left
  · go_simp
    rfl
  replace H : Aside (St w0 _ (Are p a gC who false X lv1 (l ++ [⟨who, 1, i, 0, 0, v, v⟩]) (cn + 1) fl ++ clB g q ({ x with was := v } : Cl) (.pointer none) :: F)) := Aside.mk (back_ (L := Are p a gC who false X lv1 (l ++ [⟨who, 1, i, 0, 0, v, v⟩]) (cn + 1) fl) (R := F) ((H.out.pick 4 rfl).put 9 (.int .u64 v) rfl))
  clear k1 kf
  refine hK.out _ _ ⟨(H.out.pick 4 rfl).cell 0, (H.out.pick 4 rfl).cell 1, (H.out.pick 4 rfl).cell 2, (H.out.pick 4 rfl).cell 8⟩ (fun hHeld => ?_)
  clear hK K
  refine done_ (done_of HT_.out (by kernel_rfl)) ?_
  clear HT_ HW_ hHeld
  have x9 := (H.out.pick 4 rfl).cell 9
  generalize World.setCell _ _ _ = w4_ at H x9 ⊢
  go_wp2_with (first
    | (go_at_call 86; refine (HDEC.out _).mono ?_; rintro e w5 ⟨rfl, hb⟩; replace H := Aside.mk (H.out.step hb); clear hb x9)
    | (with_reducible refine stop_at (.store 168 (.tmp 31) (.tmp 29)) rfl ?_))
  refine ⟨?_⟩
  refine st_store rfl rfl rfl [.int .i64 k, .int .i64 c, .int .i64 s, .int .i64 o, .int .i64 y] (Cl.cells q { x with was := v, k := k, c := c, st := s, o := o, y := y } (.pointer none)) rfl rfl rfl (Nat.le_of_ble_eq_true rfl) (by simp [Value.oneCell']) ((H.out.alloc [.int .i64 k, .int .i64 c, .int .i64 s, .int .i64 o, .int .i64 y].toArray 168).pick 5 rfl) rfl ?_
  intro w6 h6
  obtain ⟨e5, he5⟩ : ∃ e5, e5 = w5.heap.size := ⟨_, rfl⟩
  rw [← he5] at h6 ⊢
  replace H : Aside (St w0 w6 (Are p a gC who false X lv1 (l ++ [⟨who, 1, i, 0, 0, v, v⟩]) (cn + 1) fl ++ clB g q ({ x with was := v, k := k, c := c, st := s, o := o, y := y } : Cl) (.pointer none) :: blk e5 [.int .i64 k, .int .i64 c, .int .i64 s, .int .i64 o, .int .i64 y].toArray 168 :: F)) := Aside.mk (back2_ h6)
  clear h6 he5
  rcases HZ.out with HZ | HZ | HZ | HZ | HZ | HZ | HZ | HZ
  · obtain ⟨hr, rfl, rfl⟩ := HZ
    have HX6 : ∀ {w1 : World} {L : List HP}, Aside (St w0 w1 (Are p a gC who false X lv1 (l ++ [⟨who, 1, i, 0, 0, 0, 0⟩]) (cn + 1) fl ++ clB g q ({ x with was := 0, k := k, c := c, st := s, o := o, y := y } : Cl) (.pointer none) :: L)) → w1.cell? ⟨g, 6, none⟩ = some (.int .i64 1) := fun H => by have h6 := (H.out.pick 4 rfl).cell 6; exact h6.trans (by rw [← hr]; rfl)
    have x6 := HX6 H
    have x9 : w6.cell? ⟨g, 9, none⟩ = some (.int .u64 0) := (H.out.pick 4 rfl).cell 9
    go_wp2_with (with_reducible refine stop_at (.store 3 (.tmp 49) (.const (.int .i64 5))) rfl ?_)
    refine ⟨?_⟩
    refine st_store rfl rfl rfl [.int .i64 5] (Cl.cells q { x with was := 0, k := k, c := c, st := s, o := o, y := y, at_ := 5 } (.pointer none)) rfl rfl rfl (Nat.le_of_ble_eq_true rfl) (by simp [Value.oneCell']) (H.out.pick 4 rfl) rfl ?_
    intro w8 h8
    have H8 := Aside.mk (back_ (L := Are p a gC who false X lv1 (l ++ [⟨who, 1, i, 0, 0, 0, 0⟩]) (cn + 1) fl) (h8.pick 5 rfl).rest)
    clear h8
    go_wp2
    go_end0
    exact ⟨lv1, rfl, H8.out⟩
  · obtain ⟨hr, hv0, rfl⟩ := HZ
    have HX6 : ∀ {w1 : World} {L : List HP}, Aside (St w0 w1 (Are p a gC who false X lv1 (l ++ [⟨who, 1, i, 0, 0, v, v⟩]) (cn + 1) fl ++ clB g q ({ x with was := v, k := k, c := c, st := s, o := o, y := y } : Cl) (.pointer none) :: L)) → w1.cell? ⟨g, 6, none⟩ = some (.int .i64 1) := fun H => by have h6 := (H.out.pick 4 rfl).cell 6; exact h6.trans (by rw [← hr]; rfl)
    have x6 := HX6 H
    have x9 : w6.cell? ⟨g, 9, none⟩ = some (.int .u64 v) := (H.out.pick 4 rfl).cell 9
    have b9 : (v == 0) = false := by simpa using hv0
    clear hv0
    go_wp2_with fail
    clear x6 x9 b9
    replace H := Aside.mk H.out.drew
    refine start_ (n := 22) (S := fun w' => w'.cell? ⟨g, 6, none⟩ = some (.int .i64 1)) (ds := []) (flg 22 0) (by kernel_rfl) rfl rfl (HX6 H) (fun hHeld => ?_)
    refine with_tabW ask.tab6 ask.bits6 (fun HT_ HW_ => ?_)
    refine pu_ (v := ?_) (a' := ?_) 0 (some 51) 1 rfl rfl HT_ (by kernel_rfl) (.inl ⟨by rfl, ?_⟩) ?_ ?_; rotate_left 2; (· intro w'; go_simp; with_reducible rfl); (· simp only [nrm]; rfl)
    refine pu_ (v := ?_) (a' := ?_) 1 (some 52) 3 rfl rfl HT_ (by kernel_rfl) (.inl ⟨by rfl, ?_⟩) ?_ ?_; rotate_left 2; (· intro w'; go_simp; with_reducible rfl); (· simp only [nrm]; rfl)
    refine pu_ (v := ?_) (a' := ?_) 2 (some 53) 7 rfl rfl HT_ (by kernel_rfl) (.inl ⟨by rfl, ?_⟩) ?_ ?_; rotate_left 2; (· intro w'; go_simp; with_reducible rfl); (· simp only [nrm]; rfl)
    refine tk_ (v := ?_) (a' := ?_) 3 (some 54) 15 rfl rfl HT_ HW_ (by kernel_rfl) (.inl ⟨by rfl, ?_⟩) hHeld ?_ ?_; rotate_left 2; (· rintro w' _; go_simp; with_reducible rfl); (· simp only [nrm]; rfl)
    refine pu_ (v := ?_) (a' := ?_) 4 (some 55) 31 rfl rfl HT_ (by kernel_rfl) (.inl ⟨by rfl, ?_⟩) ?_ ?_; rotate_left 2; (· intro w'; go_simp; with_reducible rfl); (· simp only [nrm]; rfl)
    refine pu_ (v := ?_) (a' := ?_) 5 (some 56) 63 rfl rfl HT_ (by kernel_rfl) (.inl ⟨by rfl, ?_⟩) ?_ ?_; rotate_left 2; (· intro w'; go_simp; with_reducible rfl); (· simp only [nrm]; rfl)
    refine pure_ (i := 6) (N := some 57) (v := undef) (a' := ?_) (flg 22 127) rfl rfl (any_of HT_.out (by kernel_rfl)) (fun _ _ _ h => h) (Or.inr ⟨by rfl, rfl⟩) ?_ ?_
    rotate_left
    · simp only [nrm]
      rfl
    refine pure_ (i := 7) (N := some 58) (v := undef) (a' := ?_) (flg 22 255) rfl rfl (any_of HT_.out (by kernel_rfl)) (fun _ _ _ h => h) (Or.inr ⟨by rfl, rfl⟩) ?_ ?_
    rotate_left
    · simp only [nrm]
      rfl
    refine pu_ (v := ?_) (a' := ?_) 8 (some 59) 511 rfl rfl HT_ (by kernel_rfl) (.inl ⟨by rfl, ?_⟩) ?_ ?_; rotate_left 2; (· intro w'; go_simp; with_reducible rfl); (· simp only [nrm]; rfl)
    refine pu_ (v := ?_) (a' := ?_) 9 (some 60) 1023 rfl rfl HT_ (by kernel_rfl) (.inl ⟨by rfl, ?_⟩) ?_ ?_; rotate_left 2; (· intro w'; go_simp; with_reducible rfl); (· simp only [nrm]; rfl)
    refine pure_ (i := 10) (N := some 61) (v := undef) (a' := ?_) (flg 22 2047) rfl rfl (any_of HT_.out (by kernel_rfl)) (fun _ _ _ h => h) (Or.inr ⟨by rfl, rfl⟩) ?_ ?_
    rotate_left
    · simp only [nrm]
      rfl
    refine pure_ (i := 11) (N := some 62) (v := undef) (a' := ?_) (flg 22 4095) rfl rfl (any_of HT_.out (by kernel_rfl)) (fun _ _ _ h => h) (Or.inr ⟨by rfl, rfl⟩) ?_ ?_
    rotate_left
    · simp only [nrm]
      rfl
    refine pure_ (i := 12) (N := some 63) (v := undef) (a' := ?_) (flg 22 8191) rfl rfl (any_of HT_.out (by kernel_rfl)) (fun _ _ _ h => h) (Or.inr ⟨by rfl, rfl⟩) ?_ ?_
    rotate_left
    · simp only [nrm]
      rfl
    refine pure_ (i := 13) (N := some 64) (v := undef) (a' := ?_) (flg 22 16383) rfl rfl (any_of HT_.out (by kernel_rfl)) (fun _ _ _ h => h) (Or.inr ⟨by rfl, rfl⟩) ?_ ?_
    rotate_left
    · simp only [nrm]
      rfl
    refine pure_ (i := 14) (N := some 65) (v := undef) (a' := ?_) (flg 22 32767) rfl rfl (any_of HT_.out (by kernel_rfl)) (fun _ _ _ h => h) (Or.inr ⟨by rfl, rfl⟩) ?_ ?_
    rotate_left
    · simp only [nrm]
      rfl
    refine pure_ (i := 15) (N := some 66) (v := undef) (a' := ?_) (flg 22 65535) rfl rfl (any_of HT_.out (by kernel_rfl)) (fun _ _ _ h => h) (Or.inr ⟨by rfl, rfl⟩) ?_ ?_
    rotate_left
    · simp only [nrm]
      rfl
    refine pure_ (i := 16) (N := some 67) (v := undef) (a' := ?_) (flg 22 131071) rfl rfl (any_of HT_.out (by kernel_rfl)) (fun _ _ _ h => h) (Or.inr ⟨by rfl, rfl⟩) ?_ ?_
    rotate_left
    · simp only [nrm]
      rfl
    refine pure_ (i := 17) (N := some 68) (v := undef) (a' := ?_) (flg 22 262143) rfl rfl (any_of HT_.out (by kernel_rfl)) (fun _ _ _ h => h) (Or.inr ⟨by rfl, rfl⟩) ?_ ?_
    rotate_left
    · simp only [nrm]
      rfl
    refine pure_ (i := 18) (N := some 69) (v := undef) (a' := ?_) (flg 22 524287) rfl rfl (any_of HT_.out (by kernel_rfl)) (fun _ _ _ h => h) (Or.inr ⟨by rfl, rfl⟩) ?_ ?_
    rotate_left
    · simp only [nrm]
      rfl
    refine pure_ (i := 19) (N := some 70) (v := undef) (a' := ?_) (flg 22 1048575) rfl rfl (any_of HT_.out (by kernel_rfl)) (fun _ _ _ h => h) (Or.inr ⟨by rfl, rfl⟩) ?_ ?_
    rotate_left
    · simp only [nrm]
      rfl
    refine pu_ (v := ?_) (a' := ?_) 20 (some 71) 2097151 rfl rfl HT_ (by kernel_rfl) (.inl ⟨by rfl, ?_⟩) ?_ ?_; rotate_left 2; (· intro w'; go_simp; with_reducible rfl); (· simp only [nrm]; rfl)
    refine pu_ (v := ?_) (a' := ?_) 21 (some 50) 4194303 rfl rfl HT_ (by kernel_rfl) (.inl ⟨by rfl, ?_⟩) ?_ ?_; rotate_left 2; (· intro w'; go_simp; with_reducible rfl); (· simp only [nrm]; rfl)
    refine done_ (done_of HT_.out (by kernel_rfl)) ?_
    clear HT_ HW_ hHeld
    go_wp2_with fail
    replace H := Aside.mk H.out.drew
    refine start_ (n := 32) (S := fun w' => w'.cell? ⟨g, 6, none⟩ = some (.int .i64 1)) (ds := []) (flg 32 0) (by kernel_rfl) rfl rfl (HX6 H) (fun hHeld => ?_)
    refine with_tabW ask.tab8 ask.bits8 (fun HT_ HW_ => ?_)
    refine pu_ (v := ?_) (a' := ?_) 0 (some 76) 1 rfl rfl HT_ (by kernel_rfl) (.inl ⟨by rfl, ?_⟩) ?_ ?_; rotate_left 2; (· intro w'; go_simp; with_reducible rfl); (· simp only [nrm]; rfl)
    refine pu_ (v := ?_) (a' := ?_) 1 (some 77) 3 rfl rfl HT_ (by kernel_rfl) (.inl ⟨by rfl, ?_⟩) ?_ ?_; rotate_left 2; (· intro w'; go_simp; with_reducible rfl); (· simp only [nrm]; rfl)
    refine pu_ (v := ?_) (a' := ?_) 2 (some 78) 7 rfl rfl HT_ (by kernel_rfl) (.inl ⟨by rfl, ?_⟩) ?_ ?_; rotate_left 2; (· intro w'; go_simp; with_reducible rfl); (· simp only [nrm]; rfl)
    refine tk_ (v := ?_) (a' := ?_) 3 (some 79) 15 rfl rfl HT_ HW_ (by kernel_rfl) (.inl ⟨by rfl, ?_⟩) hHeld ?_ ?_; rotate_left 2; (· rintro w' _; go_simp; with_reducible rfl); (· simp only [nrm]; rfl)
    refine pu_ (v := ?_) (a' := ?_) 4 (some 80) 31 rfl rfl HT_ (by kernel_rfl) (.inl ⟨by rfl, ?_⟩) ?_ ?_; rotate_left 2; (· intro w'; go_simp; with_reducible rfl); (· simp only [nrm]; rfl)
    refine pu_ (v := ?_) (a' := ?_) 5 (some 81) 63 rfl rfl HT_ (by kernel_rfl) (.inl ⟨by rfl, ?_⟩) ?_ ?_; rotate_left 2; (· intro w'; go_simp; with_reducible rfl); (· simp only [nrm]; rfl)
    refine pure_ (i := 6) (N := some 82) (v := undef) (a' := ?_) (flg 32 127) rfl rfl (any_of HT_.out (by kernel_rfl)) (fun _ _ _ h => h) (Or.inr ⟨by rfl, rfl⟩) ?_ ?_
    rotate_left
    · simp only [nrm]
      rfl
    refine pure_ (i := 7) (N := some 83) (v := undef) (a' := ?_) (flg 32 255) rfl rfl (any_of HT_.out (by kernel_rfl)) (fun _ _ _ h => h) (Or.inr ⟨by rfl, rfl⟩) ?_ ?_
    rotate_left
    · simp only [nrm]
      rfl
    refine pu_ (v := ?_) (a' := ?_) 8 (some 84) 511 rfl rfl HT_ (by kernel_rfl) (.inl ⟨by rfl, ?_⟩) ?_ ?_; rotate_left 2; (· intro w'; go_simp; with_reducible rfl); (· simp only [nrm]; rfl)
    refine pu_ (v := ?_) (a' := ?_) 9 (some 85) 1023 rfl rfl HT_ (by kernel_rfl) (.inl ⟨by rfl, ?_⟩) ?_ ?_; rotate_left 2; (· intro w'; go_simp; with_reducible rfl); (· simp only [nrm]; rfl)
    refine pure_ (i := 10) (N := some 86) (v := undef) (a' := ?_) (flg 32 2047) rfl rfl (any_of HT_.out (by kernel_rfl)) (fun _ _ _ h => h) (Or.inr ⟨by rfl, rfl⟩) ?_ ?_
    rotate_left
    · simp only [nrm]
      rfl
    refine pure_ (i := 11) (N := some 87) (v := undef) (a' := ?_) (flg 32 4095) rfl rfl (any_of HT_.out (by kernel_rfl)) (fun _ _ _ h => h) (Or.inr ⟨by rfl, rfl⟩) ?_ ?_
    rotate_left
    · simp only [nrm]
      rfl
    refine pure_ (i := 12) (N := some 88) (v := undef) (a' := ?_) (flg 32 8191) rfl rfl (any_of HT_.out (by kernel_rfl)) (fun _ _ _ h => h) (Or.inr ⟨by rfl, rfl⟩) ?_ ?_
    rotate_left
    · simp only [nrm]
      rfl
    refine pure_ (i := 13) (N := some 89) (v := undef) (a' := ?_) (flg 32 16383) rfl rfl (any_of HT_.out (by kernel_rfl)) (fun _ _ _ h => h) (Or.inr ⟨by rfl, rfl⟩) ?_ ?_
    rotate_left
    · simp only [nrm]
      rfl
    refine pure_ (i := 14) (N := some 90) (v := undef) (a' := ?_) (flg 32 32767) rfl rfl (any_of HT_.out (by kernel_rfl)) (fun _ _ _ h => h) (Or.inr ⟨by rfl, rfl⟩) ?_ ?_
    rotate_left
    · simp only [nrm]
      rfl
    refine pure_ (i := 15) (N := some 91) (v := undef) (a' := ?_) (flg 32 65535) rfl rfl (any_of HT_.out (by kernel_rfl)) (fun _ _ _ h => h) (Or.inr ⟨by rfl, rfl⟩) ?_ ?_
    rotate_left
    · simp only [nrm]
      rfl
    refine pu_ (v := ?_) (a' := ?_) 16 (some 92) 131071 rfl rfl HT_ (by kernel_rfl) (.inl ⟨by rfl, ?_⟩) ?_ ?_; rotate_left 2; (· intro w'; go_simp; with_reducible rfl); (· simp only [nrm]; rfl)
    refine pu_ (v := ?_) (a' := ?_) 17 (some 93) 262143 rfl rfl HT_ (by kernel_rfl) (.inl ⟨by rfl, ?_⟩) ?_ ?_; rotate_left 2; (· intro w'; go_simp; with_reducible rfl); (· simp only [nrm]; rfl)
    refine pure_ (i := 18) (N := some 94) (v := undef) (a' := ?_) (flg 32 524287) rfl rfl (any_of HT_.out (by kernel_rfl)) (fun _ _ _ h => h) (Or.inr ⟨by rfl, rfl⟩) ?_ ?_
    rotate_left
    · simp only [nrm]
      rfl
    refine pure_ (i := 19) (N := some 95) (v := undef) (a' := ?_) (flg 32 1048575) rfl rfl (any_of HT_.out (by kernel_rfl)) (fun _ _ _ h => h) (Or.inr ⟨by rfl, rfl⟩) ?_ ?_
    rotate_left
    · simp only [nrm]
      rfl
    refine pure_ (i := 20) (N := some 96) (v := undef) (a' := ?_) (flg 32 2097151) rfl rfl (any_of HT_.out (by kernel_rfl)) (fun _ _ _ h => h) (Or.inr ⟨by rfl, rfl⟩) ?_ ?_
    rotate_left
    · simp only [nrm]
      rfl
    refine pu_ (v := ?_) (a' := ?_) 21 (some 97) 4194303 rfl rfl HT_ (by kernel_rfl) (.inl ⟨by rfl, ?_⟩) ?_ ?_; rotate_left 2; (· intro w'; go_simp; with_reducible rfl); (· simp only [nrm]; rfl)
    refine pu_ (v := ?_) (a' := ?_) 22 (some 98) 8388607 rfl rfl HT_ (by kernel_rfl) (.inl ⟨by rfl, ?_⟩) ?_ ?_; rotate_left 2; (· intro w'; go_simp; with_reducible rfl); (· simp only [nrm]; rfl)
    refine pure_ (i := 23) (N := some 99) (v := undef) (a' := ?_) (flg 32 16777215) rfl rfl (any_of HT_.out (by kernel_rfl)) (fun _ _ _ h => h) (Or.inr ⟨by rfl, rfl⟩) ?_ ?_
    rotate_left
    · simp only [nrm]
      rfl
    refine pure_ (i := 24) (N := some 100) (v := undef) (a' := ?_) (flg 32 33554431) rfl rfl (any_of HT_.out (by kernel_rfl)) (fun _ _ _ h => h) (Or.inr ⟨by rfl, rfl⟩) ?_ ?_
    rotate_left
    · simp only [nrm]
      rfl
    refine pure_ (i := 25) (N := some 101) (v := undef) (a' := ?_) (flg 32 67108863) rfl rfl (any_of HT_.out (by kernel_rfl)) (fun _ _ _ h => h) (Or.inr ⟨by rfl, rfl⟩) ?_ ?_
    rotate_left
    · simp only [nrm]
      rfl
    refine pure_ (i := 26) (N := some 102) (v := undef) (a' := ?_) (flg 32 134217727) rfl rfl (any_of HT_.out (by kernel_rfl)) (fun _ _ _ h => h) (Or.inr ⟨by rfl, rfl⟩) ?_ ?_
    rotate_left
    · simp only [nrm]
      rfl
    refine pure_ (i := 27) (N := some 103) (v := undef) (a' := ?_) (flg 32 268435455) rfl rfl (any_of HT_.out (by kernel_rfl)) (fun _ _ _ h => h) (Or.inr ⟨by rfl, rfl⟩) ?_ ?_
    rotate_left
    · simp only [nrm]
      rfl
    refine pure_ (i := 28) (N := some 104) (v := undef) (a' := ?_) (flg 32 536870911) rfl rfl (any_of HT_.out (by kernel_rfl)) (fun _ _ _ h => h) (Or.inr ⟨by rfl, rfl⟩) ?_ ?_
    rotate_left
    · simp only [nrm]
      rfl
    refine pure_ (i := 29) (N := some 105) (v := undef) (a' := ?_) (flg 32 1073741823) rfl rfl (any_of HT_.out (by kernel_rfl)) (fun _ _ _ h => h) (Or.inr ⟨by rfl, rfl⟩) ?_ ?_
    rotate_left
    · simp only [nrm]
      rfl
    refine pu_ (v := ?_) (a' := ?_) 30 (some 106) 2147483647 rfl rfl HT_ (by kernel_rfl) (.inl ⟨by rfl, ?_⟩) ?_ ?_; rotate_left 2; (· intro w'; go_simp; with_reducible rfl); (· simp only [nrm]; rfl)
    refine pu_ (v := ?_) (a' := ?_) 31 (some 75) 4294967295 rfl rfl HT_ (by kernel_rfl) (.inl ⟨by rfl, ?_⟩) ?_ ?_; rotate_left 2; (· intro w'; go_simp; with_reducible rfl); (· simp only [nrm]; rfl)
    refine done_ (done_of HT_.out (by kernel_rfl)) ?_
    clear HT_ HW_ hHeld
    go_wp2_with (go_at_call 121; refine (HN.out ({ x with was := v, k := k, c := c, st := s, o := o, y := y } : Cl) rfl rfl _ _ (H.out.pick 4 rfl)).mono ?_; rintro e w8 ⟨rfl, h8⟩; have H8 := Aside.mk (back_ (L := Are p a gC who false X lv1 (l ++ [⟨who, 1, i, 0, 0, v, v⟩]) (cn + 1) fl) (h8.pick 5 rfl).rest); clear h8)
    go_end0
    exact ⟨lv1, rfl, H8.out⟩
  · obtain ⟨hr, rfl, rfl⟩ := HZ
    have HX6 : ∀ {w1 : World} {L : List HP}, Aside (St w0 w1 (Are p a gC who false X lv1 (l ++ [⟨who, 1, i, 0, 0, v, v⟩]) (cn + 1) fl ++ clB g q ({ x with was := v, k := k, c := c, st := s, o := o, y := y } : Cl) (.pointer none) :: L)) → w1.cell? ⟨g, 6, none⟩ = some (.int .i64 0) := fun H => by have h6 := (H.out.pick 4 rfl).cell 6; exact h6.trans (by rw [← hr]; rfl)
    have x6 := HX6 H
    go_wp2_with fail
    clear x6
    replace H := Aside.mk H.out.drew
    refine start_ (n := 22) (S := fun w' => w'.cell? ⟨g, 6, none⟩ = some (.int .i64 0)) (ds := []) (flg 22 0) (by kernel_rfl) rfl rfl (HX6 H) (fun hHeld => ?_)
    refine with_tabW ask.tab6 ask.bits6 (fun HT_ HW_ => ?_)
    refine pu_ (v := ?_) (a' := ?_) 0 (some 51) 1 rfl rfl HT_ (by kernel_rfl) (.inl ⟨by rfl, ?_⟩) ?_ ?_; rotate_left 2; (· intro w'; go_simp; with_reducible rfl); (· simp only [nrm]; rfl)
    refine pu_ (v := ?_) (a' := ?_) 1 (some 52) 3 rfl rfl HT_ (by kernel_rfl) (.inl ⟨by rfl, ?_⟩) ?_ ?_; rotate_left 2; (· intro w'; go_simp; with_reducible rfl); (· simp only [nrm]; rfl)
    refine pu_ (v := ?_) (a' := ?_) 2 (some 53) 7 rfl rfl HT_ (by kernel_rfl) (.inl ⟨by rfl, ?_⟩) ?_ ?_; rotate_left 2; (· intro w'; go_simp; with_reducible rfl); (· simp only [nrm]; rfl)
    refine tk_ (v := ?_) (a' := ?_) 3 (some 54) 15 rfl rfl HT_ HW_ (by kernel_rfl) (.inl ⟨by rfl, ?_⟩) hHeld ?_ ?_; rotate_left 2; (· rintro w' _; go_simp; with_reducible rfl); (· simp only [nrm]; rfl)
    refine pu_ (v := ?_) (a' := ?_) 4 (some 55) 31 rfl rfl HT_ (by kernel_rfl) (.inl ⟨by rfl, ?_⟩) ?_ ?_; rotate_left 2; (· intro w'; go_simp; with_reducible rfl); (· simp only [nrm]; rfl)
    refine pu_ (v := ?_) (a' := ?_) 5 (some 56) 63 rfl rfl HT_ (by kernel_rfl) (.inl ⟨by rfl, ?_⟩) ?_ ?_; rotate_left 2; (· intro w'; go_simp; with_reducible rfl); (· simp only [nrm]; rfl)
    refine pu_ (v := ?_) (a' := ?_) 6 (some 57) 127 rfl rfl HT_ (by kernel_rfl) (.inl ⟨by rfl, ?_⟩) ?_ ?_; rotate_left 2; (· intro w'; go_simp; with_reducible rfl); (· simp only [nrm]; rfl)
    refine pu_ (v := ?_) (a' := ?_) 7 (some 58) 255 rfl rfl HT_ (by kernel_rfl) (.inl ⟨by rfl, ?_⟩) ?_ ?_; rotate_left 2; (· intro w'; go_simp; with_reducible rfl); (· simp only [nrm]; rfl)
    refine pu_ (v := ?_) (a' := ?_) 8 (some 59) 511 rfl rfl HT_ (by kernel_rfl) (.inl ⟨by rfl, ?_⟩) ?_ ?_; rotate_left 2; (· intro w'; go_simp; with_reducible rfl); (· simp only [nrm]; rfl)
    refine pu_ (v := ?_) (a' := ?_) 9 (some 60) 1023 rfl rfl HT_ (by kernel_rfl) (.inl ⟨by rfl, ?_⟩) ?_ ?_; rotate_left 2; (· intro w'; go_simp; with_reducible rfl); (· simp only [nrm]; rfl)
    refine pure_ (i := 10) (N := some 61) (v := undef) (a' := ?_) (flg 22 2047) rfl rfl (any_of HT_.out (by kernel_rfl)) (fun _ _ _ h => h) (Or.inr ⟨by rfl, rfl⟩) ?_ ?_
    rotate_left
    · simp only [nrm]
      rfl
    refine pure_ (i := 11) (N := some 62) (v := undef) (a' := ?_) (flg 22 4095) rfl rfl (any_of HT_.out (by kernel_rfl)) (fun _ _ _ h => h) (Or.inr ⟨by rfl, rfl⟩) ?_ ?_
    rotate_left
    · simp only [nrm]
      rfl
    refine pure_ (i := 12) (N := some 63) (v := undef) (a' := ?_) (flg 22 8191) rfl rfl (any_of HT_.out (by kernel_rfl)) (fun _ _ _ h => h) (Or.inr ⟨by rfl, rfl⟩) ?_ ?_
    rotate_left
    · simp only [nrm]
      rfl
    refine pure_ (i := 13) (N := some 64) (v := undef) (a' := ?_) (flg 22 16383) rfl rfl (any_of HT_.out (by kernel_rfl)) (fun _ _ _ h => h) (Or.inr ⟨by rfl, rfl⟩) ?_ ?_
    rotate_left
    · simp only [nrm]
      rfl
    refine pure_ (i := 14) (N := some 65) (v := undef) (a' := ?_) (flg 22 32767) rfl rfl (any_of HT_.out (by kernel_rfl)) (fun _ _ _ h => h) (Or.inr ⟨by rfl, rfl⟩) ?_ ?_
    rotate_left
    · simp only [nrm]
      rfl
    refine pure_ (i := 15) (N := some 66) (v := undef) (a' := ?_) (flg 22 65535) rfl rfl (any_of HT_.out (by kernel_rfl)) (fun _ _ _ h => h) (Or.inr ⟨by rfl, rfl⟩) ?_ ?_
    rotate_left
    · simp only [nrm]
      rfl
    refine pure_ (i := 16) (N := some 67) (v := undef) (a' := ?_) (flg 22 131071) rfl rfl (any_of HT_.out (by kernel_rfl)) (fun _ _ _ h => h) (Or.inr ⟨by rfl, rfl⟩) ?_ ?_
    rotate_left
    · simp only [nrm]
      rfl
    refine pure_ (i := 17) (N := some 68) (v := undef) (a' := ?_) (flg 22 262143) rfl rfl (any_of HT_.out (by kernel_rfl)) (fun _ _ _ h => h) (Or.inr ⟨by rfl, rfl⟩) ?_ ?_
    rotate_left
    · simp only [nrm]
      rfl
    refine pure_ (i := 18) (N := some 69) (v := undef) (a' := ?_) (flg 22 524287) rfl rfl (any_of HT_.out (by kernel_rfl)) (fun _ _ _ h => h) (Or.inr ⟨by rfl, rfl⟩) ?_ ?_
    rotate_left
    · simp only [nrm]
      rfl
    refine pure_ (i := 19) (N := some 70) (v := undef) (a' := ?_) (flg 22 1048575) rfl rfl (any_of HT_.out (by kernel_rfl)) (fun _ _ _ h => h) (Or.inr ⟨by rfl, rfl⟩) ?_ ?_
    rotate_left
    · simp only [nrm]
      rfl
    refine pu_ (v := ?_) (a' := ?_) 20 (some 71) 2097151 rfl rfl HT_ (by kernel_rfl) (.inl ⟨by rfl, ?_⟩) ?_ ?_; rotate_left 2; (· intro w'; go_simp; with_reducible rfl); (· simp only [nrm]; rfl)
    refine pu_ (v := ?_) (a' := ?_) 21 (some 50) 4194303 rfl rfl HT_ (by kernel_rfl) (.inl ⟨by rfl, ?_⟩) ?_ ?_; rotate_left 2; (· intro w'; go_simp; with_reducible rfl); (· simp only [nrm]; rfl)
    refine done_ (done_of HT_.out (by kernel_rfl)) ?_
    clear HT_ HW_ hHeld
    go_wp2_with fail
    replace H := Aside.mk H.out.drew
    refine start_ (n := 32) (S := fun w' => w'.cell? ⟨g, 6, none⟩ = some (.int .i64 0)) (ds := []) (flg 32 0) (by kernel_rfl) rfl rfl (HX6 H) (fun hHeld => ?_)
    refine with_tabW ask.tab8 ask.bits8 (fun HT_ HW_ => ?_)
    refine pu_ (v := ?_) (a' := ?_) 0 (some 76) 1 rfl rfl HT_ (by kernel_rfl) (.inl ⟨by rfl, ?_⟩) ?_ ?_; rotate_left 2; (· intro w'; go_simp; with_reducible rfl); (· simp only [nrm]; rfl)
    refine pu_ (v := ?_) (a' := ?_) 1 (some 77) 3 rfl rfl HT_ (by kernel_rfl) (.inl ⟨by rfl, ?_⟩) ?_ ?_; rotate_left 2; (· intro w'; go_simp; with_reducible rfl); (· simp only [nrm]; rfl)
    refine pu_ (v := ?_) (a' := ?_) 2 (some 78) 7 rfl rfl HT_ (by kernel_rfl) (.inl ⟨by rfl, ?_⟩) ?_ ?_; rotate_left 2; (· intro w'; go_simp; with_reducible rfl); (· simp only [nrm]; rfl)
    refine tk_ (v := ?_) (a' := ?_) 3 (some 79) 15 rfl rfl HT_ HW_ (by kernel_rfl) (.inl ⟨by rfl, ?_⟩) hHeld ?_ ?_; rotate_left 2; (· rintro w' _; go_simp; with_reducible rfl); (· simp only [nrm]; rfl)
    refine pu_ (v := ?_) (a' := ?_) 4 (some 80) 31 rfl rfl HT_ (by kernel_rfl) (.inl ⟨by rfl, ?_⟩) ?_ ?_; rotate_left 2; (· intro w'; go_simp; with_reducible rfl); (· simp only [nrm]; rfl)
    refine pu_ (v := ?_) (a' := ?_) 5 (some 81) 63 rfl rfl HT_ (by kernel_rfl) (.inl ⟨by rfl, ?_⟩) ?_ ?_; rotate_left 2; (· intro w'; go_simp; with_reducible rfl); (· simp only [nrm]; rfl)
    refine pu_ (v := ?_) (a' := ?_) 6 (some 82) 127 rfl rfl HT_ (by kernel_rfl) (.inl ⟨by rfl, ?_⟩) ?_ ?_; rotate_left 2; (· intro w'; go_simp; with_reducible rfl); (· simp only [nrm]; rfl)
    refine pu_ (v := ?_) (a' := ?_) 7 (some 83) 255 rfl rfl HT_ (by kernel_rfl) (.inl ⟨by rfl, ?_⟩) ?_ ?_; rotate_left 2; (· intro w'; go_simp; with_reducible rfl); (· simp only [nrm]; rfl)
    refine pu_ (v := ?_) (a' := ?_) 8 (some 84) 511 rfl rfl HT_ (by kernel_rfl) (.inl ⟨by rfl, ?_⟩) ?_ ?_; rotate_left 2; (· intro w'; go_simp; with_reducible rfl); (· simp only [nrm]; rfl)
    refine pu_ (v := ?_) (a' := ?_) 9 (some 85) 1023 rfl rfl HT_ (by kernel_rfl) (.inl ⟨by rfl, ?_⟩) ?_ ?_; rotate_left 2; (· intro w'; go_simp; with_reducible rfl); (· simp only [nrm]; rfl)
    refine pure_ (i := 10) (N := some 86) (v := undef) (a' := ?_) (flg 32 2047) rfl rfl (any_of HT_.out (by kernel_rfl)) (fun _ _ _ h => h) (Or.inr ⟨by rfl, rfl⟩) ?_ ?_
    rotate_left
    · simp only [nrm]
      rfl
    refine pure_ (i := 11) (N := some 87) (v := undef) (a' := ?_) (flg 32 4095) rfl rfl (any_of HT_.out (by kernel_rfl)) (fun _ _ _ h => h) (Or.inr ⟨by rfl, rfl⟩) ?_ ?_
    rotate_left
    · simp only [nrm]
      rfl
    refine pure_ (i := 12) (N := some 88) (v := undef) (a' := ?_) (flg 32 8191) rfl rfl (any_of HT_.out (by kernel_rfl)) (fun _ _ _ h => h) (Or.inr ⟨by rfl, rfl⟩) ?_ ?_
    rotate_left
    · simp only [nrm]
      rfl
    refine pure_ (i := 13) (N := some 89) (v := undef) (a' := ?_) (flg 32 16383) rfl rfl (any_of HT_.out (by kernel_rfl)) (fun _ _ _ h => h) (Or.inr ⟨by rfl, rfl⟩) ?_ ?_
    rotate_left
    · simp only [nrm]
      rfl
    refine pure_ (i := 14) (N := some 90) (v := undef) (a' := ?_) (flg 32 32767) rfl rfl (any_of HT_.out (by kernel_rfl)) (fun _ _ _ h => h) (Or.inr ⟨by rfl, rfl⟩) ?_ ?_
    rotate_left
    · simp only [nrm]
      rfl
    refine pure_ (i := 15) (N := some 91) (v := undef) (a' := ?_) (flg 32 65535) rfl rfl (any_of HT_.out (by kernel_rfl)) (fun _ _ _ h => h) (Or.inr ⟨by rfl, rfl⟩) ?_ ?_
    rotate_left
    · simp only [nrm]
      rfl
    refine pu_ (v := ?_) (a' := ?_) 16 (some 92) 131071 rfl rfl HT_ (by kernel_rfl) (.inl ⟨by rfl, ?_⟩) ?_ ?_; rotate_left 2; (· intro w'; go_simp; with_reducible rfl); (· simp only [nrm]; rfl)
    refine pu_ (v := ?_) (a' := ?_) 17 (some 93) 262143 rfl rfl HT_ (by kernel_rfl) (.inl ⟨by rfl, ?_⟩) ?_ ?_; rotate_left 2; (· intro w'; go_simp; with_reducible rfl); (· simp only [nrm]; rfl)
    refine pure_ (i := 18) (N := some 94) (v := undef) (a' := ?_) (flg 32 524287) rfl rfl (any_of HT_.out (by kernel_rfl)) (fun _ _ _ h => h) (Or.inr ⟨by rfl, rfl⟩) ?_ ?_
    rotate_left
    · simp only [nrm]
      rfl
    refine pure_ (i := 19) (N := some 95) (v := undef) (a' := ?_) (flg 32 1048575) rfl rfl (any_of HT_.out (by kernel_rfl)) (fun _ _ _ h => h) (Or.inr ⟨by rfl, rfl⟩) ?_ ?_
    rotate_left
    · simp only [nrm]
      rfl
    refine pure_ (i := 20) (N := some 96) (v := undef) (a' := ?_) (flg 32 2097151) rfl rfl (any_of HT_.out (by kernel_rfl)) (fun _ _ _ h => h) (Or.inr ⟨by rfl, rfl⟩) ?_ ?_
    rotate_left
    · simp only [nrm]
      rfl
    refine pu_ (v := ?_) (a' := ?_) 21 (some 97) 4194303 rfl rfl HT_ (by kernel_rfl) (.inl ⟨by rfl, ?_⟩) ?_ ?_; rotate_left 2; (· intro w'; go_simp; with_reducible rfl); (· simp only [nrm]; rfl)
    refine pu_ (v := ?_) (a' := ?_) 22 (some 98) 8388607 rfl rfl HT_ (by kernel_rfl) (.inl ⟨by rfl, ?_⟩) ?_ ?_; rotate_left 2; (· intro w'; go_simp; with_reducible rfl); (· simp only [nrm]; rfl)
    refine pure_ (i := 23) (N := some 99) (v := undef) (a' := ?_) (flg 32 16777215) rfl rfl (any_of HT_.out (by kernel_rfl)) (fun _ _ _ h => h) (Or.inr ⟨by rfl, rfl⟩) ?_ ?_
    rotate_left
    · simp only [nrm]
      rfl
    refine pure_ (i := 24) (N := some 100) (v := undef) (a' := ?_) (flg 32 33554431) rfl rfl (any_of HT_.out (by kernel_rfl)) (fun _ _ _ h => h) (Or.inr ⟨by rfl, rfl⟩) ?_ ?_
    rotate_left
    · simp only [nrm]
      rfl
    refine pure_ (i := 25) (N := some 101) (v := undef) (a' := ?_) (flg 32 67108863) rfl rfl (any_of HT_.out (by kernel_rfl)) (fun _ _ _ h => h) (Or.inr ⟨by rfl, rfl⟩) ?_ ?_
    rotate_left
    · simp only [nrm]
      rfl
    refine pure_ (i := 26) (N := some 102) (v := undef) (a' := ?_) (flg 32 134217727) rfl rfl (any_of HT_.out (by kernel_rfl)) (fun _ _ _ h => h) (Or.inr ⟨by rfl, rfl⟩) ?_ ?_
    rotate_left
    · simp only [nrm]
      rfl
    refine pure_ (i := 27) (N := some 103) (v := undef) (a' := ?_) (flg 32 268435455) rfl rfl (any_of HT_.out (by kernel_rfl)) (fun _ _ _ h => h) (Or.inr ⟨by rfl, rfl⟩) ?_ ?_
    rotate_left
    · simp only [nrm]
      rfl
    refine pure_ (i := 28) (N := some 104) (v := undef) (a' := ?_) (flg 32 536870911) rfl rfl (any_of HT_.out (by kernel_rfl)) (fun _ _ _ h => h) (Or.inr ⟨by rfl, rfl⟩) ?_ ?_
    rotate_left
    · simp only [nrm]
      rfl
    refine pure_ (i := 29) (N := some 105) (v := undef) (a' := ?_) (flg 32 1073741823) rfl rfl (any_of HT_.out (by kernel_rfl)) (fun _ _ _ h => h) (Or.inr ⟨by rfl, rfl⟩) ?_ ?_
    rotate_left
    · simp only [nrm]
      rfl
    refine pu_ (v := ?_) (a' := ?_) 30 (some 106) 2147483647 rfl rfl HT_ (by kernel_rfl) (.inl ⟨by rfl, ?_⟩) ?_ ?_; rotate_left 2; (· intro w'; go_simp; with_reducible rfl); (· simp only [nrm]; rfl)
    refine pu_ (v := ?_) (a' := ?_) 31 (some 75) 4294967295 rfl rfl HT_ (by kernel_rfl) (.inl ⟨by rfl, ?_⟩) ?_ ?_; rotate_left 2; (· intro w'; go_simp; with_reducible rfl); (· simp only [nrm]; rfl)
    refine done_ (done_of HT_.out (by kernel_rfl)) ?_
    clear HT_ HW_ hHeld
    go_wp2_with (go_at_call 121; refine (HN.out ({ x with was := v, k := k, c := c, st := s, o := o, y := y } : Cl) rfl rfl _ _ (H.out.pick 4 rfl)).mono ?_; rintro e w8 ⟨rfl, h8⟩; have H8 := Aside.mk (back_ (L := Are p a gC who false X lv1 (l ++ [⟨who, 1, i, 0, 0, v, v⟩]) (cn + 1) fl) (h8.pick 5 rfl).rest); clear h8)
    go_end0
    exact ⟨lv1, rfl, H8.out⟩
  · obtain ⟨hr, rfl, hie, hrd, rfl⟩ := HZ
    have HRD := Aside.mk (fun w => hready_c hie q.cls q.cyc w)
    rw [hrd] at HRD
    clear hrd hie
    have HX6 : ∀ {w1 : World} {L : List HP}, Aside (St w0 w1 (Are p a gC who false X lv1 (l ++ [⟨who, 1, i, 0, 0, v, v⟩]) (cn + 1) fl ++ clB g q ({ x with was := v, k := k, c := c, st := s, o := o, y := y } : Cl) (.pointer none) :: L)) → w1.cell? ⟨g, 6, none⟩ = some (.int .i64 0) := fun H => by have h6 := (H.out.pick 4 rfl).cell 6; exact h6.trans (by rw [← hr]; rfl)
    have x6 := HX6 H
    go_wp2_with fail
    clear x6
    replace H := Aside.mk H.out.drew
    refine start_ (n := 22) (S := fun w' => w'.cell? ⟨g, 6, none⟩ = some (.int .i64 0) ∧ w'.cell? ⟨g, 5, none⟩ = some (.int .i64 q.cls) ∧ w'.cell? ⟨g, 4, none⟩ = some (.int .i64 q.cyc) ∧ w'.cell? ⟨e5, 0, none⟩ = some (.int .i64 k) ∧ w'.cell? ⟨e5, 1, none⟩ = some (.int .i64 c) ∧ w'.cell? ⟨e5, 2, none⟩ = some (.int .i64 s) ∧ w'.cell? ⟨e5, 3, none⟩ = some (.int .i64 o) ∧ w'.cell? ⟨e5, 4, none⟩ = some (.int .i64 y)) (ds := []) (flg 22 0) (by kernel_rfl) rfl rfl (⟨HX6 H, (H.out.pick 4 rfl).cell 5, (H.out.pick 4 rfl).cell 4, (H.out.pick 5 rfl).cell 0, (H.out.pick 5 rfl).cell 1, (H.out.pick 5 rfl).cell 2, (H.out.pick 5 rfl).cell 3, (H.out.pick 5 rfl).cell 4⟩) (fun hHeld => ?_)
    refine with_tabW ask.tab6 ask.bits6 (fun HT_ HW_ => ?_)
    refine pu_ (v := ?_) (a' := ?_) 0 (some 51) 1 rfl rfl HT_ (by kernel_rfl) (.inl ⟨by rfl, ?_⟩) ?_ ?_; rotate_left 2; (· intro w'; go_simp; with_reducible rfl); (· simp only [nrm]; rfl)
    refine pu_ (v := ?_) (a' := ?_) 1 (some 52) 3 rfl rfl HT_ (by kernel_rfl) (.inl ⟨by rfl, ?_⟩) ?_ ?_; rotate_left 2; (· intro w'; go_simp; with_reducible rfl); (· simp only [nrm]; rfl)
    refine pu_ (v := ?_) (a' := ?_) 2 (some 53) 7 rfl rfl HT_ (by kernel_rfl) (.inl ⟨by rfl, ?_⟩) ?_ ?_; rotate_left 2; (· intro w'; go_simp; with_reducible rfl); (· simp only [nrm]; rfl)
    refine tk_ (v := ?_) (a' := ?_) 3 (some 54) 15 rfl rfl HT_ HW_ (by kernel_rfl) (.inl ⟨by rfl, ?_⟩) hHeld ?_ ?_; rotate_left 2; (· rintro w' ⟨_, _, _, _, _, _, _, _⟩; go_simp; with_reducible rfl); (· simp only [nrm]; rfl)
    refine pu_ (v := ?_) (a' := ?_) 4 (some 55) 31 rfl rfl HT_ (by kernel_rfl) (.inl ⟨by rfl, ?_⟩) ?_ ?_; rotate_left 2; (· intro w'; go_simp; with_reducible rfl); (· simp only [nrm]; rfl)
    refine pu_ (v := ?_) (a' := ?_) 5 (some 56) 63 rfl rfl HT_ (by kernel_rfl) (.inl ⟨by rfl, ?_⟩) ?_ ?_; rotate_left 2; (· intro w'; go_simp; with_reducible rfl); (· simp only [nrm]; rfl)
    refine pu_ (v := ?_) (a' := ?_) 6 (some 57) 127 rfl rfl HT_ (by kernel_rfl) (.inl ⟨by rfl, ?_⟩) ?_ ?_; rotate_left 2; (· intro w'; go_simp; with_reducible rfl); (· simp only [nrm]; rfl)
    refine pu_ (v := ?_) (a' := ?_) 7 (some 58) 255 rfl rfl HT_ (by kernel_rfl) (.inl ⟨by rfl, ?_⟩) ?_ ?_; rotate_left 2; (· intro w'; go_simp; with_reducible rfl); (· simp only [nrm]; rfl)
    refine pu_ (v := ?_) (a' := ?_) 8 (some 59) 511 rfl rfl HT_ (by kernel_rfl) (.inl ⟨by rfl, ?_⟩) ?_ ?_; rotate_left 2; (· intro w'; go_simp; with_reducible rfl); (· simp only [nrm]; rfl)
    refine pu_ (v := ?_) (a' := ?_) 9 (some 60) 1023 rfl rfl HT_ (by kernel_rfl) (.inl ⟨by rfl, ?_⟩) ?_ ?_; rotate_left 2; (· intro w'; go_simp; with_reducible rfl); (· simp only [nrm]; rfl)
    refine tk_ (v := ?_) (a' := ?_) 10 (some 61) 2047 rfl rfl HT_ HW_ (by kernel_rfl) (.inl ⟨by rfl, ?_⟩) hHeld ?_ ?_; rotate_left 2; (· rintro w' ⟨_, _, _, _, _, _, _, _⟩; go_simp; with_reducible rfl); (· simp only [nrm]; rfl)
    refine pu_ (v := ?_) (a' := ?_) 11 (some 62) 4095 rfl rfl HT_ (by kernel_rfl) (.inl ⟨by rfl, ?_⟩) ?_ ?_; rotate_left 2; (· intro w'; go_simp; with_reducible rfl); (· simp only [nrm]; rfl)
    refine pu_ (v := ?_) (a' := ?_) 12 (some 63) 8191 rfl rfl HT_ (by kernel_rfl) (.inl ⟨by rfl, ?_⟩) ?_ ?_; rotate_left 2; (· intro w'; go_simp; with_reducible rfl); (· simp only [nrm]; rfl)
    refine pu_ (v := ?_) (a' := ?_) 13 (some 64) 16383 rfl rfl HT_ (by kernel_rfl) (.inl ⟨by rfl, ?_⟩) ?_ ?_; rotate_left 2; (· intro w'; go_simp; with_reducible rfl); (· simp only [nrm]; rfl)
    refine tk_ (v := ?_) (a' := ?_) 14 (some 65) 32767 rfl rfl HT_ HW_ (by kernel_rfl) (.inl ⟨by rfl, ?_⟩) hHeld ?_ ?_; rotate_left 2; (· rintro w' ⟨_, _, _, _, _, _, _, _⟩; go_simp; with_reducible rfl); (· simp only [nrm]; rfl)
    refine pu_ (v := ?_) (a' := ?_) 15 (some 66) 65535 rfl rfl HT_ (by kernel_rfl) (.inl ⟨by rfl, ?_⟩) ?_ ?_; rotate_left 2; (· intro w'; go_simp; with_reducible rfl); (· simp only [nrm]; rfl)
    refine pu_ (v := ?_) (a' := ?_) 16 (some 67) 131071 rfl rfl HT_ (by kernel_rfl) (.inl ⟨by rfl, ?_⟩) ?_ ?_; rotate_left 2; (· intro w'; go_simp; with_reducible rfl); (· simp only [nrm]; rfl)
    refine pu_ (v := ?_) (a' := ?_) 17 (some 68) 262143 rfl rfl HT_ (by kernel_rfl) (.inl ⟨by rfl, ?_⟩) ?_ ?_; rotate_left 2; (· intro w'; go_simp; with_reducible rfl); (· simp only [nrm]; rfl)
    refine tk_ (v := ?_) (a' := ?_) 18 (some 69) 524287 rfl rfl HT_ HW_ (by kernel_rfl) (.inl ⟨by rfl, ?_⟩) hHeld ?_ ?_; rotate_left 2; (· rintro w' ⟨_, _, _, _, _, _, _, _⟩; go_simp; with_reducible rfl); (· simp only [nrm]; rfl)
    refine on_ 19 (some 70) 1048575 rfl rfl HT_ (by kernel_rfl) (by decide) (fun K hK => ?_)
    refine goes_ Tryd.func160 (by kernel_rfl) rfl #[.agg #[.int .i64 k, .int .i64 c, .int .i64 s, .int .i64 o, .int .i64 y], .int .i64 q.cls, .int .i64 q.cyc] (by rfl) rfl rfl (by (try simp only [List.map_toArray, List.map_cons, List.map_nil]); first | done | rfl) ?_
    refine (HRD.out _).mono ?_
    rintro e w7 ⟨rfl, hb⟩
    replace H := Aside.mk (H.out.step hb)
    clear hb
    refine ⟨_, rfl, ?_⟩
    refine hK.out _ _ ⟨HX6 H, (H.out.pick 4 rfl).cell 5, (H.out.pick 4 rfl).cell 4, (H.out.pick 5 rfl).cell 0, (H.out.pick 5 rfl).cell 1, (H.out.pick 5 rfl).cell 2, (H.out.pick 5 rfl).cell 3, (H.out.pick 5 rfl).cell 4⟩ (fun hHeld => ?_)
    clear hK K
    refine norm_ (a' := ?_) ?_ ?_
    rotate_left
    · show Act.put _ (some 70) _ = _
      simp only [nrm]
      rfl
    refine pu_ (v := ?_) (a' := ?_) 20 (some 71) 2097151 rfl rfl HT_ (by kernel_rfl) (.inl ⟨by rfl, ?_⟩) ?_ ?_; rotate_left 2; (· intro w'; go_simp; with_reducible rfl); (· simp only [nrm]; rfl)
    refine pu_ (v := ?_) (a' := ?_) 21 (some 50) 4194303 rfl rfl HT_ (by kernel_rfl) (.inl ⟨by rfl, ?_⟩) ?_ ?_; rotate_left 2; (· intro w'; go_simp; with_reducible rfl); (· simp only [nrm]; rfl)
    refine done_ (done_of HT_.out (by kernel_rfl)) ?_
    clear HT_ HW_ hHeld
    go_wp2_with (with_reducible refine stop_at (.store 3 (.tmp 74) (.const (.int .i64 1))) rfl ?_)
    refine ⟨?_⟩
    refine st_store rfl rfl rfl [.int .i64 1] (Cl.cells q { x with was := v, k := k, c := c, st := s, o := o, y := y, at_ := 1 } (.pointer none)) rfl rfl rfl (Nat.le_of_ble_eq_true rfl) (by simp [Value.oneCell']) (H.out.pick 4 rfl) rfl ?_
    intro w8 h8
    have H8 := Aside.mk (back_ (L := Are p a gC who false X lv1 (l ++ [⟨who, 1, i, 0, 0, v, v⟩]) (cn + 1) fl) (h8.pick 5 rfl).rest)
    clear h8
    go_wp2
    go_end0
    exact ⟨lv1, rfl, H8.out⟩
  · obtain ⟨hr, rfl, hie, hrd, hdu, rfl⟩ := HZ
    have HRD := Aside.mk (fun w => hready_c hie q.cls q.cyc w)
    rw [hrd] at HRD
    have HDU := Aside.mk (fun w => hdue_c hie q.cyc w)
    replace HDU := Aside.mk (fun w => by have := HDU.out w; unfold dueE at hdu; rwa [hdu] at this)
    clear hie
    have HX6 : ∀ {w1 : World} {L : List HP}, Aside (St w0 w1 (Are p a gC who false X lv1 (l ++ [⟨who, 1, i, 0, 0, v, v⟩]) (cn + 1) fl ++ clB g q ({ x with was := v, k := k, c := c, st := s, o := o, y := y } : Cl) (.pointer none) :: L)) → w1.cell? ⟨g, 6, none⟩ = some (.int .i64 0) := fun H => by have h6 := (H.out.pick 4 rfl).cell 6; exact h6.trans (by rw [← hr]; rfl)
    have x6 := HX6 H
    go_wp2_with fail
    clear x6
    replace H := Aside.mk H.out.drew
    refine start_ (n := 22) (S := fun w' => w'.cell? ⟨g, 6, none⟩ = some (.int .i64 0) ∧ w'.cell? ⟨g, 5, none⟩ = some (.int .i64 q.cls) ∧ w'.cell? ⟨g, 4, none⟩ = some (.int .i64 q.cyc) ∧ w'.cell? ⟨e5, 0, none⟩ = some (.int .i64 k) ∧ w'.cell? ⟨e5, 1, none⟩ = some (.int .i64 c) ∧ w'.cell? ⟨e5, 2, none⟩ = some (.int .i64 s) ∧ w'.cell? ⟨e5, 3, none⟩ = some (.int .i64 o) ∧ w'.cell? ⟨e5, 4, none⟩ = some (.int .i64 y)) (ds := []) (flg 22 0) (by kernel_rfl) rfl rfl (⟨HX6 H, (H.out.pick 4 rfl).cell 5, (H.out.pick 4 rfl).cell 4, (H.out.pick 5 rfl).cell 0, (H.out.pick 5 rfl).cell 1, (H.out.pick 5 rfl).cell 2, (H.out.pick 5 rfl).cell 3, (H.out.pick 5 rfl).cell 4⟩) (fun hHeld => ?_)
    refine with_tabW ask.tab6 ask.bits6 (fun HT_ HW_ => ?_)
    refine pu_ (v := ?_) (a' := ?_) 0 (some 51) 1 rfl rfl HT_ (by kernel_rfl) (.inl ⟨by rfl, ?_⟩) ?_ ?_; rotate_left 2; (· intro w'; go_simp; with_reducible rfl); (· simp only [nrm]; rfl)
    refine pu_ (v := ?_) (a' := ?_) 1 (some 52) 3 rfl rfl HT_ (by kernel_rfl) (.inl ⟨by rfl, ?_⟩) ?_ ?_; rotate_left 2; (· intro w'; go_simp; with_reducible rfl); (· simp only [nrm]; rfl)
    refine pu_ (v := ?_) (a' := ?_) 2 (some 53) 7 rfl rfl HT_ (by kernel_rfl) (.inl ⟨by rfl, ?_⟩) ?_ ?_; rotate_left 2; (· intro w'; go_simp; with_reducible rfl); (· simp only [nrm]; rfl)
    refine tk_ (v := ?_) (a' := ?_) 3 (some 54) 15 rfl rfl HT_ HW_ (by kernel_rfl) (.inl ⟨by rfl, ?_⟩) hHeld ?_ ?_; rotate_left 2; (· rintro w' ⟨_, _, _, _, _, _, _, _⟩; go_simp; with_reducible rfl); (· simp only [nrm]; rfl)
    refine pu_ (v := ?_) (a' := ?_) 4 (some 55) 31 rfl rfl HT_ (by kernel_rfl) (.inl ⟨by rfl, ?_⟩) ?_ ?_; rotate_left 2; (· intro w'; go_simp; with_reducible rfl); (· simp only [nrm]; rfl)
    refine pu_ (v := ?_) (a' := ?_) 5 (some 56) 63 rfl rfl HT_ (by kernel_rfl) (.inl ⟨by rfl, ?_⟩) ?_ ?_; rotate_left 2; (· intro w'; go_simp; with_reducible rfl); (· simp only [nrm]; rfl)
    refine pu_ (v := ?_) (a' := ?_) 6 (some 57) 127 rfl rfl HT_ (by kernel_rfl) (.inl ⟨by rfl, ?_⟩) ?_ ?_; rotate_left 2; (· intro w'; go_simp; with_reducible rfl); (· simp only [nrm]; rfl)
    refine pu_ (v := ?_) (a' := ?_) 7 (some 58) 255 rfl rfl HT_ (by kernel_rfl) (.inl ⟨by rfl, ?_⟩) ?_ ?_; rotate_left 2; (· intro w'; go_simp; with_reducible rfl); (· simp only [nrm]; rfl)
    refine pu_ (v := ?_) (a' := ?_) 8 (some 59) 511 rfl rfl HT_ (by kernel_rfl) (.inl ⟨by rfl, ?_⟩) ?_ ?_; rotate_left 2; (· intro w'; go_simp; with_reducible rfl); (· simp only [nrm]; rfl)
    refine pu_ (v := ?_) (a' := ?_) 9 (some 60) 1023 rfl rfl HT_ (by kernel_rfl) (.inl ⟨by rfl, ?_⟩) ?_ ?_; rotate_left 2; (· intro w'; go_simp; with_reducible rfl); (· simp only [nrm]; rfl)
    refine tk_ (v := ?_) (a' := ?_) 10 (some 61) 2047 rfl rfl HT_ HW_ (by kernel_rfl) (.inl ⟨by rfl, ?_⟩) hHeld ?_ ?_; rotate_left 2; (· rintro w' ⟨_, _, _, _, _, _, _, _⟩; go_simp; with_reducible rfl); (· simp only [nrm]; rfl)
    refine pu_ (v := ?_) (a' := ?_) 11 (some 62) 4095 rfl rfl HT_ (by kernel_rfl) (.inl ⟨by rfl, ?_⟩) ?_ ?_; rotate_left 2; (· intro w'; go_simp; with_reducible rfl); (· simp only [nrm]; rfl)
    refine pu_ (v := ?_) (a' := ?_) 12 (some 63) 8191 rfl rfl HT_ (by kernel_rfl) (.inl ⟨by rfl, ?_⟩) ?_ ?_; rotate_left 2; (· intro w'; go_simp; with_reducible rfl); (· simp only [nrm]; rfl)
    refine pu_ (v := ?_) (a' := ?_) 13 (some 64) 16383 rfl rfl HT_ (by kernel_rfl) (.inl ⟨by rfl, ?_⟩) ?_ ?_; rotate_left 2; (· intro w'; go_simp; with_reducible rfl); (· simp only [nrm]; rfl)
    refine tk_ (v := ?_) (a' := ?_) 14 (some 65) 32767 rfl rfl HT_ HW_ (by kernel_rfl) (.inl ⟨by rfl, ?_⟩) hHeld ?_ ?_; rotate_left 2; (· rintro w' ⟨_, _, _, _, _, _, _, _⟩; go_simp; with_reducible rfl); (· simp only [nrm]; rfl)
    refine pu_ (v := ?_) (a' := ?_) 15 (some 66) 65535 rfl rfl HT_ (by kernel_rfl) (.inl ⟨by rfl, ?_⟩) ?_ ?_; rotate_left 2; (· intro w'; go_simp; with_reducible rfl); (· simp only [nrm]; rfl)
    refine pu_ (v := ?_) (a' := ?_) 16 (some 67) 131071 rfl rfl HT_ (by kernel_rfl) (.inl ⟨by rfl, ?_⟩) ?_ ?_; rotate_left 2; (· intro w'; go_simp; with_reducible rfl); (· simp only [nrm]; rfl)
    refine pu_ (v := ?_) (a' := ?_) 17 (some 68) 262143 rfl rfl HT_ (by kernel_rfl) (.inl ⟨by rfl, ?_⟩) ?_ ?_; rotate_left 2; (· intro w'; go_simp; with_reducible rfl); (· simp only [nrm]; rfl)
    refine tk_ (v := ?_) (a' := ?_) 18 (some 69) 524287 rfl rfl HT_ HW_ (by kernel_rfl) (.inl ⟨by rfl, ?_⟩) hHeld ?_ ?_; rotate_left 2; (· rintro w' ⟨_, _, _, _, _, _, _, _⟩; go_simp; with_reducible rfl); (· simp only [nrm]; rfl)
    refine on_ 19 (some 70) 1048575 rfl rfl HT_ (by kernel_rfl) (by decide) (fun K hK => ?_)
    refine goes_ Tryd.func160 (by kernel_rfl) rfl #[.agg #[.int .i64 k, .int .i64 c, .int .i64 s, .int .i64 o, .int .i64 y], .int .i64 q.cls, .int .i64 q.cyc] (by rfl) rfl rfl (by (try simp only [List.map_toArray, List.map_cons, List.map_nil]); first | done | rfl) ?_
    refine (HRD.out _).mono ?_
    rintro e w7 ⟨rfl, hb⟩
    replace H := Aside.mk (H.out.step hb)
    clear hb
    refine ⟨_, rfl, ?_⟩
    refine hK.out _ _ ⟨HX6 H, (H.out.pick 4 rfl).cell 5, (H.out.pick 4 rfl).cell 4, (H.out.pick 5 rfl).cell 0, (H.out.pick 5 rfl).cell 1, (H.out.pick 5 rfl).cell 2, (H.out.pick 5 rfl).cell 3, (H.out.pick 5 rfl).cell 4⟩ (fun hHeld => ?_)
    clear hK K
    refine norm_ (a' := ?_) ?_ ?_
    rotate_left
    · show Act.put _ (some 70) _ = _
      simp only [nrm]
      rfl
    refine pu_ (v := ?_) (a' := ?_) 20 (some 71) 2097151 rfl rfl HT_ (by kernel_rfl) (.inl ⟨by rfl, ?_⟩) ?_ ?_; rotate_left 2; (· intro w'; go_simp; with_reducible rfl); (· simp only [nrm]; rfl)
    refine pu_ (v := ?_) (a' := ?_) 21 (some 50) 4194303 rfl rfl HT_ (by kernel_rfl) (.inl ⟨by rfl, ?_⟩) ?_ ?_; rotate_left 2; (· intro w'; go_simp; with_reducible rfl); (· simp only [nrm]; rfl)
    refine done_ (done_of HT_.out (by kernel_rfl)) ?_
    clear HT_ HW_ hHeld
    go_wp2_with fail
    replace H := Aside.mk H.out.drew
    refine start_ (n := 32) (S := fun w' => w'.cell? ⟨g, 6, none⟩ = some (.int .i64 0) ∧ w'.cell? ⟨g, 5, none⟩ = some (.int .i64 q.cls) ∧ w'.cell? ⟨g, 4, none⟩ = some (.int .i64 q.cyc) ∧ w'.cell? ⟨e5, 0, none⟩ = some (.int .i64 k) ∧ w'.cell? ⟨e5, 1, none⟩ = some (.int .i64 c) ∧ w'.cell? ⟨e5, 2, none⟩ = some (.int .i64 s) ∧ w'.cell? ⟨e5, 3, none⟩ = some (.int .i64 o) ∧ w'.cell? ⟨e5, 4, none⟩ = some (.int .i64 y)) (ds := []) (flg 32 0) (by kernel_rfl) rfl rfl (⟨HX6 H, (H.out.pick 4 rfl).cell 5, (H.out.pick 4 rfl).cell 4, (H.out.pick 5 rfl).cell 0, (H.out.pick 5 rfl).cell 1, (H.out.pick 5 rfl).cell 2, (H.out.pick 5 rfl).cell 3, (H.out.pick 5 rfl).cell 4⟩) (fun hHeld => ?_)
    refine with_tabW ask.tab8 ask.bits8 (fun HT_ HW_ => ?_)
    refine pu_ (v := ?_) (a' := ?_) 0 (some 76) 1 rfl rfl HT_ (by kernel_rfl) (.inl ⟨by rfl, ?_⟩) ?_ ?_; rotate_left 2; (· intro w'; go_simp; with_reducible rfl); (· simp only [nrm]; rfl)
    refine pu_ (v := ?_) (a' := ?_) 1 (some 77) 3 rfl rfl HT_ (by kernel_rfl) (.inl ⟨by rfl, ?_⟩) ?_ ?_; rotate_left 2; (· intro w'; go_simp; with_reducible rfl); (· simp only [nrm]; rfl)
    refine pu_ (v := ?_) (a' := ?_) 2 (some 78) 7 rfl rfl HT_ (by kernel_rfl) (.inl ⟨by rfl, ?_⟩) ?_ ?_; rotate_left 2; (· intro w'; go_simp; with_reducible rfl); (· simp only [nrm]; rfl)
    refine tk_ (v := ?_) (a' := ?_) 3 (some 79) 15 rfl rfl HT_ HW_ (by kernel_rfl) (.inl ⟨by rfl, ?_⟩) hHeld ?_ ?_; rotate_left 2; (· rintro w' ⟨_, _, _, _, _, _, _, _⟩; go_simp; with_reducible rfl); (· simp only [nrm]; rfl)
    refine pu_ (v := ?_) (a' := ?_) 4 (some 80) 31 rfl rfl HT_ (by kernel_rfl) (.inl ⟨by rfl, ?_⟩) ?_ ?_; rotate_left 2; (· intro w'; go_simp; with_reducible rfl); (· simp only [nrm]; rfl)
    refine pu_ (v := ?_) (a' := ?_) 5 (some 81) 63 rfl rfl HT_ (by kernel_rfl) (.inl ⟨by rfl, ?_⟩) ?_ ?_; rotate_left 2; (· intro w'; go_simp; with_reducible rfl); (· simp only [nrm]; rfl)
    refine pu_ (v := ?_) (a' := ?_) 6 (some 82) 127 rfl rfl HT_ (by kernel_rfl) (.inl ⟨by rfl, ?_⟩) ?_ ?_; rotate_left 2; (· intro w'; go_simp; with_reducible rfl); (· simp only [nrm]; rfl)
    refine pu_ (v := ?_) (a' := ?_) 7 (some 83) 255 rfl rfl HT_ (by kernel_rfl) (.inl ⟨by rfl, ?_⟩) ?_ ?_; rotate_left 2; (· intro w'; go_simp; with_reducible rfl); (· simp only [nrm]; rfl)
    refine pu_ (v := ?_) (a' := ?_) 8 (some 84) 511 rfl rfl HT_ (by kernel_rfl) (.inl ⟨by rfl, ?_⟩) ?_ ?_; rotate_left 2; (· intro w'; go_simp; with_reducible rfl); (· simp only [nrm]; rfl)
    refine pu_ (v := ?_) (a' := ?_) 9 (some 85) 1023 rfl rfl HT_ (by kernel_rfl) (.inl ⟨by rfl, ?_⟩) ?_ ?_; rotate_left 2; (· intro w'; go_simp; with_reducible rfl); (· simp only [nrm]; rfl)
    refine tk_ (v := ?_) (a' := ?_) 10 (some 86) 2047 rfl rfl HT_ HW_ (by kernel_rfl) (.inl ⟨by rfl, ?_⟩) hHeld ?_ ?_; rotate_left 2; (· rintro w' ⟨_, _, _, _, _, _, _, _⟩; go_simp; with_reducible rfl); (· simp only [nrm]; rfl)
    refine pu_ (v := ?_) (a' := ?_) 11 (some 87) 4095 rfl rfl HT_ (by kernel_rfl) (.inl ⟨by rfl, ?_⟩) ?_ ?_; rotate_left 2; (· intro w'; go_simp; with_reducible rfl); (· simp only [nrm]; rfl)
    refine pu_ (v := ?_) (a' := ?_) 12 (some 88) 8191 rfl rfl HT_ (by kernel_rfl) (.inl ⟨by rfl, ?_⟩) ?_ ?_; rotate_left 2; (· intro w'; go_simp; with_reducible rfl); (· simp only [nrm]; rfl)
    refine pu_ (v := ?_) (a' := ?_) 13 (some 89) 16383 rfl rfl HT_ (by kernel_rfl) (.inl ⟨by rfl, ?_⟩) ?_ ?_; rotate_left 2; (· intro w'; go_simp; with_reducible rfl); (· simp only [nrm]; rfl)
    refine tk_ (v := ?_) (a' := ?_) 14 (some 90) 32767 rfl rfl HT_ HW_ (by kernel_rfl) (.inl ⟨by rfl, ?_⟩) hHeld ?_ ?_; rotate_left 2; (· rintro w' ⟨_, _, _, _, _, _, _, _⟩; go_simp; with_reducible rfl); (· simp only [nrm]; rfl)
    refine on_ 15 (some 91) 65535 rfl rfl HT_ (by kernel_rfl) (by decide) (fun K hK => ?_)
    refine goes_ Tryd.func161 (by kernel_rfl) rfl #[.agg #[.int .i64 k, .int .i64 c, .int .i64 s, .int .i64 o, .int .i64 y], .int .i64 q.cyc] (by rfl) rfl rfl (by (try simp only [List.map_toArray, List.map_cons, List.map_nil]); first | done | rfl) ?_
    refine (HDU.out _).mono ?_
    rintro e w7 ⟨rfl, hb⟩
    replace H := Aside.mk (H.out.step hb)
    clear hb
    refine ⟨_, rfl, ?_⟩
    refine hK.out _ _ ⟨HX6 H, (H.out.pick 4 rfl).cell 5, (H.out.pick 4 rfl).cell 4, (H.out.pick 5 rfl).cell 0, (H.out.pick 5 rfl).cell 1, (H.out.pick 5 rfl).cell 2, (H.out.pick 5 rfl).cell 3, (H.out.pick 5 rfl).cell 4⟩ (fun hHeld => ?_)
    clear hK K
    refine norm_ (a' := ?_) ?_ ?_
    rotate_left
    · show Act.put _ (some 91) _ = _
      simp only [nrm]
      rfl
    refine pu_ (v := ?_) (a' := ?_) 16 (some 92) 131071 rfl rfl HT_ (by kernel_rfl) (.inl ⟨by rfl, ?_⟩) ?_ ?_; rotate_left 2; (· intro w'; go_simp; with_reducible rfl); (· simp only [nrm]; rfl)
    refine pu_ (v := ?_) (a' := ?_) 17 (some 93) 262143 rfl rfl HT_ (by kernel_rfl) (.inl ⟨by rfl, ?_⟩) ?_ ?_; rotate_left 2; (· intro w'; go_simp; with_reducible rfl); (· simp only [nrm]; rfl)
    refine pure_ (i := 18) (N := some 94) (v := undef) (a' := ?_) (flg 32 524287) rfl rfl (any_of HT_.out (by kernel_rfl)) (fun _ _ _ h => h) (Or.inr ⟨by rfl, rfl⟩) ?_ ?_
    rotate_left
    · simp only [nrm]
      rfl
    refine pure_ (i := 19) (N := some 95) (v := undef) (a' := ?_) (flg 32 1048575) rfl rfl (any_of HT_.out (by kernel_rfl)) (fun _ _ _ h => h) (Or.inr ⟨by rfl, rfl⟩) ?_ ?_
    rotate_left
    · simp only [nrm]
      rfl
    refine pure_ (i := 20) (N := some 96) (v := undef) (a' := ?_) (flg 32 2097151) rfl rfl (any_of HT_.out (by kernel_rfl)) (fun _ _ _ h => h) (Or.inr ⟨by rfl, rfl⟩) ?_ ?_
    rotate_left
    · simp only [nrm]
      rfl
    refine pu_ (v := ?_) (a' := ?_) 21 (some 97) 4194303 rfl rfl HT_ (by kernel_rfl) (.inl ⟨by rfl, ?_⟩) ?_ ?_; rotate_left 2; (· intro w'; go_simp; with_reducible rfl); (· simp only [nrm]; rfl)
    refine pu_ (v := ?_) (a' := ?_) 22 (some 98) 8388607 rfl rfl HT_ (by kernel_rfl) (.inl ⟨by rfl, ?_⟩) ?_ ?_; rotate_left 2; (· intro w'; go_simp; with_reducible rfl); (· simp only [nrm]; rfl)
    refine pure_ (i := 23) (N := some 99) (v := undef) (a' := ?_) (flg 32 16777215) rfl rfl (any_of HT_.out (by kernel_rfl)) (fun _ _ _ h => h) (Or.inr ⟨by rfl, rfl⟩) ?_ ?_
    rotate_left
    · simp only [nrm]
      rfl
    refine pure_ (i := 24) (N := some 100) (v := undef) (a' := ?_) (flg 32 33554431) rfl rfl (any_of HT_.out (by kernel_rfl)) (fun _ _ _ h => h) (Or.inr ⟨by rfl, rfl⟩) ?_ ?_
    rotate_left
    · simp only [nrm]
      rfl
    refine pure_ (i := 25) (N := some 101) (v := undef) (a' := ?_) (flg 32 67108863) rfl rfl (any_of HT_.out (by kernel_rfl)) (fun _ _ _ h => h) (Or.inr ⟨by rfl, rfl⟩) ?_ ?_
    rotate_left
    · simp only [nrm]
      rfl
    refine pure_ (i := 26) (N := some 102) (v := undef) (a' := ?_) (flg 32 134217727) rfl rfl (any_of HT_.out (by kernel_rfl)) (fun _ _ _ h => h) (Or.inr ⟨by rfl, rfl⟩) ?_ ?_
    rotate_left
    · simp only [nrm]
      rfl
    refine pure_ (i := 27) (N := some 103) (v := undef) (a' := ?_) (flg 32 268435455) rfl rfl (any_of HT_.out (by kernel_rfl)) (fun _ _ _ h => h) (Or.inr ⟨by rfl, rfl⟩) ?_ ?_
    rotate_left
    · simp only [nrm]
      rfl
    refine pure_ (i := 28) (N := some 104) (v := undef) (a' := ?_) (flg 32 536870911) rfl rfl (any_of HT_.out (by kernel_rfl)) (fun _ _ _ h => h) (Or.inr ⟨by rfl, rfl⟩) ?_ ?_
    rotate_left
    · simp only [nrm]
      rfl
    refine pure_ (i := 29) (N := some 105) (v := undef) (a' := ?_) (flg 32 1073741823) rfl rfl (any_of HT_.out (by kernel_rfl)) (fun _ _ _ h => h) (Or.inr ⟨by rfl, rfl⟩) ?_ ?_
    rotate_left
    · simp only [nrm]
      rfl
    refine pu_ (v := ?_) (a' := ?_) 30 (some 106) 2147483647 rfl rfl HT_ (by kernel_rfl) (.inl ⟨by rfl, ?_⟩) ?_ ?_; rotate_left 2; (· intro w'; go_simp; with_reducible rfl); (· simp only [nrm]; rfl)
    refine pu_ (v := ?_) (a' := ?_) 31 (some 75) 4294967295 rfl rfl HT_ (by kernel_rfl) (.inl ⟨by rfl, ?_⟩) ?_ ?_; rotate_left 2; (· intro w'; go_simp; with_reducible rfl); (· simp only [nrm]; rfl)
    refine done_ (done_of HT_.out (by kernel_rfl)) ?_
    clear HT_ HW_ hHeld
    go_wp2_with (go_at_call 121; refine (HN.out ({ x with was := v, k := k, c := c, st := s, o := o, y := y } : Cl) rfl rfl _ _ (H.out.pick 4 rfl)).mono ?_; rintro e w8 ⟨rfl, h8⟩; have H8 := Aside.mk (back_ (L := Are p a gC who false X lv1 (l ++ [⟨who, 1, i, 0, 0, v, v⟩]) (cn + 1) fl) (h8.pick 5 rfl).rest); clear h8)
    go_end0
    exact ⟨lv1, rfl, H8.out⟩
  · obtain ⟨hr, rfl, hie, hrd, hdu, rfl, rfl⟩ := HZ
    have HRD := Aside.mk (fun w => hready_c hie q.cls q.cyc w)
    rw [hrd] at HRD
    have HDU := Aside.mk (fun w => hdue_c hie q.cyc w)
    replace HDU := Aside.mk (fun w => by have := HDU.out w; unfold dueE at hdu; rwa [hdu] at this)
    clear hie
    have HX6 : ∀ {w1 : World} {L : List HP}, Aside (St w0 w1 (Are p a gC who false X lv1 (l ++ [⟨who, 1, i, 0, 0, v, v⟩]) (cn + 1) fl ++ clB g q ({ x with was := v, k := 2, c := c, st := s, o := o, y := y } : Cl) (.pointer none) :: L)) → w1.cell? ⟨g, 6, none⟩ = some (.int .i64 0) := fun H => by have h6 := (H.out.pick 4 rfl).cell 6; exact h6.trans (by rw [← hr]; rfl)
    have x6 := HX6 H
    go_wp2_with fail
    clear x6
    replace H := Aside.mk H.out.drew
    refine start_ (n := 22) (S := fun w' => w'.cell? ⟨g, 6, none⟩ = some (.int .i64 0) ∧ w'.cell? ⟨g, 5, none⟩ = some (.int .i64 q.cls) ∧ w'.cell? ⟨g, 4, none⟩ = some (.int .i64 q.cyc) ∧ w'.cell? ⟨e5, 0, none⟩ = some (.int .i64 2) ∧ w'.cell? ⟨e5, 1, none⟩ = some (.int .i64 c) ∧ w'.cell? ⟨e5, 2, none⟩ = some (.int .i64 s) ∧ w'.cell? ⟨e5, 3, none⟩ = some (.int .i64 o) ∧ w'.cell? ⟨e5, 4, none⟩ = some (.int .i64 y)) (ds := []) (flg 22 0) (by kernel_rfl) rfl rfl (⟨HX6 H, (H.out.pick 4 rfl).cell 5, (H.out.pick 4 rfl).cell 4, (H.out.pick 5 rfl).cell 0, (H.out.pick 5 rfl).cell 1, (H.out.pick 5 rfl).cell 2, (H.out.pick 5 rfl).cell 3, (H.out.pick 5 rfl).cell 4⟩) (fun hHeld => ?_)
    refine with_tabW ask.tab6 ask.bits6 (fun HT_ HW_ => ?_)
    refine pu_ (v := ?_) (a' := ?_) 0 (some 51) 1 rfl rfl HT_ (by kernel_rfl) (.inl ⟨by rfl, ?_⟩) ?_ ?_; rotate_left 2; (· intro w'; go_simp; with_reducible rfl); (· simp only [nrm]; rfl)
    refine pu_ (v := ?_) (a' := ?_) 1 (some 52) 3 rfl rfl HT_ (by kernel_rfl) (.inl ⟨by rfl, ?_⟩) ?_ ?_; rotate_left 2; (· intro w'; go_simp; with_reducible rfl); (· simp only [nrm]; rfl)
    refine pu_ (v := ?_) (a' := ?_) 2 (some 53) 7 rfl rfl HT_ (by kernel_rfl) (.inl ⟨by rfl, ?_⟩) ?_ ?_; rotate_left 2; (· intro w'; go_simp; with_reducible rfl); (· simp only [nrm]; rfl)
    refine tk_ (v := ?_) (a' := ?_) 3 (some 54) 15 rfl rfl HT_ HW_ (by kernel_rfl) (.inl ⟨by rfl, ?_⟩) hHeld ?_ ?_; rotate_left 2; (· rintro w' ⟨_, _, _, _, _, _, _, _⟩; go_simp; with_reducible rfl); (· simp only [nrm]; rfl)
    refine pu_ (v := ?_) (a' := ?_) 4 (some 55) 31 rfl rfl HT_ (by kernel_rfl) (.inl ⟨by rfl, ?_⟩) ?_ ?_; rotate_left 2; (· intro w'; go_simp; with_reducible rfl); (· simp only [nrm]; rfl)
    refine pu_ (v := ?_) (a' := ?_) 5 (some 56) 63 rfl rfl HT_ (by kernel_rfl) (.inl ⟨by rfl, ?_⟩) ?_ ?_; rotate_left 2; (· intro w'; go_simp; with_reducible rfl); (· simp only [nrm]; rfl)
    refine pu_ (v := ?_) (a' := ?_) 6 (some 57) 127 rfl rfl HT_ (by kernel_rfl) (.inl ⟨by rfl, ?_⟩) ?_ ?_; rotate_left 2; (· intro w'; go_simp; with_reducible rfl); (· simp only [nrm]; rfl)
    refine pu_ (v := ?_) (a' := ?_) 7 (some 58) 255 rfl rfl HT_ (by kernel_rfl) (.inl ⟨by rfl, ?_⟩) ?_ ?_; rotate_left 2; (· intro w'; go_simp; with_reducible rfl); (· simp only [nrm]; rfl)
    refine pu_ (v := ?_) (a' := ?_) 8 (some 59) 511 rfl rfl HT_ (by kernel_rfl) (.inl ⟨by rfl, ?_⟩) ?_ ?_; rotate_left 2; (· intro w'; go_simp; with_reducible rfl); (· simp only [nrm]; rfl)
    refine pu_ (v := ?_) (a' := ?_) 9 (some 60) 1023 rfl rfl HT_ (by kernel_rfl) (.inl ⟨by rfl, ?_⟩) ?_ ?_; rotate_left 2; (· intro w'; go_simp; with_reducible rfl); (· simp only [nrm]; rfl)
    refine tk_ (v := ?_) (a' := ?_) 10 (some 61) 2047 rfl rfl HT_ HW_ (by kernel_rfl) (.inl ⟨by rfl, ?_⟩) hHeld ?_ ?_; rotate_left 2; (· rintro w' ⟨_, _, _, _, _, _, _, _⟩; go_simp; with_reducible rfl); (· simp only [nrm]; rfl)
    refine pu_ (v := ?_) (a' := ?_) 11 (some 62) 4095 rfl rfl HT_ (by kernel_rfl) (.inl ⟨by rfl, ?_⟩) ?_ ?_; rotate_left 2; (· intro w'; go_simp; with_reducible rfl); (· simp only [nrm]; rfl)
    refine pu_ (v := ?_) (a' := ?_) 12 (some 63) 8191 rfl rfl HT_ (by kernel_rfl) (.inl ⟨by rfl, ?_⟩) ?_ ?_; rotate_left 2; (· intro w'; go_simp; with_reducible rfl); (· simp only [nrm]; rfl)
    refine pu_ (v := ?_) (a' := ?_) 13 (some 64) 16383 rfl rfl HT_ (by kernel_rfl) (.inl ⟨by rfl, ?_⟩) ?_ ?_; rotate_left 2; (· intro w'; go_simp; with_reducible rfl); (· simp only [nrm]; rfl)
    refine tk_ (v := ?_) (a' := ?_) 14 (some 65) 32767 rfl rfl HT_ HW_ (by kernel_rfl) (.inl ⟨by rfl, ?_⟩) hHeld ?_ ?_; rotate_left 2; (· rintro w' ⟨_, _, _, _, _, _, _, _⟩; go_simp; with_reducible rfl); (· simp only [nrm]; rfl)
    refine pu_ (v := ?_) (a' := ?_) 15 (some 66) 65535 rfl rfl HT_ (by kernel_rfl) (.inl ⟨by rfl, ?_⟩) ?_ ?_; rotate_left 2; (· intro w'; go_simp; with_reducible rfl); (· simp only [nrm]; rfl)
    refine pu_ (v := ?_) (a' := ?_) 16 (some 67) 131071 rfl rfl HT_ (by kernel_rfl) (.inl ⟨by rfl, ?_⟩) ?_ ?_; rotate_left 2; (· intro w'; go_simp; with_reducible rfl); (· simp only [nrm]; rfl)
    refine pu_ (v := ?_) (a' := ?_) 17 (some 68) 262143 rfl rfl HT_ (by kernel_rfl) (.inl ⟨by rfl, ?_⟩) ?_ ?_; rotate_left 2; (· intro w'; go_simp; with_reducible rfl); (· simp only [nrm]; rfl)
    refine tk_ (v := ?_) (a' := ?_) 18 (some 69) 524287 rfl rfl HT_ HW_ (by kernel_rfl) (.inl ⟨by rfl, ?_⟩) hHeld ?_ ?_; rotate_left 2; (· rintro w' ⟨_, _, _, _, _, _, _, _⟩; go_simp; with_reducible rfl); (· simp only [nrm]; rfl)
    refine on_ 19 (some 70) 1048575 rfl rfl HT_ (by kernel_rfl) (by decide) (fun K hK => ?_)
    refine goes_ Tryd.func160 (by kernel_rfl) rfl #[.agg #[.int .i64 2, .int .i64 c, .int .i64 s, .int .i64 o, .int .i64 y], .int .i64 q.cls, .int .i64 q.cyc] (by rfl) rfl rfl (by (try simp only [List.map_toArray, List.map_cons, List.map_nil]); first | done | rfl) ?_
    refine (HRD.out _).mono ?_
    rintro e w7 ⟨rfl, hb⟩
    replace H := Aside.mk (H.out.step hb)
    clear hb
    refine ⟨_, rfl, ?_⟩
    refine hK.out _ _ ⟨HX6 H, (H.out.pick 4 rfl).cell 5, (H.out.pick 4 rfl).cell 4, (H.out.pick 5 rfl).cell 0, (H.out.pick 5 rfl).cell 1, (H.out.pick 5 rfl).cell 2, (H.out.pick 5 rfl).cell 3, (H.out.pick 5 rfl).cell 4⟩ (fun hHeld => ?_)
    clear hK K
    refine norm_ (a' := ?_) ?_ ?_
    rotate_left
    · show Act.put _ (some 70) _ = _
      simp only [nrm]
      rfl
    refine pu_ (v := ?_) (a' := ?_) 20 (some 71) 2097151 rfl rfl HT_ (by kernel_rfl) (.inl ⟨by rfl, ?_⟩) ?_ ?_; rotate_left 2; (· intro w'; go_simp; with_reducible rfl); (· simp only [nrm]; rfl)
    refine pu_ (v := ?_) (a' := ?_) 21 (some 50) 4194303 rfl rfl HT_ (by kernel_rfl) (.inl ⟨by rfl, ?_⟩) ?_ ?_; rotate_left 2; (· intro w'; go_simp; with_reducible rfl); (· simp only [nrm]; rfl)
    refine done_ (done_of HT_.out (by kernel_rfl)) ?_
    clear HT_ HW_ hHeld
    go_wp2_with fail
    replace H := Aside.mk H.out.drew
    refine start_ (n := 32) (S := fun w' => w'.cell? ⟨g, 6, none⟩ = some (.int .i64 0) ∧ w'.cell? ⟨g, 5, none⟩ = some (.int .i64 q.cls) ∧ w'.cell? ⟨g, 4, none⟩ = some (.int .i64 q.cyc) ∧ w'.cell? ⟨e5, 0, none⟩ = some (.int .i64 2) ∧ w'.cell? ⟨e5, 1, none⟩ = some (.int .i64 c) ∧ w'.cell? ⟨e5, 2, none⟩ = some (.int .i64 s) ∧ w'.cell? ⟨e5, 3, none⟩ = some (.int .i64 o) ∧ w'.cell? ⟨e5, 4, none⟩ = some (.int .i64 y)) (ds := []) (flg 32 0) (by kernel_rfl) rfl rfl (⟨HX6 H, (H.out.pick 4 rfl).cell 5, (H.out.pick 4 rfl).cell 4, (H.out.pick 5 rfl).cell 0, (H.out.pick 5 rfl).cell 1, (H.out.pick 5 rfl).cell 2, (H.out.pick 5 rfl).cell 3, (H.out.pick 5 rfl).cell 4⟩) (fun hHeld => ?_)
    refine with_tabW ask.tab8 ask.bits8 (fun HT_ HW_ => ?_)
    refine pu_ (v := ?_) (a' := ?_) 0 (some 76) 1 rfl rfl HT_ (by kernel_rfl) (.inl ⟨by rfl, ?_⟩) ?_ ?_; rotate_left 2; (· intro w'; go_simp; with_reducible rfl); (· simp only [nrm]; rfl)
    refine pu_ (v := ?_) (a' := ?_) 1 (some 77) 3 rfl rfl HT_ (by kernel_rfl) (.inl ⟨by rfl, ?_⟩) ?_ ?_; rotate_left 2; (· intro w'; go_simp; with_reducible rfl); (· simp only [nrm]; rfl)
    refine pu_ (v := ?_) (a' := ?_) 2 (some 78) 7 rfl rfl HT_ (by kernel_rfl) (.inl ⟨by rfl, ?_⟩) ?_ ?_; rotate_left 2; (· intro w'; go_simp; with_reducible rfl); (· simp only [nrm]; rfl)
    refine tk_ (v := ?_) (a' := ?_) 3 (some 79) 15 rfl rfl HT_ HW_ (by kernel_rfl) (.inl ⟨by rfl, ?_⟩) hHeld ?_ ?_; rotate_left 2; (· rintro w' ⟨_, _, _, _, _, _, _, _⟩; go_simp; with_reducible rfl); (· simp only [nrm]; rfl)
    refine pu_ (v := ?_) (a' := ?_) 4 (some 80) 31 rfl rfl HT_ (by kernel_rfl) (.inl ⟨by rfl, ?_⟩) ?_ ?_; rotate_left 2; (· intro w'; go_simp; with_reducible rfl); (· simp only [nrm]; rfl)
    refine pu_ (v := ?_) (a' := ?_) 5 (some 81) 63 rfl rfl HT_ (by kernel_rfl) (.inl ⟨by rfl, ?_⟩) ?_ ?_; rotate_left 2; (· intro w'; go_simp; with_reducible rfl); (· simp only [nrm]; rfl)
    refine pu_ (v := ?_) (a' := ?_) 6 (some 82) 127 rfl rfl HT_ (by kernel_rfl) (.inl ⟨by rfl, ?_⟩) ?_ ?_; rotate_left 2; (· intro w'; go_simp; with_reducible rfl); (· simp only [nrm]; rfl)
    refine pu_ (v := ?_) (a' := ?_) 7 (some 83) 255 rfl rfl HT_ (by kernel_rfl) (.inl ⟨by rfl, ?_⟩) ?_ ?_; rotate_left 2; (· intro w'; go_simp; with_reducible rfl); (· simp only [nrm]; rfl)
    refine pu_ (v := ?_) (a' := ?_) 8 (some 84) 511 rfl rfl HT_ (by kernel_rfl) (.inl ⟨by rfl, ?_⟩) ?_ ?_; rotate_left 2; (· intro w'; go_simp; with_reducible rfl); (· simp only [nrm]; rfl)
    refine pu_ (v := ?_) (a' := ?_) 9 (some 85) 1023 rfl rfl HT_ (by kernel_rfl) (.inl ⟨by rfl, ?_⟩) ?_ ?_; rotate_left 2; (· intro w'; go_simp; with_reducible rfl); (· simp only [nrm]; rfl)
    refine tk_ (v := ?_) (a' := ?_) 10 (some 86) 2047 rfl rfl HT_ HW_ (by kernel_rfl) (.inl ⟨by rfl, ?_⟩) hHeld ?_ ?_; rotate_left 2; (· rintro w' ⟨_, _, _, _, _, _, _, _⟩; go_simp; with_reducible rfl); (· simp only [nrm]; rfl)
    refine pu_ (v := ?_) (a' := ?_) 11 (some 87) 4095 rfl rfl HT_ (by kernel_rfl) (.inl ⟨by rfl, ?_⟩) ?_ ?_; rotate_left 2; (· intro w'; go_simp; with_reducible rfl); (· simp only [nrm]; rfl)
    refine pu_ (v := ?_) (a' := ?_) 12 (some 88) 8191 rfl rfl HT_ (by kernel_rfl) (.inl ⟨by rfl, ?_⟩) ?_ ?_; rotate_left 2; (· intro w'; go_simp; with_reducible rfl); (· simp only [nrm]; rfl)
    refine pu_ (v := ?_) (a' := ?_) 13 (some 89) 16383 rfl rfl HT_ (by kernel_rfl) (.inl ⟨by rfl, ?_⟩) ?_ ?_; rotate_left 2; (· intro w'; go_simp; with_reducible rfl); (· simp only [nrm]; rfl)
    refine tk_ (v := ?_) (a' := ?_) 14 (some 90) 32767 rfl rfl HT_ HW_ (by kernel_rfl) (.inl ⟨by rfl, ?_⟩) hHeld ?_ ?_; rotate_left 2; (· rintro w' ⟨_, _, _, _, _, _, _, _⟩; go_simp; with_reducible rfl); (· simp only [nrm]; rfl)
    refine on_ 15 (some 91) 65535 rfl rfl HT_ (by kernel_rfl) (by decide) (fun K hK => ?_)
    refine goes_ Tryd.func161 (by kernel_rfl) rfl #[.agg #[.int .i64 2, .int .i64 c, .int .i64 s, .int .i64 o, .int .i64 y], .int .i64 q.cyc] (by rfl) rfl rfl (by (try simp only [List.map_toArray, List.map_cons, List.map_nil]); first | done | rfl) ?_
    refine (HDU.out _).mono ?_
    rintro e w7 ⟨rfl, hb⟩
    replace H := Aside.mk (H.out.step hb)
    clear hb
    refine ⟨_, rfl, ?_⟩
    refine hK.out _ _ ⟨HX6 H, (H.out.pick 4 rfl).cell 5, (H.out.pick 4 rfl).cell 4, (H.out.pick 5 rfl).cell 0, (H.out.pick 5 rfl).cell 1, (H.out.pick 5 rfl).cell 2, (H.out.pick 5 rfl).cell 3, (H.out.pick 5 rfl).cell 4⟩ (fun hHeld => ?_)
    clear hK K
    refine norm_ (a' := ?_) ?_ ?_
    rotate_left
    · show Act.put _ (some 91) _ = _
      simp only [nrm]
      rfl
    refine pu_ (v := ?_) (a' := ?_) 16 (some 92) 131071 rfl rfl HT_ (by kernel_rfl) (.inl ⟨by rfl, ?_⟩) ?_ ?_; rotate_left 2; (· intro w'; go_simp; with_reducible rfl); (· simp only [nrm]; rfl)
    refine pu_ (v := ?_) (a' := ?_) 17 (some 93) 262143 rfl rfl HT_ (by kernel_rfl) (.inl ⟨by rfl, ?_⟩) ?_ ?_; rotate_left 2; (· intro w'; go_simp; with_reducible rfl); (· simp only [nrm]; rfl)
    refine pu_ (v := ?_) (a' := ?_) 18 (some 94) 524287 rfl rfl HT_ (by kernel_rfl) (.inl ⟨by rfl, ?_⟩) ?_ ?_; rotate_left 2; (· intro w'; go_simp; with_reducible rfl); (· simp only [nrm]; rfl)
    refine tk_ (v := ?_) (a' := ?_) 19 (some 95) 1048575 rfl rfl HT_ HW_ (by kernel_rfl) (.inl ⟨by rfl, ?_⟩) hHeld ?_ ?_; rotate_left 2; (· rintro w' ⟨_, _, _, _, _, _, _, _⟩; go_simp; with_reducible rfl); (· simp only [nrm]; rfl)
    refine pu_ (v := ?_) (a' := ?_) 20 (some 96) 2097151 rfl rfl HT_ (by kernel_rfl) (.inl ⟨by rfl, ?_⟩) ?_ ?_; rotate_left 2; (· intro w'; go_simp; with_reducible rfl); (· simp only [nrm]; rfl)
    refine pu_ (v := ?_) (a' := ?_) 21 (some 97) 4194303 rfl rfl HT_ (by kernel_rfl) (.inl ⟨by rfl, ?_⟩) ?_ ?_; rotate_left 2; (· intro w'; go_simp; with_reducible rfl); (· simp only [nrm]; rfl)
    refine pu_ (v := ?_) (a' := ?_) 22 (some 98) 8388607 rfl rfl HT_ (by kernel_rfl) (.inl ⟨by rfl, ?_⟩) ?_ ?_; rotate_left 2; (· intro w'; go_simp; with_reducible rfl); (· simp only [nrm]; rfl)
    refine pure_ (i := 23) (N := some 99) (v := undef) (a' := ?_) (flg 32 16777215) rfl rfl (any_of HT_.out (by kernel_rfl)) (fun _ _ _ h => h) (Or.inr ⟨by rfl, rfl⟩) ?_ ?_
    rotate_left
    · simp only [nrm]
      rfl
    refine pure_ (i := 24) (N := some 100) (v := undef) (a' := ?_) (flg 32 33554431) rfl rfl (any_of HT_.out (by kernel_rfl)) (fun _ _ _ h => h) (Or.inr ⟨by rfl, rfl⟩) ?_ ?_
    rotate_left
    · simp only [nrm]
      rfl
    refine pure_ (i := 25) (N := some 101) (v := undef) (a' := ?_) (flg 32 67108863) rfl rfl (any_of HT_.out (by kernel_rfl)) (fun _ _ _ h => h) (Or.inr ⟨by rfl, rfl⟩) ?_ ?_
    rotate_left
    · simp only [nrm]
      rfl
    refine pure_ (i := 26) (N := some 102) (v := undef) (a' := ?_) (flg 32 134217727) rfl rfl (any_of HT_.out (by kernel_rfl)) (fun _ _ _ h => h) (Or.inr ⟨by rfl, rfl⟩) ?_ ?_
    rotate_left
    · simp only [nrm]
      rfl
    refine pure_ (i := 27) (N := some 103) (v := undef) (a' := ?_) (flg 32 268435455) rfl rfl (any_of HT_.out (by kernel_rfl)) (fun _ _ _ h => h) (Or.inr ⟨by rfl, rfl⟩) ?_ ?_
    rotate_left
    · simp only [nrm]
      rfl
    refine pure_ (i := 28) (N := some 104) (v := undef) (a' := ?_) (flg 32 536870911) rfl rfl (any_of HT_.out (by kernel_rfl)) (fun _ _ _ h => h) (Or.inr ⟨by rfl, rfl⟩) ?_ ?_
    rotate_left
    · simp only [nrm]
      rfl
    refine pure_ (i := 29) (N := some 105) (v := undef) (a' := ?_) (flg 32 1073741823) rfl rfl (any_of HT_.out (by kernel_rfl)) (fun _ _ _ h => h) (Or.inr ⟨by rfl, rfl⟩) ?_ ?_
    rotate_left
    · simp only [nrm]
      rfl
    refine pu_ (v := ?_) (a' := ?_) 30 (some 106) 2147483647 rfl rfl HT_ (by kernel_rfl) (.inl ⟨by rfl, ?_⟩) ?_ ?_; rotate_left 2; (· intro w'; go_simp; with_reducible rfl); (· simp only [nrm]; rfl)
    refine pu_ (v := ?_) (a' := ?_) 31 (some 75) 4294967295 rfl rfl HT_ (by kernel_rfl) (.inl ⟨by rfl, ?_⟩) ?_ ?_; rotate_left 2; (· intro w'; go_simp; with_reducible rfl); (· simp only [nrm]; rfl)
    refine done_ (done_of HT_.out (by kernel_rfl)) ?_
    clear HT_ HW_ hHeld
    go_wp2_with (go_at_call 121; refine (HN.out ({ x with was := v, k := 2, c := c, st := s, o := o, y := y } : Cl) rfl rfl _ _ (H.out.pick 4 rfl)).mono ?_; rintro e w8 ⟨rfl, h8⟩; have H8 := Aside.mk (back_ (L := Are p a gC who false X lv1 (l ++ [⟨who, 1, i, 0, 0, v, v⟩]) (cn + 1) fl) (h8.pick 5 rfl).rest); clear h8)
    go_end0
    exact ⟨lv1, rfl, H8.out⟩
  · obtain ⟨hr, rfl, hie, hrd, hdu, rfl, hcc, rfl⟩ := HZ
    have HRD := Aside.mk (fun w => hready_c hie q.cls q.cyc w)
    rw [hrd] at HRD
    have HDU := Aside.mk (fun w => hdue_c hie q.cyc w)
    replace HDU := Aside.mk (fun w => by have := HDU.out w; unfold dueE at hdu; rwa [hdu] at this)
    have b8 : (c == q.cls) = false := by simpa using hcc
    clear hie
    have HX6 : ∀ {w1 : World} {L : List HP}, Aside (St w0 w1 (Are p a gC who false X lv1 (l ++ [⟨who, 1, i, 0, 0, v, v⟩]) (cn + 1) fl ++ clB g q ({ x with was := v, k := 1, c := c, st := s, o := o, y := y } : Cl) (.pointer none) :: L)) → w1.cell? ⟨g, 6, none⟩ = some (.int .i64 0) := fun H => by have h6 := (H.out.pick 4 rfl).cell 6; exact h6.trans (by rw [← hr]; rfl)
    have x6 := HX6 H
    go_wp2_with fail
    clear x6
    replace H := Aside.mk H.out.drew
    refine start_ (n := 22) (S := fun w' => w'.cell? ⟨g, 6, none⟩ = some (.int .i64 0) ∧ w'.cell? ⟨g, 5, none⟩ = some (.int .i64 q.cls) ∧ w'.cell? ⟨g, 4, none⟩ = some (.int .i64 q.cyc) ∧ w'.cell? ⟨e5, 0, none⟩ = some (.int .i64 1) ∧ w'.cell? ⟨e5, 1, none⟩ = some (.int .i64 c) ∧ w'.cell? ⟨e5, 2, none⟩ = some (.int .i64 s) ∧ w'.cell? ⟨e5, 3, none⟩ = some (.int .i64 o) ∧ w'.cell? ⟨e5, 4, none⟩ = some (.int .i64 y)) (ds := []) (flg 22 0) (by kernel_rfl) rfl rfl (⟨HX6 H, (H.out.pick 4 rfl).cell 5, (H.out.pick 4 rfl).cell 4, (H.out.pick 5 rfl).cell 0, (H.out.pick 5 rfl).cell 1, (H.out.pick 5 rfl).cell 2, (H.out.pick 5 rfl).cell 3, (H.out.pick 5 rfl).cell 4⟩) (fun hHeld => ?_)
    refine with_tabW ask.tab6 ask.bits6 (fun HT_ HW_ => ?_)
    refine pu_ (v := ?_) (a' := ?_) 0 (some 51) 1 rfl rfl HT_ (by kernel_rfl) (.inl ⟨by rfl, ?_⟩) ?_ ?_; rotate_left 2; (· intro w'; go_simp; with_reducible rfl); (· simp only [nrm]; rfl)
    refine pu_ (v := ?_) (a' := ?_) 1 (some 52) 3 rfl rfl HT_ (by kernel_rfl) (.inl ⟨by rfl, ?_⟩) ?_ ?_; rotate_left 2; (· intro w'; go_simp; with_reducible rfl); (· simp only [nrm]; rfl)
    refine pu_ (v := ?_) (a' := ?_) 2 (some 53) 7 rfl rfl HT_ (by kernel_rfl) (.inl ⟨by rfl, ?_⟩) ?_ ?_; rotate_left 2; (· intro w'; go_simp; with_reducible rfl); (· simp only [nrm]; rfl)
    refine tk_ (v := ?_) (a' := ?_) 3 (some 54) 15 rfl rfl HT_ HW_ (by kernel_rfl) (.inl ⟨by rfl, ?_⟩) hHeld ?_ ?_; rotate_left 2; (· rintro w' ⟨_, _, _, _, _, _, _, _⟩; go_simp; with_reducible rfl); (· simp only [nrm]; rfl)
    refine pu_ (v := ?_) (a' := ?_) 4 (some 55) 31 rfl rfl HT_ (by kernel_rfl) (.inl ⟨by rfl, ?_⟩) ?_ ?_; rotate_left 2; (· intro w'; go_simp; with_reducible rfl); (· simp only [nrm]; rfl)
    refine pu_ (v := ?_) (a' := ?_) 5 (some 56) 63 rfl rfl HT_ (by kernel_rfl) (.inl ⟨by rfl, ?_⟩) ?_ ?_; rotate_left 2; (· intro w'; go_simp; with_reducible rfl); (· simp only [nrm]; rfl)
    refine pu_ (v := ?_) (a' := ?_) 6 (some 57) 127 rfl rfl HT_ (by kernel_rfl) (.inl ⟨by rfl, ?_⟩) ?_ ?_; rotate_left 2; (· intro w'; go_simp; with_reducible rfl); (· simp only [nrm]; rfl)
    refine pu_ (v := ?_) (a' := ?_) 7 (some 58) 255 rfl rfl HT_ (by kernel_rfl) (.inl ⟨by rfl, ?_⟩) ?_ ?_; rotate_left 2; (· intro w'; go_simp; with_reducible rfl); (· simp only [nrm]; rfl)
    refine pu_ (v := ?_) (a' := ?_) 8 (some 59) 511 rfl rfl HT_ (by kernel_rfl) (.inl ⟨by rfl, ?_⟩) ?_ ?_; rotate_left 2; (· intro w'; go_simp; with_reducible rfl); (· simp only [nrm]; rfl)
    refine pu_ (v := ?_) (a' := ?_) 9 (some 60) 1023 rfl rfl HT_ (by kernel_rfl) (.inl ⟨by rfl, ?_⟩) ?_ ?_; rotate_left 2; (· intro w'; go_simp; with_reducible rfl); (· simp only [nrm]; rfl)
    refine tk_ (v := ?_) (a' := ?_) 10 (some 61) 2047 rfl rfl HT_ HW_ (by kernel_rfl) (.inl ⟨by rfl, ?_⟩) hHeld ?_ ?_; rotate_left 2; (· rintro w' ⟨_, _, _, _, _, _, _, _⟩; go_simp; with_reducible rfl); (· simp only [nrm]; rfl)
    refine pu_ (v := ?_) (a' := ?_) 11 (some 62) 4095 rfl rfl HT_ (by kernel_rfl) (.inl ⟨by rfl, ?_⟩) ?_ ?_; rotate_left 2; (· intro w'; go_simp; with_reducible rfl); (· simp only [nrm]; rfl)
    refine pu_ (v := ?_) (a' := ?_) 12 (some 63) 8191 rfl rfl HT_ (by kernel_rfl) (.inl ⟨by rfl, ?_⟩) ?_ ?_; rotate_left 2; (· intro w'; go_simp; with_reducible rfl); (· simp only [nrm]; rfl)
    refine pu_ (v := ?_) (a' := ?_) 13 (some 64) 16383 rfl rfl HT_ (by kernel_rfl) (.inl ⟨by rfl, ?_⟩) ?_ ?_; rotate_left 2; (· intro w'; go_simp; with_reducible rfl); (· simp only [nrm]; rfl)
    refine tk_ (v := ?_) (a' := ?_) 14 (some 65) 32767 rfl rfl HT_ HW_ (by kernel_rfl) (.inl ⟨by rfl, ?_⟩) hHeld ?_ ?_; rotate_left 2; (· rintro w' ⟨_, _, _, _, _, _, _, _⟩; go_simp; with_reducible rfl); (· simp only [nrm]; rfl)
    refine pu_ (v := ?_) (a' := ?_) 15 (some 66) 65535 rfl rfl HT_ (by kernel_rfl) (.inl ⟨by rfl, ?_⟩) ?_ ?_; rotate_left 2; (· intro w'; go_simp; with_reducible rfl); (· simp only [nrm]; rfl)
    refine pu_ (v := ?_) (a' := ?_) 16 (some 67) 131071 rfl rfl HT_ (by kernel_rfl) (.inl ⟨by rfl, ?_⟩) ?_ ?_; rotate_left 2; (· intro w'; go_simp; with_reducible rfl); (· simp only [nrm]; rfl)
    refine pu_ (v := ?_) (a' := ?_) 17 (some 68) 262143 rfl rfl HT_ (by kernel_rfl) (.inl ⟨by rfl, ?_⟩) ?_ ?_; rotate_left 2; (· intro w'; go_simp; with_reducible rfl); (· simp only [nrm]; rfl)
    refine tk_ (v := ?_) (a' := ?_) 18 (some 69) 524287 rfl rfl HT_ HW_ (by kernel_rfl) (.inl ⟨by rfl, ?_⟩) hHeld ?_ ?_; rotate_left 2; (· rintro w' ⟨_, _, _, _, _, _, _, _⟩; go_simp; with_reducible rfl); (· simp only [nrm]; rfl)
    refine on_ 19 (some 70) 1048575 rfl rfl HT_ (by kernel_rfl) (by decide) (fun K hK => ?_)
    refine goes_ Tryd.func160 (by kernel_rfl) rfl #[.agg #[.int .i64 1, .int .i64 c, .int .i64 s, .int .i64 o, .int .i64 y], .int .i64 q.cls, .int .i64 q.cyc] (by rfl) rfl rfl (by (try simp only [List.map_toArray, List.map_cons, List.map_nil]); first | done | rfl) ?_
    refine (HRD.out _).mono ?_
    rintro e w7 ⟨rfl, hb⟩
    replace H := Aside.mk (H.out.step hb)
    clear hb
    refine ⟨_, rfl, ?_⟩
    refine hK.out _ _ ⟨HX6 H, (H.out.pick 4 rfl).cell 5, (H.out.pick 4 rfl).cell 4, (H.out.pick 5 rfl).cell 0, (H.out.pick 5 rfl).cell 1, (H.out.pick 5 rfl).cell 2, (H.out.pick 5 rfl).cell 3, (H.out.pick 5 rfl).cell 4⟩ (fun hHeld => ?_)
    clear hK K
    refine norm_ (a' := ?_) ?_ ?_
    rotate_left
    · show Act.put _ (some 70) _ = _
      simp only [nrm]
      rfl
    refine pu_ (v := ?_) (a' := ?_) 20 (some 71) 2097151 rfl rfl HT_ (by kernel_rfl) (.inl ⟨by rfl, ?_⟩) ?_ ?_; rotate_left 2; (· intro w'; go_simp; with_reducible rfl); (· simp only [nrm]; rfl)
    refine pu_ (v := ?_) (a' := ?_) 21 (some 50) 4194303 rfl rfl HT_ (by kernel_rfl) (.inl ⟨by rfl, ?_⟩) ?_ ?_; rotate_left 2; (· intro w'; go_simp; with_reducible rfl); (· simp only [nrm]; rfl)
    refine done_ (done_of HT_.out (by kernel_rfl)) ?_
    clear HT_ HW_ hHeld
    go_wp2_with fail
    replace H := Aside.mk H.out.drew
    refine start_ (n := 32) (S := fun w' => w'.cell? ⟨g, 6, none⟩ = some (.int .i64 0) ∧ w'.cell? ⟨g, 5, none⟩ = some (.int .i64 q.cls) ∧ w'.cell? ⟨g, 4, none⟩ = some (.int .i64 q.cyc) ∧ w'.cell? ⟨e5, 0, none⟩ = some (.int .i64 1) ∧ w'.cell? ⟨e5, 1, none⟩ = some (.int .i64 c) ∧ w'.cell? ⟨e5, 2, none⟩ = some (.int .i64 s) ∧ w'.cell? ⟨e5, 3, none⟩ = some (.int .i64 o) ∧ w'.cell? ⟨e5, 4, none⟩ = some (.int .i64 y)) (ds := []) (flg 32 0) (by kernel_rfl) rfl rfl (⟨HX6 H, (H.out.pick 4 rfl).cell 5, (H.out.pick 4 rfl).cell 4, (H.out.pick 5 rfl).cell 0, (H.out.pick 5 rfl).cell 1, (H.out.pick 5 rfl).cell 2, (H.out.pick 5 rfl).cell 3, (H.out.pick 5 rfl).cell 4⟩) (fun hHeld => ?_)
    refine with_tabW ask.tab8 ask.bits8 (fun HT_ HW_ => ?_)
    refine pu_ (v := ?_) (a' := ?_) 0 (some 76) 1 rfl rfl HT_ (by kernel_rfl) (.inl ⟨by rfl, ?_⟩) ?_ ?_; rotate_left 2; (· intro w'; go_simp; with_reducible rfl); (· simp only [nrm]; rfl)
    refine pu_ (v := ?_) (a' := ?_) 1 (some 77) 3 rfl rfl HT_ (by kernel_rfl) (.inl ⟨by rfl, ?_⟩) ?_ ?_; rotate_left 2; (· intro w'; go_simp; with_reducible rfl); (· simp only [nrm]; rfl)
    refine pu_ (v := ?_) (a' := ?_) 2 (some 78) 7 rfl rfl HT_ (by kernel_rfl) (.inl ⟨by rfl, ?_⟩) ?_ ?_; rotate_left 2; (· intro w'; go_simp; with_reducible rfl); (· simp only [nrm]; rfl)
    refine tk_ (v := ?_) (a' := ?_) 3 (some 79) 15 rfl rfl HT_ HW_ (by kernel_rfl) (.inl ⟨by rfl, ?_⟩) hHeld ?_ ?_; rotate_left 2; (· rintro w' ⟨_, _, _, _, _, _, _, _⟩; go_simp; with_reducible rfl); (· simp only [nrm]; rfl)
    refine pu_ (v := ?_) (a' := ?_) 4 (some 80) 31 rfl rfl HT_ (by kernel_rfl) (.inl ⟨by rfl, ?_⟩) ?_ ?_; rotate_left 2; (· intro w'; go_simp; with_reducible rfl); (· simp only [nrm]; rfl)
    refine pu_ (v := ?_) (a' := ?_) 5 (some 81) 63 rfl rfl HT_ (by kernel_rfl) (.inl ⟨by rfl, ?_⟩) ?_ ?_; rotate_left 2; (· intro w'; go_simp; with_reducible rfl); (· simp only [nrm]; rfl)
    refine pu_ (v := ?_) (a' := ?_) 6 (some 82) 127 rfl rfl HT_ (by kernel_rfl) (.inl ⟨by rfl, ?_⟩) ?_ ?_; rotate_left 2; (· intro w'; go_simp; with_reducible rfl); (· simp only [nrm]; rfl)
    refine pu_ (v := ?_) (a' := ?_) 7 (some 83) 255 rfl rfl HT_ (by kernel_rfl) (.inl ⟨by rfl, ?_⟩) ?_ ?_; rotate_left 2; (· intro w'; go_simp; with_reducible rfl); (· simp only [nrm]; rfl)
    refine pu_ (v := ?_) (a' := ?_) 8 (some 84) 511 rfl rfl HT_ (by kernel_rfl) (.inl ⟨by rfl, ?_⟩) ?_ ?_; rotate_left 2; (· intro w'; go_simp; with_reducible rfl); (· simp only [nrm]; rfl)
    refine pu_ (v := ?_) (a' := ?_) 9 (some 85) 1023 rfl rfl HT_ (by kernel_rfl) (.inl ⟨by rfl, ?_⟩) ?_ ?_; rotate_left 2; (· intro w'; go_simp; with_reducible rfl); (· simp only [nrm]; rfl)
    refine tk_ (v := ?_) (a' := ?_) 10 (some 86) 2047 rfl rfl HT_ HW_ (by kernel_rfl) (.inl ⟨by rfl, ?_⟩) hHeld ?_ ?_; rotate_left 2; (· rintro w' ⟨_, _, _, _, _, _, _, _⟩; go_simp; with_reducible rfl); (· simp only [nrm]; rfl)
    refine pu_ (v := ?_) (a' := ?_) 11 (some 87) 4095 rfl rfl HT_ (by kernel_rfl) (.inl ⟨by rfl, ?_⟩) ?_ ?_; rotate_left 2; (· intro w'; go_simp; with_reducible rfl); (· simp only [nrm]; rfl)
    refine pu_ (v := ?_) (a' := ?_) 12 (some 88) 8191 rfl rfl HT_ (by kernel_rfl) (.inl ⟨by rfl, ?_⟩) ?_ ?_; rotate_left 2; (· intro w'; go_simp; with_reducible rfl); (· simp only [nrm]; rfl)
    refine pu_ (v := ?_) (a' := ?_) 13 (some 89) 16383 rfl rfl HT_ (by kernel_rfl) (.inl ⟨by rfl, ?_⟩) ?_ ?_; rotate_left 2; (· intro w'; go_simp; with_reducible rfl); (· simp only [nrm]; rfl)
    refine tk_ (v := ?_) (a' := ?_) 14 (some 90) 32767 rfl rfl HT_ HW_ (by kernel_rfl) (.inl ⟨by rfl, ?_⟩) hHeld ?_ ?_; rotate_left 2; (· rintro w' ⟨_, _, _, _, _, _, _, _⟩; go_simp; with_reducible rfl); (· simp only [nrm]; rfl)
    refine on_ 15 (some 91) 65535 rfl rfl HT_ (by kernel_rfl) (by decide) (fun K hK => ?_)
    refine goes_ Tryd.func161 (by kernel_rfl) rfl #[.agg #[.int .i64 1, .int .i64 c, .int .i64 s, .int .i64 o, .int .i64 y], .int .i64 q.cyc] (by rfl) rfl rfl (by (try simp only [List.map_toArray, List.map_cons, List.map_nil]); first | done | rfl) ?_
    refine (HDU.out _).mono ?_
    rintro e w7 ⟨rfl, hb⟩
    replace H := Aside.mk (H.out.step hb)
    clear hb
    refine ⟨_, rfl, ?_⟩
    refine hK.out _ _ ⟨HX6 H, (H.out.pick 4 rfl).cell 5, (H.out.pick 4 rfl).cell 4, (H.out.pick 5 rfl).cell 0, (H.out.pick 5 rfl).cell 1, (H.out.pick 5 rfl).cell 2, (H.out.pick 5 rfl).cell 3, (H.out.pick 5 rfl).cell 4⟩ (fun hHeld => ?_)
    clear hK K
    refine norm_ (a' := ?_) ?_ ?_
    rotate_left
    · show Act.put _ (some 91) _ = _
      simp only [nrm]
      rfl
    refine pu_ (v := ?_) (a' := ?_) 16 (some 92) 131071 rfl rfl HT_ (by kernel_rfl) (.inl ⟨by rfl, ?_⟩) ?_ ?_; rotate_left 2; (· intro w'; go_simp; with_reducible rfl); (· simp only [nrm]; rfl)
    refine pu_ (v := ?_) (a' := ?_) 17 (some 93) 262143 rfl rfl HT_ (by kernel_rfl) (.inl ⟨by rfl, ?_⟩) ?_ ?_; rotate_left 2; (· intro w'; go_simp; with_reducible rfl); (· simp only [nrm]; rfl)
    refine pu_ (v := ?_) (a' := ?_) 18 (some 94) 524287 rfl rfl HT_ (by kernel_rfl) (.inl ⟨by rfl, ?_⟩) ?_ ?_; rotate_left 2; (· intro w'; go_simp; with_reducible rfl); (· simp only [nrm]; rfl)
    refine tk_ (v := ?_) (a' := ?_) 19 (some 95) 1048575 rfl rfl HT_ HW_ (by kernel_rfl) (.inl ⟨by rfl, ?_⟩) hHeld ?_ ?_; rotate_left 2; (· rintro w' ⟨_, _, _, _, _, _, _, _⟩; go_simp; with_reducible rfl); (· simp only [nrm]; rfl)
    refine pu_ (v := ?_) (a' := ?_) 20 (some 96) 2097151 rfl rfl HT_ (by kernel_rfl) (.inl ⟨by rfl, ?_⟩) ?_ ?_; rotate_left 2; (· intro w'; go_simp; with_reducible rfl); (· simp only [nrm]; rfl)
    refine pu_ (v := ?_) (a' := ?_) 21 (some 97) 4194303 rfl rfl HT_ (by kernel_rfl) (.inl ⟨by rfl, ?_⟩) ?_ ?_; rotate_left 2; (· intro w'; go_simp; with_reducible rfl); (· simp only [nrm]; rfl)
    refine pu_ (v := ?_) (a' := ?_) 22 (some 98) 8388607 rfl rfl HT_ (by kernel_rfl) (.inl ⟨by rfl, ?_⟩) ?_ ?_; rotate_left 2; (· intro w'; go_simp; with_reducible rfl); (· simp only [nrm]; rfl)
    refine pu_ (v := ?_) (a' := ?_) 23 (some 99) 16777215 rfl rfl HT_ (by kernel_rfl) (.inl ⟨by rfl, ?_⟩) ?_ ?_; rotate_left 2; (· intro w'; go_simp; with_reducible rfl); (· simp only [nrm]; rfl)
    refine tk_ (v := ?_) (a' := ?_) 24 (some 100) 33554431 rfl rfl HT_ HW_ (by kernel_rfl) (.inl ⟨by rfl, ?_⟩) hHeld ?_ ?_; rotate_left 2; (· rintro w' ⟨_, _, _, _, _, _, _, _⟩; go_simp; with_reducible rfl); (· simp only [nrm]; rfl)
    refine pu_ (v := ?_) (a' := ?_) 25 (some 101) 67108863 rfl rfl HT_ (by kernel_rfl) (.inl ⟨by rfl, ?_⟩) ?_ ?_; rotate_left 2; (· intro w'; go_simp; with_reducible rfl); (· simp only [nrm]; rfl)
    refine pu_ (v := ?_) (a' := ?_) 26 (some 102) 134217727 rfl rfl HT_ (by kernel_rfl) (.inl ⟨by rfl, ?_⟩) ?_ ?_; rotate_left 2; (· intro w'; go_simp; with_reducible rfl); (· simp only [nrm]; rfl)
    refine pu_ (v := ?_) (a' := ?_) 27 (some 103) 268435455 rfl rfl HT_ (by kernel_rfl) (.inl ⟨by rfl, ?_⟩) ?_ ?_; rotate_left 2; (· intro w'; go_simp; with_reducible rfl); (· simp only [nrm]; rfl)
    refine tk_ (v := ?_) (a' := ?_) 28 (some 104) 536870911 rfl rfl HT_ HW_ (by kernel_rfl) (.inl ⟨by rfl, ?_⟩) hHeld ?_ ?_; rotate_left 2; (· rintro w' ⟨_, _, _, _, _, _, _, _⟩; go_simp; with_reducible rfl); (· simp only [nrm]; rfl)
    refine pu_ (v := ?_) (a' := ?_) 29 (some 105) 1073741823 rfl rfl HT_ (by kernel_rfl) (.inl ⟨by rfl, ?_⟩) ?_ ?_; rotate_left 2; (· intro w'; go_simp; with_reducible rfl); (· simp only [nrm]; rfl)
    refine pu_ (v := ?_) (a' := ?_) 30 (some 106) 2147483647 rfl rfl HT_ (by kernel_rfl) (.inl ⟨by rfl, ?_⟩) ?_ ?_; rotate_left 2; (· intro w'; go_simp; with_reducible rfl); (· simp only [nrm]; rfl)
    refine pu_ (v := ?_) (a' := ?_) 31 (some 75) 4294967295 rfl rfl HT_ (by kernel_rfl) (.inl ⟨by rfl, ?_⟩) ?_ ?_; rotate_left 2; (· intro w'; go_simp; with_reducible rfl); (· simp only [nrm]; rfl)
    refine done_ (done_of HT_.out (by kernel_rfl)) ?_
    clear HT_ HW_ hHeld
    go_wp2_with (go_at_call 121; refine (HN.out ({ x with was := v, k := 1, c := c, st := s, o := o, y := y } : Cl) rfl rfl _ _ (H.out.pick 4 rfl)).mono ?_; rintro e w8 ⟨rfl, h8⟩; have H8 := Aside.mk (back_ (L := Are p a gC who false X lv1 (l ++ [⟨who, 1, i, 0, 0, v, v⟩]) (cn + 1) fl) (h8.pick 5 rfl).rest); clear h8)
    go_end0
    exact ⟨lv1, rfl, H8.out⟩
  · obtain ⟨hr, rfl, hie, hrd, hdu, rfl, rfl, rfl⟩ := HZ
    have HRD := Aside.mk (fun w => hready_c hie q.cls q.cyc w)
    rw [hrd] at HRD
    have HDU := Aside.mk (fun w => hdue_c hie q.cyc w)
    replace HDU := Aside.mk (fun w => by have := HDU.out w; unfold dueE at hdu; rwa [hdu] at this)
    clear hie
    have HX6 : ∀ {w1 : World} {L : List HP}, Aside (St w0 w1 (Are p a gC who false X lv1 (l ++ [⟨who, 1, i, 0, 0, v, v⟩]) (cn + 1) fl ++ clB g q ({ x with was := v, k := 1, c := q.cls, st := s, o := o, y := y } : Cl) (.pointer none) :: L)) → w1.cell? ⟨g, 6, none⟩ = some (.int .i64 0) := fun H => by have h6 := (H.out.pick 4 rfl).cell 6; exact h6.trans (by rw [← hr]; rfl)
    have x6 := HX6 H
    go_wp2_with fail
    clear x6
    replace H := Aside.mk H.out.drew
    refine start_ (n := 22) (S := fun w' => w'.cell? ⟨g, 6, none⟩ = some (.int .i64 0) ∧ w'.cell? ⟨g, 5, none⟩ = some (.int .i64 q.cls) ∧ w'.cell? ⟨g, 4, none⟩ = some (.int .i64 q.cyc) ∧ w'.cell? ⟨e5, 0, none⟩ = some (.int .i64 1) ∧ w'.cell? ⟨e5, 1, none⟩ = some (.int .i64 q.cls) ∧ w'.cell? ⟨e5, 2, none⟩ = some (.int .i64 s) ∧ w'.cell? ⟨e5, 3, none⟩ = some (.int .i64 o) ∧ w'.cell? ⟨e5, 4, none⟩ = some (.int .i64 y)) (ds := []) (flg 22 0) (by kernel_rfl) rfl rfl (⟨HX6 H, (H.out.pick 4 rfl).cell 5, (H.out.pick 4 rfl).cell 4, (H.out.pick 5 rfl).cell 0, (H.out.pick 5 rfl).cell 1, (H.out.pick 5 rfl).cell 2, (H.out.pick 5 rfl).cell 3, (H.out.pick 5 rfl).cell 4⟩) (fun hHeld => ?_)
    refine with_tabW ask.tab6 ask.bits6 (fun HT_ HW_ => ?_)
    refine pu_ (v := ?_) (a' := ?_) 0 (some 51) 1 rfl rfl HT_ (by kernel_rfl) (.inl ⟨by rfl, ?_⟩) ?_ ?_; rotate_left 2; (· intro w'; go_simp; with_reducible rfl); (· simp only [nrm]; rfl)
    refine pu_ (v := ?_) (a' := ?_) 1 (some 52) 3 rfl rfl HT_ (by kernel_rfl) (.inl ⟨by rfl, ?_⟩) ?_ ?_; rotate_left 2; (· intro w'; go_simp; with_reducible rfl); (· simp only [nrm]; rfl)
    refine pu_ (v := ?_) (a' := ?_) 2 (some 53) 7 rfl rfl HT_ (by kernel_rfl) (.inl ⟨by rfl, ?_⟩) ?_ ?_; rotate_left 2; (· intro w'; go_simp; with_reducible rfl); (· simp only [nrm]; rfl)
    refine tk_ (v := ?_) (a' := ?_) 3 (some 54) 15 rfl rfl HT_ HW_ (by kernel_rfl) (.inl ⟨by rfl, ?_⟩) hHeld ?_ ?_; rotate_left 2; (· rintro w' ⟨_, _, _, _, _, _, _, _⟩; go_simp; with_reducible rfl); (· simp only [nrm]; rfl)
    refine pu_ (v := ?_) (a' := ?_) 4 (some 55) 31 rfl rfl HT_ (by kernel_rfl) (.inl ⟨by rfl, ?_⟩) ?_ ?_; rotate_left 2; (· intro w'; go_simp; with_reducible rfl); (· simp only [nrm]; rfl)
    refine pu_ (v := ?_) (a' := ?_) 5 (some 56) 63 rfl rfl HT_ (by kernel_rfl) (.inl ⟨by rfl, ?_⟩) ?_ ?_; rotate_left 2; (· intro w'; go_simp; with_reducible rfl); (· simp only [nrm]; rfl)
    refine pu_ (v := ?_) (a' := ?_) 6 (some 57) 127 rfl rfl HT_ (by kernel_rfl) (.inl ⟨by rfl, ?_⟩) ?_ ?_; rotate_left 2; (· intro w'; go_simp; with_reducible rfl); (· simp only [nrm]; rfl)
    refine pu_ (v := ?_) (a' := ?_) 7 (some 58) 255 rfl rfl HT_ (by kernel_rfl) (.inl ⟨by rfl, ?_⟩) ?_ ?_; rotate_left 2; (· intro w'; go_simp; with_reducible rfl); (· simp only [nrm]; rfl)
    refine pu_ (v := ?_) (a' := ?_) 8 (some 59) 511 rfl rfl HT_ (by kernel_rfl) (.inl ⟨by rfl, ?_⟩) ?_ ?_; rotate_left 2; (· intro w'; go_simp; with_reducible rfl); (· simp only [nrm]; rfl)
    refine pu_ (v := ?_) (a' := ?_) 9 (some 60) 1023 rfl rfl HT_ (by kernel_rfl) (.inl ⟨by rfl, ?_⟩) ?_ ?_; rotate_left 2; (· intro w'; go_simp; with_reducible rfl); (· simp only [nrm]; rfl)
    refine tk_ (v := ?_) (a' := ?_) 10 (some 61) 2047 rfl rfl HT_ HW_ (by kernel_rfl) (.inl ⟨by rfl, ?_⟩) hHeld ?_ ?_; rotate_left 2; (· rintro w' ⟨_, _, _, _, _, _, _, _⟩; go_simp; with_reducible rfl); (· simp only [nrm]; rfl)
    refine pu_ (v := ?_) (a' := ?_) 11 (some 62) 4095 rfl rfl HT_ (by kernel_rfl) (.inl ⟨by rfl, ?_⟩) ?_ ?_; rotate_left 2; (· intro w'; go_simp; with_reducible rfl); (· simp only [nrm]; rfl)
    refine pu_ (v := ?_) (a' := ?_) 12 (some 63) 8191 rfl rfl HT_ (by kernel_rfl) (.inl ⟨by rfl, ?_⟩) ?_ ?_; rotate_left 2; (· intro w'; go_simp; with_reducible rfl); (· simp only [nrm]; rfl)
    refine pu_ (v := ?_) (a' := ?_) 13 (some 64) 16383 rfl rfl HT_ (by kernel_rfl) (.inl ⟨by rfl, ?_⟩) ?_ ?_; rotate_left 2; (· intro w'; go_simp; with_reducible rfl); (· simp only [nrm]; rfl)
    refine tk_ (v := ?_) (a' := ?_) 14 (some 65) 32767 rfl rfl HT_ HW_ (by kernel_rfl) (.inl ⟨by rfl, ?_⟩) hHeld ?_ ?_; rotate_left 2; (· rintro w' ⟨_, _, _, _, _, _, _, _⟩; go_simp; with_reducible rfl); (· simp only [nrm]; rfl)
    refine pu_ (v := ?_) (a' := ?_) 15 (some 66) 65535 rfl rfl HT_ (by kernel_rfl) (.inl ⟨by rfl, ?_⟩) ?_ ?_; rotate_left 2; (· intro w'; go_simp; with_reducible rfl); (· simp only [nrm]; rfl)
    refine pu_ (v := ?_) (a' := ?_) 16 (some 67) 131071 rfl rfl HT_ (by kernel_rfl) (.inl ⟨by rfl, ?_⟩) ?_ ?_; rotate_left 2; (· intro w'; go_simp; with_reducible rfl); (· simp only [nrm]; rfl)
    refine pu_ (v := ?_) (a' := ?_) 17 (some 68) 262143 rfl rfl HT_ (by kernel_rfl) (.inl ⟨by rfl, ?_⟩) ?_ ?_; rotate_left 2; (· intro w'; go_simp; with_reducible rfl); (· simp only [nrm]; rfl)
    refine tk_ (v := ?_) (a' := ?_) 18 (some 69) 524287 rfl rfl HT_ HW_ (by kernel_rfl) (.inl ⟨by rfl, ?_⟩) hHeld ?_ ?_; rotate_left 2; (· rintro w' ⟨_, _, _, _, _, _, _, _⟩; go_simp; with_reducible rfl); (· simp only [nrm]; rfl)
    refine on_ 19 (some 70) 1048575 rfl rfl HT_ (by kernel_rfl) (by decide) (fun K hK => ?_)
    refine goes_ Tryd.func160 (by kernel_rfl) rfl #[.agg #[.int .i64 1, .int .i64 q.cls, .int .i64 s, .int .i64 o, .int .i64 y], .int .i64 q.cls, .int .i64 q.cyc] (by rfl) rfl rfl (by (try simp only [List.map_toArray, List.map_cons, List.map_nil]); first | done | rfl) ?_
    refine (HRD.out _).mono ?_
    rintro e w7 ⟨rfl, hb⟩
    replace H := Aside.mk (H.out.step hb)
    clear hb
    refine ⟨_, rfl, ?_⟩
    refine hK.out _ _ ⟨HX6 H, (H.out.pick 4 rfl).cell 5, (H.out.pick 4 rfl).cell 4, (H.out.pick 5 rfl).cell 0, (H.out.pick 5 rfl).cell 1, (H.out.pick 5 rfl).cell 2, (H.out.pick 5 rfl).cell 3, (H.out.pick 5 rfl).cell 4⟩ (fun hHeld => ?_)
    clear hK K
    refine norm_ (a' := ?_) ?_ ?_
    rotate_left
    · show Act.put _ (some 70) _ = _
      simp only [nrm]
      rfl
    refine pu_ (v := ?_) (a' := ?_) 20 (some 71) 2097151 rfl rfl HT_ (by kernel_rfl) (.inl ⟨by rfl, ?_⟩) ?_ ?_; rotate_left 2; (· intro w'; go_simp; with_reducible rfl); (· simp only [nrm]; rfl)
    refine pu_ (v := ?_) (a' := ?_) 21 (some 50) 4194303 rfl rfl HT_ (by kernel_rfl) (.inl ⟨by rfl, ?_⟩) ?_ ?_; rotate_left 2; (· intro w'; go_simp; with_reducible rfl); (· simp only [nrm]; rfl)
    refine done_ (done_of HT_.out (by kernel_rfl)) ?_
    clear HT_ HW_ hHeld
    go_wp2_with fail
    replace H := Aside.mk H.out.drew
    refine start_ (n := 32) (S := fun w' => w'.cell? ⟨g, 6, none⟩ = some (.int .i64 0) ∧ w'.cell? ⟨g, 5, none⟩ = some (.int .i64 q.cls) ∧ w'.cell? ⟨g, 4, none⟩ = some (.int .i64 q.cyc) ∧ w'.cell? ⟨e5, 0, none⟩ = some (.int .i64 1) ∧ w'.cell? ⟨e5, 1, none⟩ = some (.int .i64 q.cls) ∧ w'.cell? ⟨e5, 2, none⟩ = some (.int .i64 s) ∧ w'.cell? ⟨e5, 3, none⟩ = some (.int .i64 o) ∧ w'.cell? ⟨e5, 4, none⟩ = some (.int .i64 y)) (ds := []) (flg 32 0) (by kernel_rfl) rfl rfl (⟨HX6 H, (H.out.pick 4 rfl).cell 5, (H.out.pick 4 rfl).cell 4, (H.out.pick 5 rfl).cell 0, (H.out.pick 5 rfl).cell 1, (H.out.pick 5 rfl).cell 2, (H.out.pick 5 rfl).cell 3, (H.out.pick 5 rfl).cell 4⟩) (fun hHeld => ?_)
    refine with_tabW ask.tab8 ask.bits8 (fun HT_ HW_ => ?_)
    refine pu_ (v := ?_) (a' := ?_) 0 (some 76) 1 rfl rfl HT_ (by kernel_rfl) (.inl ⟨by rfl, ?_⟩) ?_ ?_; rotate_left 2; (· intro w'; go_simp; with_reducible rfl); (· simp only [nrm]; rfl)
    refine pu_ (v := ?_) (a' := ?_) 1 (some 77) 3 rfl rfl HT_ (by kernel_rfl) (.inl ⟨by rfl, ?_⟩) ?_ ?_; rotate_left 2; (· intro w'; go_simp; with_reducible rfl); (· simp only [nrm]; rfl)
    refine pu_ (v := ?_) (a' := ?_) 2 (some 78) 7 rfl rfl HT_ (by kernel_rfl) (.inl ⟨by rfl, ?_⟩) ?_ ?_; rotate_left 2; (· intro w'; go_simp; with_reducible rfl); (· simp only [nrm]; rfl)
    refine tk_ (v := ?_) (a' := ?_) 3 (some 79) 15 rfl rfl HT_ HW_ (by kernel_rfl) (.inl ⟨by rfl, ?_⟩) hHeld ?_ ?_; rotate_left 2; (· rintro w' ⟨_, _, _, _, _, _, _, _⟩; go_simp; with_reducible rfl); (· simp only [nrm]; rfl)
    refine pu_ (v := ?_) (a' := ?_) 4 (some 80) 31 rfl rfl HT_ (by kernel_rfl) (.inl ⟨by rfl, ?_⟩) ?_ ?_; rotate_left 2; (· intro w'; go_simp; with_reducible rfl); (· simp only [nrm]; rfl)
    refine pu_ (v := ?_) (a' := ?_) 5 (some 81) 63 rfl rfl HT_ (by kernel_rfl) (.inl ⟨by rfl, ?_⟩) ?_ ?_; rotate_left 2; (· intro w'; go_simp; with_reducible rfl); (· simp only [nrm]; rfl)
    refine pu_ (v := ?_) (a' := ?_) 6 (some 82) 127 rfl rfl HT_ (by kernel_rfl) (.inl ⟨by rfl, ?_⟩) ?_ ?_; rotate_left 2; (· intro w'; go_simp; with_reducible rfl); (· simp only [nrm]; rfl)
    refine pu_ (v := ?_) (a' := ?_) 7 (some 83) 255 rfl rfl HT_ (by kernel_rfl) (.inl ⟨by rfl, ?_⟩) ?_ ?_; rotate_left 2; (· intro w'; go_simp; with_reducible rfl); (· simp only [nrm]; rfl)
    refine pu_ (v := ?_) (a' := ?_) 8 (some 84) 511 rfl rfl HT_ (by kernel_rfl) (.inl ⟨by rfl, ?_⟩) ?_ ?_; rotate_left 2; (· intro w'; go_simp; with_reducible rfl); (· simp only [nrm]; rfl)
    refine pu_ (v := ?_) (a' := ?_) 9 (some 85) 1023 rfl rfl HT_ (by kernel_rfl) (.inl ⟨by rfl, ?_⟩) ?_ ?_; rotate_left 2; (· intro w'; go_simp; with_reducible rfl); (· simp only [nrm]; rfl)
    refine tk_ (v := ?_) (a' := ?_) 10 (some 86) 2047 rfl rfl HT_ HW_ (by kernel_rfl) (.inl ⟨by rfl, ?_⟩) hHeld ?_ ?_; rotate_left 2; (· rintro w' ⟨_, _, _, _, _, _, _, _⟩; go_simp; with_reducible rfl); (· simp only [nrm]; rfl)
    refine pu_ (v := ?_) (a' := ?_) 11 (some 87) 4095 rfl rfl HT_ (by kernel_rfl) (.inl ⟨by rfl, ?_⟩) ?_ ?_; rotate_left 2; (· intro w'; go_simp; with_reducible rfl); (· simp only [nrm]; rfl)
    refine pu_ (v := ?_) (a' := ?_) 12 (some 88) 8191 rfl rfl HT_ (by kernel_rfl) (.inl ⟨by rfl, ?_⟩) ?_ ?_; rotate_left 2; (· intro w'; go_simp; with_reducible rfl); (· simp only [nrm]; rfl)
    refine pu_ (v := ?_) (a' := ?_) 13 (some 89) 16383 rfl rfl HT_ (by kernel_rfl) (.inl ⟨by rfl, ?_⟩) ?_ ?_; rotate_left 2; (· intro w'; go_simp; with_reducible rfl); (· simp only [nrm]; rfl)
    refine tk_ (v := ?_) (a' := ?_) 14 (some 90) 32767 rfl rfl HT_ HW_ (by kernel_rfl) (.inl ⟨by rfl, ?_⟩) hHeld ?_ ?_; rotate_left 2; (· rintro w' ⟨_, _, _, _, _, _, _, _⟩; go_simp; with_reducible rfl); (· simp only [nrm]; rfl)
    refine on_ 15 (some 91) 65535 rfl rfl HT_ (by kernel_rfl) (by decide) (fun K hK => ?_)
    refine goes_ Tryd.func161 (by kernel_rfl) rfl #[.agg #[.int .i64 1, .int .i64 q.cls, .int .i64 s, .int .i64 o, .int .i64 y], .int .i64 q.cyc] (by rfl) rfl rfl (by (try simp only [List.map_toArray, List.map_cons, List.map_nil]); first | done | rfl) ?_
    refine (HDU.out _).mono ?_
    rintro e w7 ⟨rfl, hb⟩
    replace H := Aside.mk (H.out.step hb)
    clear hb
    refine ⟨_, rfl, ?_⟩
    refine hK.out _ _ ⟨HX6 H, (H.out.pick 4 rfl).cell 5, (H.out.pick 4 rfl).cell 4, (H.out.pick 5 rfl).cell 0, (H.out.pick 5 rfl).cell 1, (H.out.pick 5 rfl).cell 2, (H.out.pick 5 rfl).cell 3, (H.out.pick 5 rfl).cell 4⟩ (fun hHeld => ?_)
    clear hK K
    refine norm_ (a' := ?_) ?_ ?_
    rotate_left
    · show Act.put _ (some 91) _ = _
      simp only [nrm]
      rfl
    refine pu_ (v := ?_) (a' := ?_) 16 (some 92) 131071 rfl rfl HT_ (by kernel_rfl) (.inl ⟨by rfl, ?_⟩) ?_ ?_; rotate_left 2; (· intro w'; go_simp; with_reducible rfl); (· simp only [nrm]; rfl)
    refine pu_ (v := ?_) (a' := ?_) 17 (some 93) 262143 rfl rfl HT_ (by kernel_rfl) (.inl ⟨by rfl, ?_⟩) ?_ ?_; rotate_left 2; (· intro w'; go_simp; with_reducible rfl); (· simp only [nrm]; rfl)
    refine pu_ (v := ?_) (a' := ?_) 18 (some 94) 524287 rfl rfl HT_ (by kernel_rfl) (.inl ⟨by rfl, ?_⟩) ?_ ?_; rotate_left 2; (· intro w'; go_simp; with_reducible rfl); (· simp only [nrm]; rfl)
    refine tk_ (v := ?_) (a' := ?_) 19 (some 95) 1048575 rfl rfl HT_ HW_ (by kernel_rfl) (.inl ⟨by rfl, ?_⟩) hHeld ?_ ?_; rotate_left 2; (· rintro w' ⟨_, _, _, _, _, _, _, _⟩; go_simp; with_reducible rfl); (· simp only [nrm]; rfl)
    refine pu_ (v := ?_) (a' := ?_) 20 (some 96) 2097151 rfl rfl HT_ (by kernel_rfl) (.inl ⟨by rfl, ?_⟩) ?_ ?_; rotate_left 2; (· intro w'; go_simp; with_reducible rfl); (· simp only [nrm]; rfl)
    refine pu_ (v := ?_) (a' := ?_) 21 (some 97) 4194303 rfl rfl HT_ (by kernel_rfl) (.inl ⟨by rfl, ?_⟩) ?_ ?_; rotate_left 2; (· intro w'; go_simp; with_reducible rfl); (· simp only [nrm]; rfl)
    refine pu_ (v := ?_) (a' := ?_) 22 (some 98) 8388607 rfl rfl HT_ (by kernel_rfl) (.inl ⟨by rfl, ?_⟩) ?_ ?_; rotate_left 2; (· intro w'; go_simp; with_reducible rfl); (· simp only [nrm]; rfl)
    refine pu_ (v := ?_) (a' := ?_) 23 (some 99) 16777215 rfl rfl HT_ (by kernel_rfl) (.inl ⟨by rfl, ?_⟩) ?_ ?_; rotate_left 2; (· intro w'; go_simp; with_reducible rfl); (· simp only [nrm]; rfl)
    refine tk_ (v := ?_) (a' := ?_) 24 (some 100) 33554431 rfl rfl HT_ HW_ (by kernel_rfl) (.inl ⟨by rfl, ?_⟩) hHeld ?_ ?_; rotate_left 2; (· rintro w' ⟨_, _, _, _, _, _, _, _⟩; go_simp; with_reducible rfl); (· simp only [nrm]; rfl)
    refine pu_ (v := ?_) (a' := ?_) 25 (some 101) 67108863 rfl rfl HT_ (by kernel_rfl) (.inl ⟨by rfl, ?_⟩) ?_ ?_; rotate_left 2; (· intro w'; go_simp; with_reducible rfl); (· simp only [nrm]; rfl)
    refine pu_ (v := ?_) (a' := ?_) 26 (some 102) 134217727 rfl rfl HT_ (by kernel_rfl) (.inl ⟨by rfl, ?_⟩) ?_ ?_; rotate_left 2; (· intro w'; go_simp; with_reducible rfl); (· simp only [nrm]; rfl)
    refine pu_ (v := ?_) (a' := ?_) 27 (some 103) 268435455 rfl rfl HT_ (by kernel_rfl) (.inl ⟨by rfl, ?_⟩) ?_ ?_; rotate_left 2; (· intro w'; go_simp; with_reducible rfl); (· simp only [nrm]; rfl)
    refine tk_ (v := ?_) (a' := ?_) 28 (some 104) 536870911 rfl rfl HT_ HW_ (by kernel_rfl) (.inl ⟨by rfl, ?_⟩) hHeld ?_ ?_; rotate_left 2; (· rintro w' ⟨_, _, _, _, _, _, _, _⟩; go_simp; with_reducible rfl); (· simp only [nrm]; rfl)
    refine pu_ (v := ?_) (a' := ?_) 29 (some 105) 1073741823 rfl rfl HT_ (by kernel_rfl) (.inl ⟨by rfl, ?_⟩) ?_ ?_; rotate_left 2; (· intro w'; go_simp; with_reducible rfl); (· simp only [nrm]; rfl)
    refine pu_ (v := ?_) (a' := ?_) 30 (some 106) 2147483647 rfl rfl HT_ (by kernel_rfl) (.inl ⟨by rfl, ?_⟩) ?_ ?_; rotate_left 2; (· intro w'; go_simp; with_reducible rfl); (· simp only [nrm]; rfl)
    refine pu_ (v := ?_) (a' := ?_) 31 (some 75) 4294967295 rfl rfl HT_ (by kernel_rfl) (.inl ⟨by rfl, ?_⟩) ?_ ?_; rotate_left 2; (· intro w'; go_simp; with_reducible rfl); (· simp only [nrm]; rfl)
    refine done_ (done_of HT_.out (by kernel_rfl)) ?_
    clear HT_ HW_ hHeld
    go_wp2_with (with_reducible refine stop_at (.store 3 (.tmp 109) (.const (.int .i64 4))) rfl ?_)
    refine ⟨?_⟩
    refine st_store rfl rfl rfl [.int .i64 4] (Cl.cells q { x with was := v, k := 1, c := q.cls, st := s, o := o, y := y, at_ := 4 } (.pointer none)) rfl rfl rfl (Nat.le_of_ble_eq_true rfl) (by simp [Value.oneCell']) (H.out.pick 4 rfl) rfl ?_
    intro w8 h8
    have H8 := Aside.mk (back_ (L := Are p a gC who false X lv1 (l ++ [⟨who, 1, i, 0, 0, v, v⟩]) (cn + 1) fl) (h8.pick 5 rfl).rest)
    clear h8
    go_wp2
    go_end0
    exact ⟨lv1, rfl, H8.out⟩
end Go.Proofs.YtelfiegocdjnoaaDoor.Ar
