/- The arena's accesses: load, store, compare and swap: what a granted one does. Conditions: the port has a grant, the cell is there, accesses are kept. -/
import Derived.Test.YtelfiegocdjnoaaDoorAr0
import Derived.Test.YtelfiegocdjnoaaDoorWk
namespace Go.Proofs.YtelfiegocdjnoaaDoor.Ar
open Go Go.RowKit Go.Proofs.YtelfiegocdjnoaaDoor.Sep Go.Proofs.YtelfiegocdjnoaaDoorW.PrintWords Go.Proofs.YtelfiegocdjnoaaDoorW.PrintLast Go.Proofs.YtelfiegocdjnoaaDoorW.PrintMore Go.Proofs.YtelfiegocdjnoaaDoor.Q
set_option linter.unusedVariables false
set_option linter.unusedSimpArgs false
set_option maxHeartbeats 8000000
set_option maxRecDepth 100000
/-- An access, as it is kept. -/
structure Acc where (who kind at_ want put seen left : Int)
def Acc.vs (x : Acc) : List Value := [.int .i64 x.who, .int .i64 x.kind, .int .i64 x.at_, .int .u64 x.want, .int .u64 x.put, .int .u64 x.seen, .int .u64 x.left]
abbrev accs (l : List Acc) : List Value := l.flatMap Acc.vs
/-- An arena and a port of it. -/
abbrev Are (p a gC : Nat) (who : Int) (g : Bool) (X : List Int) (lv : Value) (l : List Acc) (cn fl : Int) : List HP :=
  [poB p a who g, arB a gC X.length lv true cn fl, ceB gC X, row 98 7 lv l.length (accs l)]
variable {w0 w : World} {F : List HP} {a gC p : Nat} {lv : Value} {l : List Acc} {cn fl who : Int} {X : List Int}
theorem St.ne {g k : Nat} {cs ds : Array Value} {t u : TypeId} {L : List HP} (h : St w0 w (blk g cs t :: blk k ds u :: L)) : g ≠ k := by
  obtain ⟨S, h1, S1, S2, hS, hd, h2, S3, S4, hS2, hd2, h3, h4⟩ := h.own
  rintro rfl
  exact hd g ((h2.1 g).2 rfl) ((hS2 g).2 (.inl ((h3.1 g).2 rfl)))
theorem info98 : (Tryd.prog.info? 98).map (fun i => (i.zero, i.size, i.bytes)) = some (some (.agg #[.int .i64 0, .int .i64 0, .int .i64 0, .int .u64 0, .int .u64 0, .int .u64 0, .int .u64 0]), 7, 56) := by kernel_rfl
theorem new_cells (w : World) (ys : List Value) (t : TypeId) : ∀ (j : Nat) (u : Value), ys[j]? = some u → (w.alloc (.cells ys.toArray t (0, 0))).cell? ((⟨w.heap.size, 0, none⟩ : Addr).add j) = some u := by
  intro j u hj
  have ha : (⟨w.heap.size, 0, none⟩ : Addr).add j = ⟨w.heap.size, j, none⟩ := by unfold Addr.add; split <;> simp_all
  rw [ha]
  simp only [World.cell?, heap_new]
  simpa using hj
/-- append(s, t...) as one step of a region that draws its order. -/
theorem append_run_step {P : Program} {ops : Array Oper} {o : Oper} {a : Act} {Q : Exit → Act → World → Prop} {w0 W : World} {F : List HP} {K : Act → World → Prop} {E : Prop} (hgd : o.guard = none) (s x : Operand) (t e : TypeId) (z : Value) (size bytes : Nat)
    (ho : o.op = .call { callee := .builtin .append, args := #[s, x], argTypes := #[t, t] })
    (ht : P.underlying t = some (.slice e)) (hinfo : (P.info? e).map (fun i => (i.zero, i.size, i.bytes)) = some (some z, size, bytes)) (hz : z.cells.size = size) (hsz : 0 < size) (hb0 : 0 < bytes)
    (v : Value) (n : Nat) (xs : List Value) (hs : a.eval s = v) (ad : Addr) (m c : Nat) (ys : List Value) (hx : a.eval x = .slice (some ad) m c) (hyl : ys.length = m * size)
    (hys : ∀ j u, ys[j]? = some u → W.cell? (ad.add j) = some u) (h1 : ∀ u ∈ ys, u.oneCell' = true)
    (H : St w0 W (row e size v n xs :: F)) (hl : (n + m) * bytes ≤ 140737488355328)
    (h : ∀ A1 c1 w1, n + m ≤ c1 → St w0 w1 (row e size (.slice A1 (n + m) c1) (n + m) (xs ++ ys) :: F) → K (a.put o.dst (.slice A1 (n + m) c1)) w1) :
    if Region.wanted o (yielded ops a.tmps) = true then Oper.wp P o a W K Q else E := by
  have hw : Region.wanted o (yielded ops a.tmps) = true := by simp [Region.wanted, hgd]
  rw [if_pos hw]
  obtain ⟨i0, hi, hzz⟩ := Option.map_eq_some_iff.1 hinfo
  simp only [Prod.mk.injEq] at hzz
  obtain ⟨hz0, hz1, hz2⟩ := hzz
  have hlen : n + m ≤ 140737488355328 := Nat.le_trans (Nat.le_mul_of_pos_right _ hb0) hl
  obtain ⟨v1, w1, hr, hown, hg, hat⟩ := run_append_owns (P := P) W w0.heap.size t o.type e i0 z size bytes ht hi hz0 hz1 hz2 hz hsz v n xs H.owns ad m c ys hyl hys h1 (by simp only [maxLen]; omega) hl H.size_le
  have H2 := H.grown hown hg hat
  obtain ⟨A1, c1, rfl, hc1, _⟩ := H2.row_slice
  unfold Oper.wp execOp
  simp only [ho, resolve, invoke, builtin, Sem.run_bind, Sem.run_pure, Result.andThen_ok, List.map_toArray, List.map_cons, List.map_nil, hs, hx, hr]
  exact h A1 c1 w1 hc1 H2
def acc.T13 : Bool × List (List Nat × List Nat) := (true, [([], []), ([0], [0]), ([1], [1]), ([2], [2]), ([], []), ([4], [4]), ([5], [5]), ([6], [6]), ([7], [7]), ([8], [8]), ([9], [9]), ([], []), ([11], [11]), ([12], [12]), ([13], [13]), ([], []), ([], []), ([], []), ([], []), ([], []), ([], []), ([14, 15, 16, 17, 18, 19, 20], [14, 15, 16, 17, 18, 19, 20]), ([21], [21]), ([10, 22], [10, 22]), ([3, 0, 1, 2, 3, 4, 5, 6, 7, 8, 9, 10, 11, 12, 13, 14, 15, 16, 17, 18, 19, 20, 21, 22, 23], [3]), ([24, 0, 1, 2, 3, 4, 5, 6, 7, 8, 9, 10, 11, 12, 13, 14, 15, 16, 17, 18, 19, 20, 21, 22, 23], [24]), ([25, 23, 23, 0, 1, 2, 3, 4, 5, 6, 7, 8, 9, 10, 11, 12, 13, 14, 15, 16, 17, 18, 19, 20, 21, 22, 23], [23, 25])])
def acc.B13 : List Nat := [0, 1, 3, 7, 0, 16, 48, 112, 240, 496, 1008, 0, 2048, 6144, 14336, 0, 0, 0, 0, 0, 0, 2095104, 4192256, 8388592, 16777215, 33554431, 67108863]
theorem acc.tab13 : rtab .any (opsOf Tryd.f136 13) = acc.T13 := by kernel_rfl
theorem acc.bits13 : waitsOk acc.T13.2 acc.B13 = true := by kernel_rfl
/-- An access: f is what it does to the cell. -/
theorem access_81 (i : Nat) (kind want put left : Int) {F' : List HP} (hi : i < X.length) (hn : X.length ≤ 4096) (hl : l.length ≤ 1000000) (hc0 : 0 ≤ cn) (hc1 : cn ≤ 1000000)
    (hf : ∀ u, St w0 u (Are p a gC who false X lv l cn fl ++ F) → Calls Tryd.prog 163 #[.int .u64 (X.getD i 0)] u fun e u' => e = .returned (.int .u64 left) ∧ St w0 u' (Are p a gC who false X lv l cn fl ++ F'))
    (h : St w0 w (Are p a gC who true X lv l cn fl ++ F)) :
    Calls Tryd.prog 136 #[.pointer (some ⟨p, 0, none⟩), .int .i64 kind, .int .i64 i, .int .u64 want, .int .u64 put, .func (.func 163) #[] #[]] w fun e w' => ∃ lv', e = .returned (.int .u64 (X.getD i 0)) ∧ St w0 w' (Are p a gC who false (X.set i left) lv' (l ++ [⟨who, kind, i, want, put, X.getD i 0, left⟩]) (cn + 1) fl ++ F') := by
  have x0 := h.cell 0
  have x1 := h.cell 1
  have x2 := h.cell 2
  have f2 := h.frozen 2
  have ha := h.pick 1 rfl
  have y0 := ha.cell 0
  have z1 := ((h.pick 2 rfl).cell i).trans (U_getD hi)
  have hpa : p ≠ a := St.ne h
  have hpg : p ≠ gC := St.ne (h.perm (.cons _ (.swap _ _ _)))
  have hag : a ≠ gC := St.ne (ha.perm (.cons _ (.swap _ _ _)))
  have hap := hpa.symm
  have hgp := hpg.symm
  have hga := hag.symm
  clear ha
  have d1 : decide ((i : Int) < (X.length : Int)) = true := by simp; omega
  have H := Aside.mk h
  clear h
  have HF := Aside.mk hf
  clear hf
  obtain ⟨seen, hseen⟩ : ∃ s, s = X.getD i 0 := ⟨_, rfl⟩
  rw [← hseen] at z1 HF ⊢
  have HS := Aside.mk hseen
  clear hseen
  obtain ⟨n, hn'⟩ : ∃ n, n = X.length := ⟨_, rfl⟩
  have HN := Aside.mk hn'
  have hi2 := Aside.mk hi
  rw [← hn'] at d1 y0 hi hn
  have y0' : w.cell? ⟨a, 0, none⟩ = some (.slice (some ⟨gC, 0, none⟩) n n) := by rw [hn']; exact (H.out.pick 1 rfl).cell 0
  clear y0 hn'
  go_enter Tryd.func136, Tryd.ntmps136
  go_wp2_with (first
    | (go_at_call 78; refine (inside_yes i hi2.out (H.out.pick 1 rfl)).mono ?_; rintro e w1 ⟨rfl, rfl⟩)
    | (go_at_call 163; refine (HF.out _ (H.out.put 2 (.bool false) rfl)).mono ?_; rintro e w2 ⟨rfl, h2⟩; have q0 := h2.cell 0; have q1 := h2.cell 1; have h2a := h2.pick 1 rfl; have y0 : w2.cell? ⟨a, 0, none⟩ = some (.slice (some ⟨gC, 0, none⟩) n n) := by rw [HN.out]; exact h2a.cell 0
       have y2 := h2a.cell 2; have y3 := h2a.cell 3; have g3 := h2a.frozen 3; have fz := (h2.pick 2 rfl).frozen i; have zz := ((h2.pick 2 rfl).cell i).trans (U_getD hi2.out); have H2 := Aside.mk h2; clear h2 h2a HF H x0 x1 x2 f2 z1 y0'))
  have s1 := (H2.out.pick 2 rfl).put i (.int .u64 left) (U_set (X := X) left)
  have s2 := ((s1.pick 2 rfl).put 3 (.int .i64 (cn + 1)) rfl).drew
  have H3 := Aside.mk s2
  clear s1 s2 H2 q0 q1 y0 y2 y3 g3 fz zz
  refine start_ (n := 27) (S := fun w' => w'.cell? ⟨p, 0, none⟩ = some (.pointer (some ⟨a, 0, none⟩)) ∧ w'.cell? ⟨p, 1, none⟩ = some (.int .i64 who) ∧ w'.cell? ⟨a, 1, none⟩ = some lv) (ds := [26]) (flg 27 0) (by kernel_rfl) rfl rfl ⟨(H3.out.pick 2 rfl).cell 0, (H3.out.pick 2 rfl).cell 1, H3.out.cell 1⟩ (fun hHeld => ?_)
  refine with_tabW acc.tab13 acc.bits13 (fun HT_ HW_ => ?_)
  generalize World.drew _ = w4 at H3 hHeld ⊢
  refine pu_ (v := ?_) (a' := ?_) 0 (some 87) 1 rfl rfl HT_ (by kernel_rfl) (.inl ⟨by rfl, ?_⟩) ?_ ?_; rotate_left 2; (· intro w'; go_simp; with_reducible rfl); (· simp only [nrm]; rfl)
  refine pu_ (v := ?_) (a' := ?_) 1 (some 88) 3 rfl rfl HT_ (by kernel_rfl) (.inl ⟨by rfl, ?_⟩) ?_ ?_; rotate_left 2; (· intro w'; go_simp; with_reducible rfl); (· simp only [nrm]; rfl)
  refine pu_ (v := ?_) (a' := ?_) 2 (some 89) 7 rfl rfl HT_ (by kernel_rfl) (.inl ⟨by rfl, ?_⟩) ?_ ?_; rotate_left 2; (· intro w'; go_simp; with_reducible rfl); (· simp only [nrm]; rfl)
  refine tk_ (v := ?_) (a' := ?_) 3 (some 90) 15 rfl rfl HT_ HW_ (by kernel_rfl) (.inl ⟨by rfl, ?_⟩) hHeld ?_ ?_; rotate_left 2; (· rintro w' ⟨_, _, _⟩; go_simp; with_reducible rfl); (· simp only [nrm]; rfl)
  refine pu_ (v := ?_) (a' := ?_) 4 (some 91) 31 rfl rfl HT_ (by kernel_rfl) (.inl ⟨by rfl, ?_⟩) ?_ ?_; rotate_left 2; (· intro w'; go_simp; with_reducible rfl); (· simp only [nrm]; rfl)
  refine pu_ (v := ?_) (a' := ?_) 5 (some 92) 63 rfl rfl HT_ (by kernel_rfl) (.inl ⟨by rfl, ?_⟩) ?_ ?_; rotate_left 2; (· intro w'; go_simp; with_reducible rfl); (· simp only [nrm]; rfl)
  refine pu_ (v := ?_) (a' := ?_) 6 (some 93) 127 rfl rfl HT_ (by kernel_rfl) (.inl ⟨by rfl, ?_⟩) ?_ ?_; rotate_left 2; (· intro w'; go_simp; with_reducible rfl); (· simp only [nrm]; rfl)
  refine tk_ (v := ?_) (a' := ?_) 7 (some 94) 255 rfl rfl HT_ HW_ (by kernel_rfl) (.inl ⟨by rfl, ?_⟩) hHeld ?_ ?_; rotate_left 2; (· rintro w' ⟨_, _, _⟩; go_simp; with_reducible rfl); (· simp only [nrm]; rfl)
  refine pu_ (v := ?_) (a' := ?_) 8 (some 95) 511 rfl rfl HT_ (by kernel_rfl) (.inl ⟨by rfl, ?_⟩) ?_ ?_; rotate_left 2; (· intro w'; go_simp; with_reducible rfl); (· simp only [nrm]; rfl)
  refine pu_ (v := ?_) (a' := ?_) 9 (some 96) 1023 rfl rfl HT_ (by kernel_rfl) (.inl ⟨by rfl, ?_⟩) ?_ ?_; rotate_left 2; (· intro w'; go_simp; with_reducible rfl); (· simp only [nrm]; rfl)
  refine tk_ (v := ?_) (a' := ?_) 10 (some 97) 2047 rfl rfl HT_ HW_ (by kernel_rfl) (.inl ⟨by rfl, ?_⟩) hHeld ?_ ?_; rotate_left 2; (· rintro w' ⟨_, _, _⟩; go_simp; with_reducible rfl); (· simp only [nrm]; rfl)
  refine pu_ (v := ?_) (a' := ?_) 11 (some 98) 4095 rfl rfl HT_ (by kernel_rfl) (.inl ⟨by rfl, ?_⟩) ?_ ?_; rotate_left 2; (· intro w'; go_simp; with_reducible rfl); (· simp only [nrm]; rfl)
  refine pu_ (v := ?_) (a' := ?_) 12 (some 99) 8191 rfl rfl HT_ (by kernel_rfl) (.inl ⟨by rfl, ?_⟩) ?_ ?_; rotate_left 2; (· intro w'; go_simp; with_reducible rfl); (· simp only [nrm]; rfl)
  refine pu_ (v := ?_) (a' := ?_) 13 (some 100) 16383 rfl rfl HT_ (by kernel_rfl) (.inl ⟨by rfl, ?_⟩) ?_ ?_; rotate_left 2; (· intro w'; go_simp; with_reducible rfl); (· simp only [nrm]; rfl)
  refine tk_ (v := ?_) (a' := ?_) 14 (some 101) 32767 rfl rfl HT_ HW_ (by kernel_rfl) (.inl ⟨by rfl, ?_⟩) hHeld ?_ ?_; rotate_left 2; (· rintro w' ⟨_, _, _⟩; go_simp; with_reducible rfl); (· simp only [nrm]; rfl)
  refine pu_ (v := ?_) (a' := ?_) 15 (some 102) 65535 rfl rfl HT_ (by kernel_rfl) (.inl ⟨by rfl, ?_⟩) ?_ ?_; rotate_left 2; (· intro w'; go_simp; with_reducible rfl); (· simp only [nrm]; rfl)
  refine pu_ (v := ?_) (a' := ?_) 16 (some 103) 131071 rfl rfl HT_ (by kernel_rfl) (.inl ⟨by rfl, ?_⟩) ?_ ?_; rotate_left 2; (· intro w'; go_simp; with_reducible rfl); (· simp only [nrm]; rfl)
  refine pu_ (v := ?_) (a' := ?_) 17 (some 104) 262143 rfl rfl HT_ (by kernel_rfl) (.inl ⟨by rfl, ?_⟩) ?_ ?_; rotate_left 2; (· intro w'; go_simp; with_reducible rfl); (· simp only [nrm]; rfl)
  refine pu_ (v := ?_) (a' := ?_) 18 (some 105) 524287 rfl rfl HT_ (by kernel_rfl) (.inl ⟨by rfl, ?_⟩) ?_ ?_; rotate_left 2; (· intro w'; go_simp; with_reducible rfl); (· simp only [nrm]; rfl)
  refine pu_ (v := ?_) (a' := ?_) 19 (some 106) 1048575 rfl rfl HT_ (by kernel_rfl) (.inl ⟨by rfl, ?_⟩) ?_ ?_; rotate_left 2; (· intro w'; go_simp; with_reducible rfl); (· simp only [nrm]; rfl)
  refine pu_ (v := ?_) (a' := ?_) 20 (some 107) 2097151 rfl rfl HT_ (by kernel_rfl) (.inl ⟨by rfl, ?_⟩) ?_ ?_; rotate_left 2; (· intro w'; go_simp; with_reducible rfl); (· simp only [nrm]; rfl)
  refine pu_ (v := ?_) (a' := ?_) 21 (some 108) 4194303 rfl rfl HT_ (by kernel_rfl) (.inl ⟨by rfl, ?_⟩) ?_ ?_; rotate_left 2; (· intro w'; go_simp; with_reducible rfl); (· simp only [nrm]; rfl)
  refine one_ (i := 22) (N := some 109) (flg 27 8388607) rfl rfl (one_of HT_.out (by kernel_rfl)) (by decide) (fun K hK => ?_)
  refine value_ (w1 := ?_) (v := ?_) (by rfl) rfl ?_ ?_
  rotate_left 2
  · go_simp
    constructor
    · rfl
    · rfl
  have HG := Aside.mk (H3.out.garbage (.cells #[.int .i64 who, .int .i64 kind, .int .i64 i, .int .u64 want, .int .u64 put, .int .u64 seen, .int .u64 left] 98))
  refine hK.out _ _ ⟨(HG.out.pick 2 rfl).cell 0, (HG.out.pick 2 rfl).cell 1, HG.out.cell 1⟩ (fun hHeld => ?_)
  clear hK K
  refine norm_ (a' := ?_) ?_ ?_
  rotate_left
  · show Act.put _ (some 109) _ = _
    simp only [Act.put, List.setIfInBounds_toArray, List.set_cons_zero, List.set_cons_succ, i64_w, i32_w]
    rfl
  refine one_ (i := 23) (N := some 110) (flg 27 16777215) rfl rfl (one_of HT_.out (by kernel_rfl)) (by decide) (fun K hK => ?_)
  refine append_run_step (by rfl) (.tmp 97) (.tmp 109) 93 98 (.agg #[.int .i64 0, .int .i64 0, .int .i64 0, .int .u64 0, .int .u64 0, .int .u64 0, .int .u64 0]) 7 56 rfl Tryd.underlying93 info98 rfl (by decide) (by decide) lv l.length (accs l) rfl ⟨_, 0, none⟩ 1 1 (Acc.vs ⟨who, kind, i, want, put, seen, left⟩) rfl rfl ?hys ?h1 (HG.out.pick 3 rfl) ?hl ?_
  case hys => exact new_cells w4 (Acc.vs ⟨who, kind, i, want, put, seen, left⟩) 98
  case h1 => simp [Acc.vs, Value.oneCell']
  case hl => omega
  intro A1 c1 w5 hc1 h5
  have h6 := h5.perm (List.Perm.swap _ _ _)
  have H5 := Aside.mk h6
  clear h5 h6
  refine hK.out _ _ ⟨(H5.out.pick 3 rfl).cell 0, (H5.out.pick 3 rfl).cell 1, H5.out.cell 1⟩ (fun hHeld => ?_)
  clear hK K
  refine norm_ (a' := ?_) ?_ ?_
  rotate_left
  · show Act.put _ (some 110) _ = _
    simp only [Act.put, List.setIfInBounds_toArray, List.set_cons_zero, List.set_cons_succ, i64_w, i32_w]
    rfl
  refine pu_ (v := ?_) (a' := ?_) 24 (some 111) 33554431 rfl rfl HT_ (by kernel_rfl) (.inl ⟨by rfl, ?_⟩) ?_ ?_; rotate_left 2; (· intro w'; go_simp; with_reducible rfl); (· simp only [nrm]; rfl)
  refine pu_ (v := ?_) (a' := ?_) 25 (some 112) 67108863 rfl rfl HT_ (by kernel_rfl) (.inl ⟨by rfl, ?_⟩) ?_ ?_; rotate_left 2; (· intro w'; go_simp; with_reducible rfl); (· simp only [nrm]; rfl)
  have k1 := H5.out.cell 1
  have kf := H5.out.frozen 1
  refine last_ (i := 26) (N := none) (flg 27 134217727) rfl rfl (one_of HT_.out (by kernel_rfl)) (by decide) (fun K hK => ?_)
  refine skip_ (w1 := ?_) (by rfl) rfl ?_ ?_
  rotate_left
  · go_simp
    rfl
  refine hK.out _ _ ?_
  refine done_ (done_of HT_.out (by kernel_rfl)) ?_
  try go_wp2
  go_ret
  exact ⟨rfl, _, ((H5.out.put 1 _ rfl).pick 3 rfl).perm (.cons _ (.cons _ (.swap _ _ _)))⟩
/-- An access: f is what it does to the cell. -/
theorem access_87 (b1 : Nat) (i : Nat) (kind want put left : Int) {F' : List HP} (hi : i < X.length) (hn : X.length ≤ 4096) (hl : l.length ≤ 1000000) (hc0 : 0 ≤ cn) (hc1 : cn ≤ 1000000)
    (hf : ∀ u, St w0 u (Are p a gC who false X lv l cn fl ++ F) → Calls Tryd.prog 137 #[.int .u64 (X.getD i 0), .pointer (some ⟨b1, 0, none⟩)] u fun e u' => e = .returned (.int .u64 left) ∧ St w0 u' (Are p a gC who false X lv l cn fl ++ F'))
    (h : St w0 w (Are p a gC who true X lv l cn fl ++ F)) :
    Calls Tryd.prog 136 #[.pointer (some ⟨p, 0, none⟩), .int .i64 kind, .int .i64 i, .int .u64 want, .int .u64 put, .func (.func 137) #[] #[.pointer (some ⟨b1, 0, none⟩)]] w fun e w' => ∃ lv', e = .returned (.int .u64 (X.getD i 0)) ∧ St w0 w' (Are p a gC who false (X.set i left) lv' (l ++ [⟨who, kind, i, want, put, X.getD i 0, left⟩]) (cn + 1) fl ++ F') := by
  have x0 := h.cell 0
  have x1 := h.cell 1
  have x2 := h.cell 2
  have f2 := h.frozen 2
  have ha := h.pick 1 rfl
  have y0 := ha.cell 0
  have z1 := ((h.pick 2 rfl).cell i).trans (U_getD hi)
  have hpa : p ≠ a := St.ne h
  have hpg : p ≠ gC := St.ne (h.perm (.cons _ (.swap _ _ _)))
  have hag : a ≠ gC := St.ne (ha.perm (.cons _ (.swap _ _ _)))
  have hap := hpa.symm
  have hgp := hpg.symm
  have hga := hag.symm
  clear ha
  have d1 : decide ((i : Int) < (X.length : Int)) = true := by simp; omega
  have H := Aside.mk h
  clear h
  have HF := Aside.mk hf
  clear hf
  obtain ⟨seen, hseen⟩ : ∃ s, s = X.getD i 0 := ⟨_, rfl⟩
  rw [← hseen] at z1 HF ⊢
  have HS := Aside.mk hseen
  clear hseen
  obtain ⟨n, hn'⟩ : ∃ n, n = X.length := ⟨_, rfl⟩
  have HN := Aside.mk hn'
  have hi2 := Aside.mk hi
  rw [← hn'] at d1 y0 hi hn
  have y0' : w.cell? ⟨a, 0, none⟩ = some (.slice (some ⟨gC, 0, none⟩) n n) := by rw [hn']; exact (H.out.pick 1 rfl).cell 0
  clear y0 hn'
  go_enter Tryd.func136, Tryd.ntmps136
  go_wp2_with (first
    | (go_at_call 78; refine (inside_yes i hi2.out (H.out.pick 1 rfl)).mono ?_; rintro e w1 ⟨rfl, rfl⟩)
    | (go_at_call 137; refine (HF.out _ (H.out.put 2 (.bool false) rfl)).mono ?_; rintro e w2 ⟨rfl, h2⟩; have q0 := h2.cell 0; have q1 := h2.cell 1; have h2a := h2.pick 1 rfl; have y0 : w2.cell? ⟨a, 0, none⟩ = some (.slice (some ⟨gC, 0, none⟩) n n) := by rw [HN.out]; exact h2a.cell 0
       have y2 := h2a.cell 2; have y3 := h2a.cell 3; have g3 := h2a.frozen 3; have fz := (h2.pick 2 rfl).frozen i; have zz := ((h2.pick 2 rfl).cell i).trans (U_getD hi2.out); have H2 := Aside.mk h2; clear h2 h2a HF H x0 x1 x2 f2 z1 y0'))
  have s1 := (H2.out.pick 2 rfl).put i (.int .u64 left) (U_set (X := X) left)
  have s2 := ((s1.pick 2 rfl).put 3 (.int .i64 (cn + 1)) rfl).drew
  have H3 := Aside.mk s2
  clear s1 s2 H2 q0 q1 y0 y2 y3 g3 fz zz
  refine start_ (n := 27) (S := fun w' => w'.cell? ⟨p, 0, none⟩ = some (.pointer (some ⟨a, 0, none⟩)) ∧ w'.cell? ⟨p, 1, none⟩ = some (.int .i64 who) ∧ w'.cell? ⟨a, 1, none⟩ = some lv) (ds := [26]) (flg 27 0) (by kernel_rfl) rfl rfl ⟨(H3.out.pick 2 rfl).cell 0, (H3.out.pick 2 rfl).cell 1, H3.out.cell 1⟩ (fun hHeld => ?_)
  refine with_tabW acc.tab13 acc.bits13 (fun HT_ HW_ => ?_)
  generalize World.drew _ = w4 at H3 hHeld ⊢
  refine pu_ (v := ?_) (a' := ?_) 0 (some 87) 1 rfl rfl HT_ (by kernel_rfl) (.inl ⟨by rfl, ?_⟩) ?_ ?_; rotate_left 2; (· intro w'; go_simp; with_reducible rfl); (· simp only [nrm]; rfl)
  refine pu_ (v := ?_) (a' := ?_) 1 (some 88) 3 rfl rfl HT_ (by kernel_rfl) (.inl ⟨by rfl, ?_⟩) ?_ ?_; rotate_left 2; (· intro w'; go_simp; with_reducible rfl); (· simp only [nrm]; rfl)
  refine pu_ (v := ?_) (a' := ?_) 2 (some 89) 7 rfl rfl HT_ (by kernel_rfl) (.inl ⟨by rfl, ?_⟩) ?_ ?_; rotate_left 2; (· intro w'; go_simp; with_reducible rfl); (· simp only [nrm]; rfl)
  refine tk_ (v := ?_) (a' := ?_) 3 (some 90) 15 rfl rfl HT_ HW_ (by kernel_rfl) (.inl ⟨by rfl, ?_⟩) hHeld ?_ ?_; rotate_left 2; (· rintro w' ⟨_, _, _⟩; go_simp; with_reducible rfl); (· simp only [nrm]; rfl)
  refine pu_ (v := ?_) (a' := ?_) 4 (some 91) 31 rfl rfl HT_ (by kernel_rfl) (.inl ⟨by rfl, ?_⟩) ?_ ?_; rotate_left 2; (· intro w'; go_simp; with_reducible rfl); (· simp only [nrm]; rfl)
  refine pu_ (v := ?_) (a' := ?_) 5 (some 92) 63 rfl rfl HT_ (by kernel_rfl) (.inl ⟨by rfl, ?_⟩) ?_ ?_; rotate_left 2; (· intro w'; go_simp; with_reducible rfl); (· simp only [nrm]; rfl)
  refine pu_ (v := ?_) (a' := ?_) 6 (some 93) 127 rfl rfl HT_ (by kernel_rfl) (.inl ⟨by rfl, ?_⟩) ?_ ?_; rotate_left 2; (· intro w'; go_simp; with_reducible rfl); (· simp only [nrm]; rfl)
  refine tk_ (v := ?_) (a' := ?_) 7 (some 94) 255 rfl rfl HT_ HW_ (by kernel_rfl) (.inl ⟨by rfl, ?_⟩) hHeld ?_ ?_; rotate_left 2; (· rintro w' ⟨_, _, _⟩; go_simp; with_reducible rfl); (· simp only [nrm]; rfl)
  refine pu_ (v := ?_) (a' := ?_) 8 (some 95) 511 rfl rfl HT_ (by kernel_rfl) (.inl ⟨by rfl, ?_⟩) ?_ ?_; rotate_left 2; (· intro w'; go_simp; with_reducible rfl); (· simp only [nrm]; rfl)
  refine pu_ (v := ?_) (a' := ?_) 9 (some 96) 1023 rfl rfl HT_ (by kernel_rfl) (.inl ⟨by rfl, ?_⟩) ?_ ?_; rotate_left 2; (· intro w'; go_simp; with_reducible rfl); (· simp only [nrm]; rfl)
  refine tk_ (v := ?_) (a' := ?_) 10 (some 97) 2047 rfl rfl HT_ HW_ (by kernel_rfl) (.inl ⟨by rfl, ?_⟩) hHeld ?_ ?_; rotate_left 2; (· rintro w' ⟨_, _, _⟩; go_simp; with_reducible rfl); (· simp only [nrm]; rfl)
  refine pu_ (v := ?_) (a' := ?_) 11 (some 98) 4095 rfl rfl HT_ (by kernel_rfl) (.inl ⟨by rfl, ?_⟩) ?_ ?_; rotate_left 2; (· intro w'; go_simp; with_reducible rfl); (· simp only [nrm]; rfl)
  refine pu_ (v := ?_) (a' := ?_) 12 (some 99) 8191 rfl rfl HT_ (by kernel_rfl) (.inl ⟨by rfl, ?_⟩) ?_ ?_; rotate_left 2; (· intro w'; go_simp; with_reducible rfl); (· simp only [nrm]; rfl)
  refine pu_ (v := ?_) (a' := ?_) 13 (some 100) 16383 rfl rfl HT_ (by kernel_rfl) (.inl ⟨by rfl, ?_⟩) ?_ ?_; rotate_left 2; (· intro w'; go_simp; with_reducible rfl); (· simp only [nrm]; rfl)
  refine tk_ (v := ?_) (a' := ?_) 14 (some 101) 32767 rfl rfl HT_ HW_ (by kernel_rfl) (.inl ⟨by rfl, ?_⟩) hHeld ?_ ?_; rotate_left 2; (· rintro w' ⟨_, _, _⟩; go_simp; with_reducible rfl); (· simp only [nrm]; rfl)
  refine pu_ (v := ?_) (a' := ?_) 15 (some 102) 65535 rfl rfl HT_ (by kernel_rfl) (.inl ⟨by rfl, ?_⟩) ?_ ?_; rotate_left 2; (· intro w'; go_simp; with_reducible rfl); (· simp only [nrm]; rfl)
  refine pu_ (v := ?_) (a' := ?_) 16 (some 103) 131071 rfl rfl HT_ (by kernel_rfl) (.inl ⟨by rfl, ?_⟩) ?_ ?_; rotate_left 2; (· intro w'; go_simp; with_reducible rfl); (· simp only [nrm]; rfl)
  refine pu_ (v := ?_) (a' := ?_) 17 (some 104) 262143 rfl rfl HT_ (by kernel_rfl) (.inl ⟨by rfl, ?_⟩) ?_ ?_; rotate_left 2; (· intro w'; go_simp; with_reducible rfl); (· simp only [nrm]; rfl)
  refine pu_ (v := ?_) (a' := ?_) 18 (some 105) 524287 rfl rfl HT_ (by kernel_rfl) (.inl ⟨by rfl, ?_⟩) ?_ ?_; rotate_left 2; (· intro w'; go_simp; with_reducible rfl); (· simp only [nrm]; rfl)
  refine pu_ (v := ?_) (a' := ?_) 19 (some 106) 1048575 rfl rfl HT_ (by kernel_rfl) (.inl ⟨by rfl, ?_⟩) ?_ ?_; rotate_left 2; (· intro w'; go_simp; with_reducible rfl); (· simp only [nrm]; rfl)
  refine pu_ (v := ?_) (a' := ?_) 20 (some 107) 2097151 rfl rfl HT_ (by kernel_rfl) (.inl ⟨by rfl, ?_⟩) ?_ ?_; rotate_left 2; (· intro w'; go_simp; with_reducible rfl); (· simp only [nrm]; rfl)
  refine pu_ (v := ?_) (a' := ?_) 21 (some 108) 4194303 rfl rfl HT_ (by kernel_rfl) (.inl ⟨by rfl, ?_⟩) ?_ ?_; rotate_left 2; (· intro w'; go_simp; with_reducible rfl); (· simp only [nrm]; rfl)
  refine one_ (i := 22) (N := some 109) (flg 27 8388607) rfl rfl (one_of HT_.out (by kernel_rfl)) (by decide) (fun K hK => ?_)
  refine value_ (w1 := ?_) (v := ?_) (by rfl) rfl ?_ ?_
  rotate_left 2
  · go_simp
    constructor
    · rfl
    · rfl
  have HG := Aside.mk (H3.out.garbage (.cells #[.int .i64 who, .int .i64 kind, .int .i64 i, .int .u64 want, .int .u64 put, .int .u64 seen, .int .u64 left] 98))
  refine hK.out _ _ ⟨(HG.out.pick 2 rfl).cell 0, (HG.out.pick 2 rfl).cell 1, HG.out.cell 1⟩ (fun hHeld => ?_)
  clear hK K
  refine norm_ (a' := ?_) ?_ ?_
  rotate_left
  · show Act.put _ (some 109) _ = _
    simp only [Act.put, List.setIfInBounds_toArray, List.set_cons_zero, List.set_cons_succ, i64_w, i32_w]
    rfl
  refine one_ (i := 23) (N := some 110) (flg 27 16777215) rfl rfl (one_of HT_.out (by kernel_rfl)) (by decide) (fun K hK => ?_)
  refine append_run_step (by rfl) (.tmp 97) (.tmp 109) 93 98 (.agg #[.int .i64 0, .int .i64 0, .int .i64 0, .int .u64 0, .int .u64 0, .int .u64 0, .int .u64 0]) 7 56 rfl Tryd.underlying93 info98 rfl (by decide) (by decide) lv l.length (accs l) rfl ⟨_, 0, none⟩ 1 1 (Acc.vs ⟨who, kind, i, want, put, seen, left⟩) rfl rfl ?hys ?h1 (HG.out.pick 3 rfl) ?hl ?_
  case hys => exact new_cells w4 (Acc.vs ⟨who, kind, i, want, put, seen, left⟩) 98
  case h1 => simp [Acc.vs, Value.oneCell']
  case hl => omega
  intro A1 c1 w5 hc1 h5
  have h6 := h5.perm (List.Perm.swap _ _ _)
  have H5 := Aside.mk h6
  clear h5 h6
  refine hK.out _ _ ⟨(H5.out.pick 3 rfl).cell 0, (H5.out.pick 3 rfl).cell 1, H5.out.cell 1⟩ (fun hHeld => ?_)
  clear hK K
  refine norm_ (a' := ?_) ?_ ?_
  rotate_left
  · show Act.put _ (some 110) _ = _
    simp only [Act.put, List.setIfInBounds_toArray, List.set_cons_zero, List.set_cons_succ, i64_w, i32_w]
    rfl
  refine pu_ (v := ?_) (a' := ?_) 24 (some 111) 33554431 rfl rfl HT_ (by kernel_rfl) (.inl ⟨by rfl, ?_⟩) ?_ ?_; rotate_left 2; (· intro w'; go_simp; with_reducible rfl); (· simp only [nrm]; rfl)
  refine pu_ (v := ?_) (a' := ?_) 25 (some 112) 67108863 rfl rfl HT_ (by kernel_rfl) (.inl ⟨by rfl, ?_⟩) ?_ ?_; rotate_left 2; (· intro w'; go_simp; with_reducible rfl); (· simp only [nrm]; rfl)
  have k1 := H5.out.cell 1
  have kf := H5.out.frozen 1
  refine last_ (i := 26) (N := none) (flg 27 134217727) rfl rfl (one_of HT_.out (by kernel_rfl)) (by decide) (fun K hK => ?_)
  refine skip_ (w1 := ?_) (by rfl) rfl ?_ ?_
  rotate_left
  · go_simp
    rfl
  refine hK.out _ _ ?_
  refine done_ (done_of HT_.out (by kernel_rfl)) ?_
  try go_wp2
  go_ret
  exact ⟨rfl, _, ((H5.out.put 1 _ rfl).pick 3 rfl).perm (.cons _ (.cons _ (.swap _ _ _)))⟩
/-- An access: f is what it does to the cell. -/
theorem access_86 (b1 b2 b3 : Nat) (i : Nat) (kind want put left : Int) {F' : List HP} (hi : i < X.length) (hn : X.length ≤ 4096) (hl : l.length ≤ 1000000) (hc0 : 0 ≤ cn) (hc1 : cn ≤ 1000000)
    (hf : ∀ u, St w0 u (Are p a gC who false X lv l cn fl ++ F) → Calls Tryd.prog 162 #[.int .u64 (X.getD i 0), .pointer (some ⟨b1, 0, none⟩), .pointer (some ⟨b2, 0, none⟩), .pointer (some ⟨b3, 0, none⟩)] u fun e u' => e = .returned (.int .u64 left) ∧ St w0 u' (Are p a gC who false X lv l cn fl ++ F'))
    (h : St w0 w (Are p a gC who true X lv l cn fl ++ F)) :
    Calls Tryd.prog 136 #[.pointer (some ⟨p, 0, none⟩), .int .i64 kind, .int .i64 i, .int .u64 want, .int .u64 put, .func (.func 162) #[] #[.pointer (some ⟨b1, 0, none⟩), .pointer (some ⟨b2, 0, none⟩), .pointer (some ⟨b3, 0, none⟩)]] w fun e w' => ∃ lv', e = .returned (.int .u64 (X.getD i 0)) ∧ St w0 w' (Are p a gC who false (X.set i left) lv' (l ++ [⟨who, kind, i, want, put, X.getD i 0, left⟩]) (cn + 1) fl ++ F') := by
  have x0 := h.cell 0
  have x1 := h.cell 1
  have x2 := h.cell 2
  have f2 := h.frozen 2
  have ha := h.pick 1 rfl
  have y0 := ha.cell 0
  have z1 := ((h.pick 2 rfl).cell i).trans (U_getD hi)
  have hpa : p ≠ a := St.ne h
  have hpg : p ≠ gC := St.ne (h.perm (.cons _ (.swap _ _ _)))
  have hag : a ≠ gC := St.ne (ha.perm (.cons _ (.swap _ _ _)))
  have hap := hpa.symm
  have hgp := hpg.symm
  have hga := hag.symm
  clear ha
  have d1 : decide ((i : Int) < (X.length : Int)) = true := by simp; omega
  have H := Aside.mk h
  clear h
  have HF := Aside.mk hf
  clear hf
  obtain ⟨seen, hseen⟩ : ∃ s, s = X.getD i 0 := ⟨_, rfl⟩
  rw [← hseen] at z1 HF ⊢
  have HS := Aside.mk hseen
  clear hseen
  obtain ⟨n, hn'⟩ : ∃ n, n = X.length := ⟨_, rfl⟩
  have HN := Aside.mk hn'
  have hi2 := Aside.mk hi
  rw [← hn'] at d1 y0 hi hn
  have y0' : w.cell? ⟨a, 0, none⟩ = some (.slice (some ⟨gC, 0, none⟩) n n) := by rw [hn']; exact (H.out.pick 1 rfl).cell 0
  clear y0 hn'
  go_enter Tryd.func136, Tryd.ntmps136
  go_wp2_with (first
    | (go_at_call 78; refine (inside_yes i hi2.out (H.out.pick 1 rfl)).mono ?_; rintro e w1 ⟨rfl, rfl⟩)
    | (go_at_call 162; refine (HF.out _ (H.out.put 2 (.bool false) rfl)).mono ?_; rintro e w2 ⟨rfl, h2⟩; have q0 := h2.cell 0; have q1 := h2.cell 1; have h2a := h2.pick 1 rfl; have y0 : w2.cell? ⟨a, 0, none⟩ = some (.slice (some ⟨gC, 0, none⟩) n n) := by rw [HN.out]; exact h2a.cell 0
       have y2 := h2a.cell 2; have y3 := h2a.cell 3; have g3 := h2a.frozen 3; have fz := (h2.pick 2 rfl).frozen i; have zz := ((h2.pick 2 rfl).cell i).trans (U_getD hi2.out); have H2 := Aside.mk h2; clear h2 h2a HF H x0 x1 x2 f2 z1 y0'))
  have s1 := (H2.out.pick 2 rfl).put i (.int .u64 left) (U_set (X := X) left)
  have s2 := ((s1.pick 2 rfl).put 3 (.int .i64 (cn + 1)) rfl).drew
  have H3 := Aside.mk s2
  clear s1 s2 H2 q0 q1 y0 y2 y3 g3 fz zz
  refine start_ (n := 27) (S := fun w' => w'.cell? ⟨p, 0, none⟩ = some (.pointer (some ⟨a, 0, none⟩)) ∧ w'.cell? ⟨p, 1, none⟩ = some (.int .i64 who) ∧ w'.cell? ⟨a, 1, none⟩ = some lv) (ds := [26]) (flg 27 0) (by kernel_rfl) rfl rfl ⟨(H3.out.pick 2 rfl).cell 0, (H3.out.pick 2 rfl).cell 1, H3.out.cell 1⟩ (fun hHeld => ?_)
  refine with_tabW acc.tab13 acc.bits13 (fun HT_ HW_ => ?_)
  generalize World.drew _ = w4 at H3 hHeld ⊢
  refine pu_ (v := ?_) (a' := ?_) 0 (some 87) 1 rfl rfl HT_ (by kernel_rfl) (.inl ⟨by rfl, ?_⟩) ?_ ?_; rotate_left 2; (· intro w'; go_simp; with_reducible rfl); (· simp only [nrm]; rfl)
  refine pu_ (v := ?_) (a' := ?_) 1 (some 88) 3 rfl rfl HT_ (by kernel_rfl) (.inl ⟨by rfl, ?_⟩) ?_ ?_; rotate_left 2; (· intro w'; go_simp; with_reducible rfl); (· simp only [nrm]; rfl)
  refine pu_ (v := ?_) (a' := ?_) 2 (some 89) 7 rfl rfl HT_ (by kernel_rfl) (.inl ⟨by rfl, ?_⟩) ?_ ?_; rotate_left 2; (· intro w'; go_simp; with_reducible rfl); (· simp only [nrm]; rfl)
  refine tk_ (v := ?_) (a' := ?_) 3 (some 90) 15 rfl rfl HT_ HW_ (by kernel_rfl) (.inl ⟨by rfl, ?_⟩) hHeld ?_ ?_; rotate_left 2; (· rintro w' ⟨_, _, _⟩; go_simp; with_reducible rfl); (· simp only [nrm]; rfl)
  refine pu_ (v := ?_) (a' := ?_) 4 (some 91) 31 rfl rfl HT_ (by kernel_rfl) (.inl ⟨by rfl, ?_⟩) ?_ ?_; rotate_left 2; (· intro w'; go_simp; with_reducible rfl); (· simp only [nrm]; rfl)
  refine pu_ (v := ?_) (a' := ?_) 5 (some 92) 63 rfl rfl HT_ (by kernel_rfl) (.inl ⟨by rfl, ?_⟩) ?_ ?_; rotate_left 2; (· intro w'; go_simp; with_reducible rfl); (· simp only [nrm]; rfl)
  refine pu_ (v := ?_) (a' := ?_) 6 (some 93) 127 rfl rfl HT_ (by kernel_rfl) (.inl ⟨by rfl, ?_⟩) ?_ ?_; rotate_left 2; (· intro w'; go_simp; with_reducible rfl); (· simp only [nrm]; rfl)
  refine tk_ (v := ?_) (a' := ?_) 7 (some 94) 255 rfl rfl HT_ HW_ (by kernel_rfl) (.inl ⟨by rfl, ?_⟩) hHeld ?_ ?_; rotate_left 2; (· rintro w' ⟨_, _, _⟩; go_simp; with_reducible rfl); (· simp only [nrm]; rfl)
  refine pu_ (v := ?_) (a' := ?_) 8 (some 95) 511 rfl rfl HT_ (by kernel_rfl) (.inl ⟨by rfl, ?_⟩) ?_ ?_; rotate_left 2; (· intro w'; go_simp; with_reducible rfl); (· simp only [nrm]; rfl)
  refine pu_ (v := ?_) (a' := ?_) 9 (some 96) 1023 rfl rfl HT_ (by kernel_rfl) (.inl ⟨by rfl, ?_⟩) ?_ ?_; rotate_left 2; (· intro w'; go_simp; with_reducible rfl); (· simp only [nrm]; rfl)
  refine tk_ (v := ?_) (a' := ?_) 10 (some 97) 2047 rfl rfl HT_ HW_ (by kernel_rfl) (.inl ⟨by rfl, ?_⟩) hHeld ?_ ?_; rotate_left 2; (· rintro w' ⟨_, _, _⟩; go_simp; with_reducible rfl); (· simp only [nrm]; rfl)
  refine pu_ (v := ?_) (a' := ?_) 11 (some 98) 4095 rfl rfl HT_ (by kernel_rfl) (.inl ⟨by rfl, ?_⟩) ?_ ?_; rotate_left 2; (· intro w'; go_simp; with_reducible rfl); (· simp only [nrm]; rfl)
  refine pu_ (v := ?_) (a' := ?_) 12 (some 99) 8191 rfl rfl HT_ (by kernel_rfl) (.inl ⟨by rfl, ?_⟩) ?_ ?_; rotate_left 2; (· intro w'; go_simp; with_reducible rfl); (· simp only [nrm]; rfl)
  refine pu_ (v := ?_) (a' := ?_) 13 (some 100) 16383 rfl rfl HT_ (by kernel_rfl) (.inl ⟨by rfl, ?_⟩) ?_ ?_; rotate_left 2; (· intro w'; go_simp; with_reducible rfl); (· simp only [nrm]; rfl)
  refine tk_ (v := ?_) (a' := ?_) 14 (some 101) 32767 rfl rfl HT_ HW_ (by kernel_rfl) (.inl ⟨by rfl, ?_⟩) hHeld ?_ ?_; rotate_left 2; (· rintro w' ⟨_, _, _⟩; go_simp; with_reducible rfl); (· simp only [nrm]; rfl)
  refine pu_ (v := ?_) (a' := ?_) 15 (some 102) 65535 rfl rfl HT_ (by kernel_rfl) (.inl ⟨by rfl, ?_⟩) ?_ ?_; rotate_left 2; (· intro w'; go_simp; with_reducible rfl); (· simp only [nrm]; rfl)
  refine pu_ (v := ?_) (a' := ?_) 16 (some 103) 131071 rfl rfl HT_ (by kernel_rfl) (.inl ⟨by rfl, ?_⟩) ?_ ?_; rotate_left 2; (· intro w'; go_simp; with_reducible rfl); (· simp only [nrm]; rfl)
  refine pu_ (v := ?_) (a' := ?_) 17 (some 104) 262143 rfl rfl HT_ (by kernel_rfl) (.inl ⟨by rfl, ?_⟩) ?_ ?_; rotate_left 2; (· intro w'; go_simp; with_reducible rfl); (· simp only [nrm]; rfl)
  refine pu_ (v := ?_) (a' := ?_) 18 (some 105) 524287 rfl rfl HT_ (by kernel_rfl) (.inl ⟨by rfl, ?_⟩) ?_ ?_; rotate_left 2; (· intro w'; go_simp; with_reducible rfl); (· simp only [nrm]; rfl)
  refine pu_ (v := ?_) (a' := ?_) 19 (some 106) 1048575 rfl rfl HT_ (by kernel_rfl) (.inl ⟨by rfl, ?_⟩) ?_ ?_; rotate_left 2; (· intro w'; go_simp; with_reducible rfl); (· simp only [nrm]; rfl)
  refine pu_ (v := ?_) (a' := ?_) 20 (some 107) 2097151 rfl rfl HT_ (by kernel_rfl) (.inl ⟨by rfl, ?_⟩) ?_ ?_; rotate_left 2; (· intro w'; go_simp; with_reducible rfl); (· simp only [nrm]; rfl)
  refine pu_ (v := ?_) (a' := ?_) 21 (some 108) 4194303 rfl rfl HT_ (by kernel_rfl) (.inl ⟨by rfl, ?_⟩) ?_ ?_; rotate_left 2; (· intro w'; go_simp; with_reducible rfl); (· simp only [nrm]; rfl)
  refine one_ (i := 22) (N := some 109) (flg 27 8388607) rfl rfl (one_of HT_.out (by kernel_rfl)) (by decide) (fun K hK => ?_)
  refine value_ (w1 := ?_) (v := ?_) (by rfl) rfl ?_ ?_
  rotate_left 2
  · go_simp
    constructor
    · rfl
    · rfl
  have HG := Aside.mk (H3.out.garbage (.cells #[.int .i64 who, .int .i64 kind, .int .i64 i, .int .u64 want, .int .u64 put, .int .u64 seen, .int .u64 left] 98))
  refine hK.out _ _ ⟨(HG.out.pick 2 rfl).cell 0, (HG.out.pick 2 rfl).cell 1, HG.out.cell 1⟩ (fun hHeld => ?_)
  clear hK K
  refine norm_ (a' := ?_) ?_ ?_
  rotate_left
  · show Act.put _ (some 109) _ = _
    simp only [Act.put, List.setIfInBounds_toArray, List.set_cons_zero, List.set_cons_succ, i64_w, i32_w]
    rfl
  refine one_ (i := 23) (N := some 110) (flg 27 16777215) rfl rfl (one_of HT_.out (by kernel_rfl)) (by decide) (fun K hK => ?_)
  refine append_run_step (by rfl) (.tmp 97) (.tmp 109) 93 98 (.agg #[.int .i64 0, .int .i64 0, .int .i64 0, .int .u64 0, .int .u64 0, .int .u64 0, .int .u64 0]) 7 56 rfl Tryd.underlying93 info98 rfl (by decide) (by decide) lv l.length (accs l) rfl ⟨_, 0, none⟩ 1 1 (Acc.vs ⟨who, kind, i, want, put, seen, left⟩) rfl rfl ?hys ?h1 (HG.out.pick 3 rfl) ?hl ?_
  case hys => exact new_cells w4 (Acc.vs ⟨who, kind, i, want, put, seen, left⟩) 98
  case h1 => simp [Acc.vs, Value.oneCell']
  case hl => omega
  intro A1 c1 w5 hc1 h5
  have h6 := h5.perm (List.Perm.swap _ _ _)
  have H5 := Aside.mk h6
  clear h5 h6
  refine hK.out _ _ ⟨(H5.out.pick 3 rfl).cell 0, (H5.out.pick 3 rfl).cell 1, H5.out.cell 1⟩ (fun hHeld => ?_)
  clear hK K
  refine norm_ (a' := ?_) ?_ ?_
  rotate_left
  · show Act.put _ (some 110) _ = _
    simp only [Act.put, List.setIfInBounds_toArray, List.set_cons_zero, List.set_cons_succ, i64_w, i32_w]
    rfl
  refine pu_ (v := ?_) (a' := ?_) 24 (some 111) 33554431 rfl rfl HT_ (by kernel_rfl) (.inl ⟨by rfl, ?_⟩) ?_ ?_; rotate_left 2; (· intro w'; go_simp; with_reducible rfl); (· simp only [nrm]; rfl)
  refine pu_ (v := ?_) (a' := ?_) 25 (some 112) 67108863 rfl rfl HT_ (by kernel_rfl) (.inl ⟨by rfl, ?_⟩) ?_ ?_; rotate_left 2; (· intro w'; go_simp; with_reducible rfl); (· simp only [nrm]; rfl)
  have k1 := H5.out.cell 1
  have kf := H5.out.frozen 1
  refine last_ (i := 26) (N := none) (flg 27 134217727) rfl rfl (one_of HT_.out (by kernel_rfl)) (by decide) (fun K hK => ?_)
  refine skip_ (w1 := ?_) (by rfl) rfl ?_ ?_
  rotate_left
  · go_simp
    rfl
  refine hK.out _ _ ?_
  refine done_ (done_of HT_.out (by kernel_rfl)) ?_
  try go_wp2
  go_ret
  exact ⟨rfl, _, ((H5.out.put 1 _ rfl).pick 3 rfl).perm (.cons _ (.cons _ (.swap _ _ _)))⟩
end Go.Proofs.YtelfiegocdjnoaaDoor.Ar
