/- The document's arena: an access; an access that a tape asks for; somebody else's entries. Conditions: each is a block of its own. -/
import Derived.Test.YtelfiegocdjnoaaTp0
import Derived.Test.YtelfiegocdjnoaaFd1
import Derived.Deep.CutBlock
import Derived.Test.YtelfiegocdjnoaaMrF0
import Derived.Test.YtelfiegocdjnoaaMrF1
namespace Go.Proofs.Ytelfiegocdjnoaa.Ar
open Go Go.RowKit Go.Proofs.Ytelfiegocdjnoaa.Sep Go.Proofs.Ytelfiegocdjnoaa.Pg Go.Proofs.YtelfiegocdjnoaaW.PrintWords Go.Proofs.YtelfiegocdjnoaaW.PrintLast Go.Proofs.YtelfiegocdjnoaaW.PrintMore Go.Proofs.Ytelfiegocdjnoaa.Q
set_option linter.unusedVariables false
set_option linter.unusedSimpArgs false
set_option maxHeartbeats 8000000
set_option maxRecDepth 100000
variable {w0 w : World} {F : List HP}
def tq.T9 : Bool × List (List Nat × List Nat) := (true, [([], []), ([], []), ([1], [1]), ([2], [2]), ([3], [3]), ([], []), ([5], [5]), ([6], [6]), ([7], [7]), ([], []), ([], []), ([], []), ([], []), ([], []), ([], []), ([8, 9, 10, 11, 12, 13, 14], [8, 9, 10, 11, 12, 13, 14]), ([15], [15]), ([4, 16], [4, 16]), ([0, 0, 1, 2, 3, 4, 5, 6, 7, 8, 9, 10, 11, 12, 13, 14, 15, 16, 17], [0]), ([18, 0, 1, 2, 3, 4, 5, 6, 7, 8, 9, 10, 11, 12, 13, 14, 15, 16, 17], [18]), ([19, 17, 17, 0, 1, 2, 3, 4, 5, 6, 7, 8, 9, 10, 11, 12, 13, 14, 15, 16, 17], [17, 19])])
def tq.B9 : List Nat := [0, 0, 2, 6, 14, 0, 32, 96, 224, 0, 0, 0, 0, 0, 0, 32736, 65504, 131070, 262143, 524287, 1048575]
theorem tq.tab9 : rtab .any (opsOf Try.f90 9) = tq.T9 := by kernel_rfl
theorem tq.bits9 : waitsOk tq.T9.2 tq.B9 = true := by kernel_rfl
theorem left_ {k : Int} (hk : k = 1 ∨ k = 2 ∨ k = 4) (seen wt pt : Int) : windrowref03_Left.f 2 k seen wt pt = some (leftOf k seen wt pt, true) := by
  rcases hk with rfl | rfl | rfl
  · rfl
  · rfl
  · unfold windrowref03_Left.f windrowref03_Left.j0 leftOf
    by_cases h : seen = wt
    · simp [h]
    · simp [h]
theorem do_ {p d gD j : Nat} {lv : Value} {l : List Acc} {f who k wt pt : Int} {X : List Int} (hj : j < X.length) (hn : X.length ≤ 4096) (hl : l.length ≤ 1000000) (hk : k = 1 ∨ k = 2 ∨ k = 4)
    (h : St w0 w (blk p #[.int .i64 who, .bool true] 146 :: daB d gD X.length lv f :: blk gD (U X).toArray 22 :: row 67 7 lv l.length (accs l) :: F)) :
    Calls Try.prog 90 #[.pointer (some ⟨d, 0, none⟩), .pointer (some ⟨p, 0, none⟩), .int .i64 k, .int .i64 j, .int .u64 wt, .int .u64 pt] w fun e w' => ∃ lv', e = .returned (.int .u64 (X.getD j 0)) ∧
      St w0 w' (blk p #[.int .i64 who, .bool false] 146 :: daB d gD X.length lv' f :: blk gD (U (X.set j (leftOf k (X.getD j 0) wt pt))).toArray 22 :: row 67 7 lv' (l.length + 1) (accs (l ++ [⟨who, k, j, wt, pt, X.getD j 0, leftOf k (X.getD j 0) wt pt⟩])) :: F) := by
  have hL := left_ hk (X.getD j 0) wt pt
  have z1 := ((h.pick 2 rfl).cell j).trans (U_getD hj)
  have hg := fun (w' : World) (L : List HP) (h : St w0 w' (blk gD (U X).toArray 22 :: L)) => (h.cell j).trans (U_getD hj)
  generalize X.getD j 0 = v at hL z1 hg ⊢
  generalize leftOf k v wt pt = left at hL ⊢
  have HL := Aside.mk hL
  have HG9 := Aside.mk (fun w' {L} => hg w' L)
  have HJ := Aside.mk hj
  obtain ⟨n, hn'⟩ : ∃ n, n = X.length := ⟨_, rfl⟩
  rw [← hn'] at hj hn h ⊢
  have d1 : decide ((j : Int) < (n : Int)) = true := by simp; omega
  have d0 : decide ((0 : Int) ≤ (j : Int)) = true := by simp
  have y1 : w.cell? ⟨p, 1, none⟩ = some (.bool true) := h.cell 1
  have x0 : w.cell? ⟨d, 0, none⟩ = some (.slice (some ⟨gD, 0, none⟩) n n) := (h.pick 1 rfl).cell 0
  have HN := Aside.mk hn'
  have H := Aside.mk h
  clear h hL hg hk hn' z1
  go_enter Try.func90, Try.ntmps90
  go_wp2_with (with_reducible refine stop_at (.store 4 (.tmp 36) (.const (.bool false))) rfl ?_)
  refine ⟨?_⟩
  refine st_store rfl rfl rfl [.bool false] #[.int .i64 who, .bool false] rfl rfl rfl (Nat.le_of_ble_eq_true rfl) (by simp [Value.oneCell']) H.out rfl ?_
  intro w1 h1
  replace H := Aside.mk h1
  clear h1 y1 x0
  have x0 : w1.cell? ⟨d, 0, none⟩ = some (.slice (some ⟨gD, 0, none⟩) n n) := (H.out.pick 1 rfl).cell 0
  have z1 := HG9.out _ (H.out.pick 2 rfl)
  go_wp2_with (first
    | (go_at_call 97; refine (windrowref03_Left.calls _ _ _ _ _ _ _ _ HL.out).mono ?_; rintro e w2 ⟨rfl, ⟨nd, rfl⟩⟩; replace H := Aside.mk (H.out.drewN nd); clear x0 z1; have x0 := (H.out.pick 1 rfl).cell 0; have z1 := HG9.out _ (H.out.pick 2 rfl))
    | (with_reducible refine stop_at (.store 22 (.tmp 67) (.tmp 66)) rfl ?_))
  refine ⟨?_⟩
  refine st_store rfl rfl rfl [.int .u64 left] (putAt (U X).toArray j [.int .u64 left]) rfl rfl rfl ((U_size X j _).2 HJ.out) (by simp [Value.oneCell']) (H.out.pick 2 rfl) rfl ?_
  intro w3 h3
  replace H : Aside (St w0 w3 (blk p #[.int .i64 who, .bool false] 146 :: daB d gD n lv f :: blk gD (U (X.set j left)).toArray 22 :: row 67 7 lv l.length (accs l) :: F)) := Aside.mk ((put_U HJ.out h3).order 3 [1, 2, 0] rfl rfl)
  clear h3 x0 z1
  go_wp2_with fail
  replace H := Aside.mk H.out.drew
  refine start_ (n := 21) (S := fun w' => w'.cell? ⟨p, 0, none⟩ = some (.int .i64 who) ∧ w'.cell? ⟨d, 1, none⟩ = some lv) (ds := [20]) (flg 21 0) (by kernel_rfl) rfl rfl (⟨H.out.cell 0, (H.out.pick 1 rfl).cell 1⟩) (fun hHeld => ?_)
  refine with_tabW tq.tab9 tq.bits9 (fun HT_ HW_ => ?_)
  generalize World.drew _ = w4 at H hHeld ⊢
  refine pu_ (v := ?_) (a' := ?_) 0 (some 68) 1 rfl rfl HT_ (by kernel_rfl) (.inl ⟨by rfl, ?_⟩) ?_ ?_; rotate_left 2; (· intro w'; go_simp; with_reducible rfl); (· simp only [nrm]; rfl)
  refine pu_ (v := ?_) (a' := ?_) 1 (some 69) 3 rfl rfl HT_ (by kernel_rfl) (.inl ⟨by rfl, ?_⟩) ?_ ?_; rotate_left 2; (· intro w'; go_simp; with_reducible rfl); (· simp only [nrm]; rfl)
  refine pu_ (v := ?_) (a' := ?_) 2 (some 70) 7 rfl rfl HT_ (by kernel_rfl) (.inl ⟨by rfl, ?_⟩) ?_ ?_; rotate_left 2; (· intro w'; go_simp; with_reducible rfl); (· simp only [nrm]; rfl)
  refine pu_ (v := ?_) (a' := ?_) 3 (some 71) 15 rfl rfl HT_ (by kernel_rfl) (.inl ⟨by rfl, ?_⟩) ?_ ?_; rotate_left 2; (· intro w'; go_simp; with_reducible rfl); (· simp only [nrm]; rfl)
  refine tk_ (v := ?_) (a' := ?_) 4 (some 72) 31 rfl rfl HT_ HW_ (by kernel_rfl) (.inl ⟨by rfl, ?_⟩) hHeld ?_ ?_; rotate_left 2; (· rintro w' ⟨_, _⟩; go_simp; with_reducible rfl); (· simp only [nrm]; rfl)
  refine pu_ (v := ?_) (a' := ?_) 5 (some 73) 63 rfl rfl HT_ (by kernel_rfl) (.inl ⟨by rfl, ?_⟩) ?_ ?_; rotate_left 2; (· intro w'; go_simp; with_reducible rfl); (· simp only [nrm]; rfl)
  refine pu_ (v := ?_) (a' := ?_) 6 (some 74) 127 rfl rfl HT_ (by kernel_rfl) (.inl ⟨by rfl, ?_⟩) ?_ ?_; rotate_left 2; (· intro w'; go_simp; with_reducible rfl); (· simp only [nrm]; rfl)
  refine pu_ (v := ?_) (a' := ?_) 7 (some 75) 255 rfl rfl HT_ (by kernel_rfl) (.inl ⟨by rfl, ?_⟩) ?_ ?_; rotate_left 2; (· intro w'; go_simp; with_reducible rfl); (· simp only [nrm]; rfl)
  refine tk_ (v := ?_) (a' := ?_) 8 (some 76) 511 rfl rfl HT_ HW_ (by kernel_rfl) (.inl ⟨by rfl, ?_⟩) hHeld ?_ ?_; rotate_left 2; (· rintro w' ⟨_, _⟩; go_simp; with_reducible rfl); (· simp only [nrm]; rfl)
  refine pu_ (v := ?_) (a' := ?_) 9 (some 77) 1023 rfl rfl HT_ (by kernel_rfl) (.inl ⟨by rfl, ?_⟩) ?_ ?_; rotate_left 2; (· intro w'; go_simp; with_reducible rfl); (· simp only [nrm]; rfl)
  refine pu_ (v := ?_) (a' := ?_) 10 (some 78) 2047 rfl rfl HT_ (by kernel_rfl) (.inl ⟨by rfl, ?_⟩) ?_ ?_; rotate_left 2; (· intro w'; go_simp; with_reducible rfl); (· simp only [nrm]; rfl)
  refine pu_ (v := ?_) (a' := ?_) 11 (some 79) 4095 rfl rfl HT_ (by kernel_rfl) (.inl ⟨by rfl, ?_⟩) ?_ ?_; rotate_left 2; (· intro w'; go_simp; with_reducible rfl); (· simp only [nrm]; rfl)
  refine pu_ (v := ?_) (a' := ?_) 12 (some 80) 8191 rfl rfl HT_ (by kernel_rfl) (.inl ⟨by rfl, ?_⟩) ?_ ?_; rotate_left 2; (· intro w'; go_simp; with_reducible rfl); (· simp only [nrm]; rfl)
  refine pu_ (v := ?_) (a' := ?_) 13 (some 81) 16383 rfl rfl HT_ (by kernel_rfl) (.inl ⟨by rfl, ?_⟩) ?_ ?_; rotate_left 2; (· intro w'; go_simp; with_reducible rfl); (· simp only [nrm]; rfl)
  refine pu_ (v := ?_) (a' := ?_) 14 (some 82) 32767 rfl rfl HT_ (by kernel_rfl) (.inl ⟨by rfl, ?_⟩) ?_ ?_; rotate_left 2; (· intro w'; go_simp; with_reducible rfl); (· simp only [nrm]; rfl)
  refine pu_ (v := ?_) (a' := ?_) 15 (some 83) 65535 rfl rfl HT_ (by kernel_rfl) (.inl ⟨by rfl, ?_⟩) ?_ ?_; rotate_left 2; (· intro w'; go_simp; with_reducible rfl); (· simp only [nrm]; rfl)
  refine on_ 16 (some 84) 131071 rfl rfl HT_ (by kernel_rfl) (by decide) (fun K hK => ?_)
  refine value_ (w1 := ?_) (v := ?_) (by rfl) rfl ?_ ?_
  rotate_left 2
  · go_simp
    constructor
    · rfl
    · rfl
  have HG := Aside.mk (H.out.garbage (.cells #[.int .i64 who, .int .i64 k, .int .i64 j, .int .u64 wt, .int .u64 pt, .int .u64 v, .int .u64 left] 67))
  refine hK.out _ _ ⟨HG.out.cell 0, (HG.out.pick 1 rfl).cell 1⟩ (fun hHeld => ?_)
  clear hK K
  refine norm_ (a' := ?_) ?_ ?_
  rotate_left
  · show Act.put _ (some 84) _ = _
    simp only [nrm]
    rfl
  refine on_ 17 (some 85) 262143 rfl rfl HT_ (by kernel_rfl) (by decide) (fun K hK => ?_)
  refine append_run_step (by rfl) (.tmp 72) (.tmp 84) 90 67 (.agg #[.int .i64 0, .int .i64 0, .int .i64 0, .int .u64 0, .int .u64 0, .int .u64 0, .int .u64 0]) 7 56 rfl Try.underlying90 info67 rfl (by decide) (by decide) lv l.length (accs l) rfl ⟨_, 0, none⟩ 1 1 (Acc.vs ⟨who, k, j, wt, pt, v, left⟩) rfl rfl ?hys ?h1 (HG.out.pick 3 rfl) ?hl ?_
  case hys => exact new_cells w4 (Acc.vs ⟨who, k, j, wt, pt, v, left⟩) 67
  case h1 => simp [Acc.vs, Value.oneCell']
  case hl => omega
  intro A1 c1 w5 hc1 h5
  have H5 := Aside.mk h5
  clear h5
  refine hK.out _ _ ⟨(H5.out.pick 1 rfl).cell 0, (H5.out.pick 2 rfl).cell 1⟩ (fun hHeld => ?_)
  clear hK K
  refine norm_ (a' := ?_) ?_ ?_
  rotate_left
  · show Act.put _ (some 85) _ = _
    simp only [nrm]
    rfl
  refine pu_ (v := ?_) (a' := ?_) 18 (some 86) 524287 rfl rfl HT_ (by kernel_rfl) (.inl ⟨by rfl, ?_⟩) ?_ ?_; rotate_left 2; (· intro w'; go_simp; with_reducible rfl); (· simp only [nrm]; rfl)
  refine pu_ (v := ?_) (a' := ?_) 19 (some 87) 1048575 rfl rfl HT_ (by kernel_rfl) (.inl ⟨by rfl, ?_⟩) ?_ ?_; rotate_left 2; (· intro w'; go_simp; with_reducible rfl); (· simp only [nrm]; rfl)
  refine last_ (i := 20) (N := none) (flg 21 2097151) rfl rfl (one_of HT_.out (by kernel_rfl)) (by decide) (fun K hK => ?_)
  refine skip_ (by rfl) rfl (st_run_store (seg := [.slice A1 (l.length + 1) c1]) rfl rfl rfl rfl (Nat.le_of_ble_eq_true rfl) (by simp [Value.oneCell']) (H5.out.pick 2 rfl)) ?_
  have h8 := (H5.out.pick 2 rfl).setCells 1 [.slice A1 (l.length + 1) c1] (Nat.le_of_ble_eq_true rfl)
  generalize World.setCells _ _ _ _ = w6 at h8 ⊢
  replace H : Aside (St w0 w6 (blk p #[.int .i64 who, .bool false] 146 :: daB d gD n (.slice A1 (l.length + 1) c1) f :: blk gD (U (X.set j left)).toArray 22 :: row 67 7 (.slice A1 (l.length + 1) c1) (l.length + 1) (accs (l ++ [⟨who, k, j, wt, pt, v, left⟩])) :: F)) := Aside.mk (by rw [show accs (l ++ [⟨who, k, j, wt, pt, v, left⟩]) = accs l ++ Acc.vs ⟨who, k, j, wt, pt, v, left⟩ from by simp [accs]]; exact h8.order 4 [2, 0, 3, 1] rfl rfl)
  clear h8 H5 HG
  refine hK.out _ _ ?_
  refine done_ (done_of HT_.out (by kernel_rfl)) ?_
  clear HT_ HW_ hHeld
  go_wp2
  go_ret
  exact ⟨_, rfl, H.out⟩
/-- What a tape asks for is made. -/
def Tp.made (x : Tp) (v : Int) : Tp := { x with hist := x.hist ++ [v] }
theorem make_ {t d gD na : Nat} {lh lv : Value} {x : Tp} {l : List Acc} {f who : Int} {X : List Int} (hj : na < X.length) (hn : X.length ≤ 4096) (hl : l.length ≤ 1000000) (hx : x.hist.length ≤ 1000) (hk : x.nk = 1 ∨ x.nk = 2 ∨ x.nk = 4) (hna : x.na = na)
    (h : St w0 w (tpB t lh x :: tpR lh x :: daB d gD X.length lv f :: blk gD (U X).toArray 22 :: row 67 7 lv l.length (accs l) :: F)) :
    Calls Try.prog 71 #[.pointer (some ⟨d, 0, none⟩), .pointer (some ⟨t, 0, none⟩), .int .i64 who] w fun e w' => ∃ lv' lh', e = .returned (.tuple #[]) ∧
      St w0 w' (tpB t lh' (x.made (X.getD na 0)) :: tpR lh' (x.made (X.getD na 0)) :: daB d gD X.length lv' f :: blk gD (U (X.set na (leftOf x.nk (X.getD na 0) x.nw x.np))).toArray 22 :: row 67 7 lv' (l.length + 1) (accs (l ++ [⟨who, x.nk, na, x.nw, x.np, X.getD na 0, leftOf x.nk (X.getD na 0) x.nw x.np⟩])) :: F) := by
  obtain ⟨hist, pos, nk, na', nw, np, stop⟩ := x
  have hdo := fun (w' : World) (p : Nat) (L : List HP) (h : St w0 w' (blk p #[.int .i64 who, .bool true] 146 :: daB d gD X.length lv f :: blk gD (U X).toArray 22 :: row 67 7 lv l.length (accs l) :: L)) => do_ (wt := nw) (pt := np) hj hn hl hk h
  have HDO := Aside.mk hdo
  obtain rfl : na' = (na : Int) := hna
  simp only [Tp.made] at HDO ⊢
  generalize X.getD na 0 = v at HDO ⊢
  generalize X.set na (leftOf nk v nw np) = Y at HDO ⊢
  generalize l ++ [(⟨who, nk, na, nw, np, v, leftOf nk v nw np⟩ : Acc)] = l2 at HDO ⊢
  obtain ⟨hist2, hh⟩ : ∃ z, z = hist ++ [v] := ⟨_, rfl⟩
  rw [← hh]
  have HH := Aside.mk hh
  clear hh
  have H := Aside.mk (h.alloc #[.int .i64 who, .bool true] 146)
  have HX := Aside.mk hx
  have y2 := (H.out.pick 1 rfl).cell 2; have y3 := (H.out.pick 1 rfl).cell 3; have y4 := (H.out.pick 1 rfl).cell 4; have y5 := (H.out.pick 1 rfl).cell 5; have y6 := (H.out.pick 1 rfl).cell 6; have y7 := (H.out.pick 1 rfl).cell 7; have y8 := (H.out.pick 1 rfl).cell 8
  clear h hdo hk hx
  go_enter Try.func71, Try.ntmps71
  go_wp2_with (with_reducible refine stop_at (.store 67 (.tmp 7) (.tmp 15)) rfl ?_)
  refine ⟨?_⟩
  have h0 := H.out.alloc #[.int .i64 0, .int .i64 0, .int .i64 0, .int .u64 0, .int .u64 0, .int .u64 0, .int .u64 0] 67
  simp only [World.size_alloc] at h0
  refine st_store rfl rfl rfl [.int .i64 0, .int .i64 nk, .int .i64 na, .int .u64 nw, .int .u64 np, .int .u64 0, .int .u64 0] #[.int .i64 0, .int .i64 nk, .int .i64 na, .int .u64 nw, .int .u64 np, .int .u64 0, .int .u64 0] rfl rfl rfl (Nat.le_of_ble_eq_true rfl) (by simp [Value.oneCell']) h0 rfl ?_
  intro w1 h1
  replace H := Aside.mk h1
  clear h0 h1 y2 y3 y4 y5 y6 y7 y8
  have y1 := H.out.cell 1
  have y2 := H.out.cell 2
  have y3 := H.out.cell 3
  have y4 := H.out.cell 4
  go_wp2_with (first
    | (go_at_call 90; refine (HDO.out _ _ _ (H.out.order 7 [1, 4, 5, 6, 0, 2, 3] rfl rfl)).mono ?_; rintro e w2 ⟨lv1, rfl, h2⟩; replace H : Aside (St w0 w2 (tpB t lh ⟨hist, pos, nk, na, nw, np, stop⟩ :: tpR lh ⟨hist, pos, nk, na, nw, np, stop⟩ :: daB d gD X.length lv1 f :: blk gD (U Y).toArray 22 :: row 67 7 lv1 (l.length + 1) (accs l2) :: F)) := Aside.mk (h2.order 7 [0, 4, 5, 6, 1, 2, 3] rfl rfl).rest.rest; clear h2 y1 y2 y3 y4; have y0 : w2.cell? ⟨t, 0, none⟩ = some lh := H.out.cell 0)
    | (at_builtin; refine append1 rfl (.tmp 31) (.tmp 33) 65 22 (.int .u64 0) 8 rfl Try.underlying65 info22 rfl (by decide) _ _ _ _ rfl rfl rfl (H.out.pick 1 rfl) ?hl ?_; rotate_left; intro A1 c1 w5 hc1 h5; replace H := Aside.mk (((h5.pick 1 rfl).put 0 (.slice A1 (hist.length + 1) c1) rfl)); have y0 := (h5.pick 1 rfl).cell 0; have f0 := (h5.pick 1 rfl).frozen 0; clear h5))
  case hl => have := HX.out; omega
  go_end0
  refine ⟨rfl, lv1, .slice A1 hist2.length c1, ?_⟩
  have e1 : U hist2 = U hist ++ [.int .u64 v] := by rw [HH.out]; simp [U]
  have e2 : hist2.length = hist.length + 1 := by rw [HH.out]; simp
  rw [← e2]
  have h9 := H.out
  rw [← e1, ← e2] at h9
  exact h9
theorem made_ {x P T a d p t gD na : Nat} {g : Bool} {lh lv : Value} {y : Tp} {l : List Acc} {f who : Int} {X : List Int} (hj : na < X.length) (hn : X.length ≤ 4096) (hl : l.length ≤ 1000000) (hx : y.hist.length ≤ 1000) (hk : y.nk = 1 ∨ y.nk = 2 ∨ y.nk = 4) (hna : y.na = na)
    (h : St w0 w (fdB x P T a d p :: poB p a who g :: tpB t lh y :: tpR lh y :: daB d gD X.length lv f :: blk gD (U X).toArray 22 :: row 67 7 lv l.length (accs l) :: F)) :
    Calls Try.prog 28 #[.pointer (some ⟨x, 0, none⟩), .pointer (some ⟨t, 0, none⟩)] w fun e w' => e = .returned (.tuple #[]) ∧ ∃ lv' lh', 
      St w0 w' (fdB x P T a d p :: poB p a who true :: tpB t lh' (y.made (X.getD na 0)).again :: tpR lh' (y.made (X.getD na 0)).again :: daB d gD X.length lv' f :: blk gD (U (X.set na (leftOf y.nk (X.getD na 0) y.nw y.np))).toArray 22 :: row 67 7 lv' (l.length + 1) (accs (l ++ [⟨15, y.nk, na, y.nw, y.np, X.getD na 0, leftOf y.nk (X.getD na 0) y.nw y.np⟩])) :: F) := by
  have hmk := fun (w' : World) (L : List HP) (h : St w0 w' (tpB t lh y :: tpR lh y :: daB d gD X.length lv f :: blk gD (U X).toArray 22 :: row 67 7 lv l.length (accs l) :: L)) => make_ (who := 15) hj hn hl hx hk hna h
  have HMK := Aside.mk hmk
  generalize X.getD na 0 = v at HMK ⊢
  generalize X.set na (leftOf y.nk v y.nw y.np) = Y at HMK ⊢
  generalize l ++ [(⟨15, y.nk, na, y.nw, y.np, v, leftOf y.nk v y.nw y.np⟩ : Acc)] = l2 at HMK ⊢
  have x11 : w.cell? ⟨x, 11, none⟩ = some (.pointer (some ⟨p, 0, none⟩)) := h.cell 11
  have H := Aside.mk h
  clear h hmk hj hn hl hx hk hna
  generalize y.made v = y2 at HMK ⊢
  go_enter Try.func28, Try.ntmps28
  go_wp2_with (first
    | (go_at_call 12; refine (grant_ (H.out.pick 1 rfl)).mono ?_; rintro e w1 ⟨rfl, h1⟩; replace H : Aside (St w0 w1 (fdB x P T a d p :: poB p a who true :: tpB t lh y :: tpR lh y :: daB d gD X.length lv f :: blk gD (U X).toArray 22 :: row 67 7 lv l.length (accs l) :: F)) := Aside.mk (h1.order 2 [1, 0] rfl rfl); clear h1 x11; have x10 : w1.cell? ⟨x, 10, none⟩ = some (.pointer (some ⟨d, 0, none⟩)) := H.out.cell 10)
    | (go_at_call 71; refine (HMK.out _ _ (H.out.order 7 [2, 3, 4, 5, 6, 0, 1] rfl rfl)).mono ?_; rintro e w2 ⟨lv1, lh1, rfl, h2⟩; replace H : Aside (St w0 w2 (fdB x P T a d p :: poB p a who true :: tpB t lh1 y2 :: tpR lh1 y2 :: daB d gD X.length lv1 f :: blk gD (U Y).toArray 22 :: row 67 7 lv1 (l.length + 1) (accs l2) :: F)) := Aside.mk (h2.order 7 [5, 6, 0, 1, 2, 3, 4] rfl rfl); clear h2 x10)
    | (go_at_call 26; refine (tagain_ (H.out.order 4 [2, 3, 0, 1] rfl rfl)).mono ?_; rintro e w3 ⟨rfl, h3⟩; replace H : Aside (St w0 w3 (fdB x P T a d p :: poB p a who true :: tpB t lh1 y2.again :: tpR lh1 y2.again :: daB d gD X.length lv1 f :: blk gD (U Y).toArray 22 :: row 67 7 lv1 (l.length + 1) (accs l2) :: F)) := Aside.mk (h3.order 4 [2, 3, 0, 1] rfl rfl); clear h3))
  go_end0
  exact ⟨rfl, lv1, lh1, H.out⟩
/-- Which page somebody else changes; its word. -/
def btI (P : Nat) (n : Int) : Nat := (IntKind.u64.wrap n % ((P : Int) + 1)).toNat
theorem btI_lt (P : Nat) (n : Int) : btI P n < P + 1 := by
  unfold btI
  have h1 : 0 ≤ IntKind.u64.wrap n % ((P : Int) + 1) := Int.emod_nonneg _ (by omega)
  have h2 : IntKind.u64.wrap n % ((P : Int) + 1) < (P : Int) + 1 := Int.emod_lt_of_pos _ (by omega)
  omega
def tq.T3 : Bool × List (List Nat × List Nat) := (true, [([], []), ([0], [0]), ([1], [1]), ([2], [2]), ([3], [3]), ([4], [4]), ([5], [5]), ([], []), ([7], [7]), ([8], [8]), ([9], [9]), ([], []), ([10, 11], [10, 11]), ([], []), ([6, 12, 0, 1, 2, 3, 4, 5, 6, 7, 8, 9, 10, 11, 12, 13], [6, 12]), ([14, 13, 12, 0, 1, 2, 3, 4, 5, 6, 7, 8, 9, 10, 11, 12, 13], [13, 14])])
def tq.B3 : List Nat := [0, 1, 3, 7, 15, 31, 63, 0, 128, 384, 896, 0, 3968, 0, 16383, 32767]
theorem tq.tab3 : rtab .any (opsOf Try.f63 3) = tq.T3 := by kernel_rfl
theorem tq.bits3 : waitsOk tq.T3.2 tq.B3 = true := by kernel_rfl
def tq.T4 : Bool × List (List Nat × List Nat) := (true, [([], []), ([0], [0]), ([1], [1]), ([2], [2]), ([], []), ([4], [4]), ([5], [5]), ([6], [6]), ([], []), ([7, 8], [7, 8]), ([], []), ([3, 9, 10, 9], [3, 9, 10])])
def tq.B4 : List Nat := [0, 1, 3, 7, 0, 16, 48, 112, 0, 496, 0, 2047]
theorem tq.tab4 : rtab .any (opsOf Try.f63 4) = tq.T4 := by kernel_rfl
theorem tq.bits4 : waitsOk tq.T4.2 tq.B4 = true := by kernel_rfl
theorem between_ {x P T a d p gD gC : Nat} (hP : P < 5) (hT : T < 3) {lv lv2 : Value} {f cn fl : Int} {X : List Int} (hX : X.length = 128 + 64 * P) (k c s o y v6 v7 v8 at_ : Int)
    (h : St w0 w (fdB x P T a d p :: daB d gD X.length lv f :: blk gD (U X).toArray 22 :: arB a gC X.length lv2 true cn fl :: ceB gC X :: F)) :
    Calls Try.prog 63 #[.pointer (some ⟨x, 0, none⟩), .agg #[.int .i64 k, .int .i64 c, .int .i64 s, .int .i64 o, .int .i64 y, .int .u64 v6, .int .u64 v7, .int .u64 v8], .int .i64 at_] w fun e w' => e = .returned (.tuple #[]) ∧
      St w0 w' (fdB x P T a d p :: daB d gD X.length lv f :: blk gD (U (X.set (adr P T 0 (btI P at_)) (if isE k c s o y = true then wordOf k c s o y else 0))).toArray 22 :: arB a gC X.length lv2 true cn fl :: ceB gC (X.set (adr P T 0 (btI P at_)) (if isE k c s o y = true then wordOf k c s o y else 0)) :: F) := by
  have hb := btI_lt P at_
  have hj : adr P T 0 (btI P at_) < X.length := by rw [hX]; exact adr_lt hP hT hb (by decide)
  have HPE := Aside.mk (pent_ P T (btI P at_) hP hT hb)
  obtain ⟨ee, hee⟩ : ∃ ee : Int, windrowref02_EncodeEntry.f 3 k c s o y = some (if isE k c s o y = true then wordOf k c s o y else 0, ee) := by
    rw [encR 0]
    by_cases hi : isE k c s o y = true
    · exact ⟨0, by rw [if_pos hi, if_pos hi]⟩
    · exact ⟨4, by rw [if_neg hi, if_neg hi]⟩
  have HENC := Aside.mk hee
  have hpo := fun (w' : World) (L : List HP) (v : Int) (h : St w0 w' (arB a gC X.length lv2 true cn fl :: ceB gC X :: L)) => poke_yes _ v hj h
  simp only [List.length_set] at hpo
  generalize (if isE k c s o y = true then wordOf k c s o y else 0) = v at HENC ⊢
  replace hpo := fun (w' : World) (L : List HP) (h : St w0 w' (arB a gC X.length lv2 true cn fl :: ceB gC X :: L)) => hpo w' L v h
  have HPO := Aside.mk hpo
  have HJ := Aside.mk hj
  have hbt : ∀ z : Int, z = wrap64 (Int.tmod (IntKind.u64.wrap at_) ((P : Int) + 1)) → z = (btI P at_ : Int) := by
    intro z hz
    rw [hz]
    have h1 : 0 ≤ IntKind.u64.wrap at_ := by rw [IntKind.wrap_u64]; omega
    rw [Int.tmod_eq_emod_of_nonneg h1]
    have h2 : 0 ≤ IntKind.u64.wrap at_ % ((P : Int) + 1) := Int.emod_nonneg _ (by omega)
    have h3 : IntKind.u64.wrap at_ % ((P : Int) + 1) < (P : Int) + 1 := Int.emod_lt_of_pos _ (by omega)
    rw [w_of _ h2 (by omega)]
    unfold btI
    omega
  have HBT := Aside.mk hbt
  have hu : IntKind.u64.wrap ((P : Int) + 1) = (P : Int) + 1 := wu _ (by omega) (by omega)
  have hz0 : ((P : Int) + 1 == 0) = false := by simp; omega
  have HX := Aside.mk hX
  obtain ⟨n, hn⟩ : ∃ n, n = X.length := ⟨_, rfl⟩
  rw [← hn] at h ⊢ HPO
  generalize adr P T 0 (btI P at_) = j at HPE HJ HPO ⊢
  have HN := Aside.mk hn
  have H := Aside.mk (h.alloc #[.int .i64 k, .int .i64 c, .int .i64 s, .int .i64 o, .int .i64 y, .int .u64 v6, .int .u64 v7, .int .u64 v8] 34)
  have z0 := H.out.cell 0
  have z1 := H.out.cell 1
  have z2 := H.out.cell 2
  have z3 := H.out.cell 3
  have z4 := H.out.cell 4
  clear h hj hpo hX hbt hee hb hP hT hn
  go_enter Try.func63, Try.ntmps63
  go_wp2_with (go_at_call 36; refine (windrowref02_EncodeEntry.calls _ _ _ _ _ _ _ _ _ HENC.out).mono ?_; rintro e w1 ⟨rfl, hb⟩; replace H := Aside.mk (H.out.step hb).rest; clear hb z0 z1 z2 z3 z4; have z0 := H.out.cell 0)
  rw [HBT.out _ rfl]
  clear hu hz0 z0
  have hjn : j < n := by rw [HN.out]; exact HJ.out
  replace H := Aside.mk H.out.drew
  refine start_ (n := 16) (S := fun w' => w'.cell? ⟨x, 3, none⟩ = some (.int .i64 ((P : Int) + 1)) ∧ w'.cell? ⟨x, 4, none⟩ = some (.int .i64 ((T : Int) + 1)) ∧ w'.cell? ⟨x, 5, none⟩ = some (.int .i64 1) ∧ w'.cell? ⟨x, 6, none⟩ = some (.int .i64 64) ∧ w'.cell? ⟨x, 7, none⟩ = some (.int .i64 (22 + 6 * (T : Int))) ∧ w'.cell? ⟨x, 8, none⟩ = some (.int .i64 (128 + 64 * (P : Int))) ∧ w'.cell? ⟨x, 10, none⟩ = some (.pointer (some ⟨d, 0, none⟩)) ∧ w'.cell? ⟨d, 0, none⟩ = some (.slice (some ⟨gD, 0, none⟩) n n)) (ds := []) (flg 16 0) (by kernel_rfl) rfl rfl (⟨H.out.cell 3, H.out.cell 4, H.out.cell 5, H.out.cell 6, H.out.cell 7, H.out.cell 8, H.out.cell 10, (H.out.pick 1 rfl).cell 0⟩) (fun hHeld => ?_)
  refine with_tabW tq.tab3 tq.bits3 (fun HT_ HW_ => ?_)
  refine pu_ (v := ?_) (a' := ?_) 0 (some 25) 1 rfl rfl HT_ (by kernel_rfl) (.inl ⟨by rfl, ?_⟩) ?_ ?_; rotate_left 2; (· intro w'; go_simp; with_reducible rfl); (· simp only [nrm]; rfl)
  refine pu_ (v := ?_) (a' := ?_) 1 (some 26) 3 rfl rfl HT_ (by kernel_rfl) (.inl ⟨by rfl, ?_⟩) ?_ ?_; rotate_left 2; (· intro w'; go_simp; with_reducible rfl); (· simp only [nrm]; rfl)
  refine pu_ (v := ?_) (a' := ?_) 2 (some 27) 7 rfl rfl HT_ (by kernel_rfl) (.inl ⟨by rfl, ?_⟩) ?_ ?_; rotate_left 2; (· intro w'; go_simp; with_reducible rfl); (· simp only [nrm]; rfl)
  refine tk_ (v := ?_) (a' := ?_) 3 (some 28) 15 rfl rfl HT_ HW_ (by kernel_rfl) (.inl ⟨by rfl, ?_⟩) hHeld ?_ ?_; rotate_left 2; (· rintro w' ⟨_, _, _, _, _, _, _, _⟩; go_simp; with_reducible rfl); (· simp only [nrm]; rfl)
  refine pu_ (v := ?_) (a' := ?_) 4 (some 29) 31 rfl rfl HT_ (by kernel_rfl) (.inl ⟨by rfl, ?_⟩) ?_ ?_; rotate_left 2; (· intro w'; go_simp; with_reducible rfl); (· simp only [nrm]; rfl)
  refine pu_ (v := ?_) (a' := ?_) 5 (some 30) 63 rfl rfl HT_ (by kernel_rfl) (.inl ⟨by rfl, ?_⟩) ?_ ?_; rotate_left 2; (· intro w'; go_simp; with_reducible rfl); (· simp only [nrm]; rfl)
  refine tk_ (v := ?_) (a' := ?_) 6 (some 31) 127 rfl rfl HT_ HW_ (by kernel_rfl) (.inl ⟨by rfl, ?_⟩) hHeld ?_ ?_; rotate_left 2; (· rintro w' ⟨_, _, _, _, _, _, _, _⟩; go_simp; with_reducible rfl); (· simp only [nrm]; rfl)
  refine pu_ (v := ?_) (a' := ?_) 7 (some 32) 255 rfl rfl HT_ (by kernel_rfl) (.inl ⟨by rfl, ?_⟩) ?_ ?_; rotate_left 2; (· intro w'; go_simp; with_reducible rfl); (· simp only [nrm]; rfl)
  refine pu_ (v := ?_) (a' := ?_) 8 (some 33) 511 rfl rfl HT_ (by kernel_rfl) (.inl ⟨by rfl, ?_⟩) ?_ ?_; rotate_left 2; (· intro w'; go_simp; with_reducible rfl); (· simp only [nrm]; rfl)
  refine pu_ (v := ?_) (a' := ?_) 9 (some 34) 1023 rfl rfl HT_ (by kernel_rfl) (.inl ⟨by rfl, ?_⟩) ?_ ?_; rotate_left 2; (· intro w'; go_simp; with_reducible rfl); (· simp only [nrm]; rfl)
  refine tk_ (v := ?_) (a' := ?_) 10 (some 35) 2047 rfl rfl HT_ HW_ (by kernel_rfl) (.inl ⟨by rfl, ?_⟩) hHeld ?_ ?_; rotate_left 2; (· rintro w' ⟨_, _, _, _, _, _, _, _⟩; go_simp; with_reducible rfl); (· simp only [nrm]; rfl)
  refine pu_ (v := ?_) (a' := ?_) 11 (some 36) 4095 rfl rfl HT_ (by kernel_rfl) (.inl ⟨by rfl, ?_⟩) ?_ ?_; rotate_left 2; (· intro w'; go_simp; with_reducible rfl); (· simp only [nrm]; rfl)
  refine pu_ (v := ?_) (a' := ?_) 13 (some 38) 12287 rfl rfl HT_ (by kernel_rfl) (.inl ⟨by rfl, ?_⟩) ?_ ?_; rotate_left 2; (· intro w'; go_simp; with_reducible rfl); (· simp only [nrm]; rfl)
  refine on_ 12 (some 37) 16383 rfl rfl HT_ (by kernel_rfl) (by decide) (fun K hK => ?_)
  refine goes_ Try.func17 (by kernel_rfl) rfl #[.agg #[.int .i64 ((P : Int) + 1), .int .i64 ((T : Int) + 1), .int .i64 1, .int .i64 64, .int .i64 (22 + 6 * (T : Int)), .int .i64 (128 + 64 * (P : Int))], .int .i64 (btI P at_)] (by rfl) rfl rfl (by (try simp only [List.map_toArray, List.map_cons, List.map_nil]); first | done | rfl) ?_
  refine (windrowref06_Map_PageEntry.calls _ _ _ _ _ _ _ _ _ HPE.out).mono ?_
  rintro e w2 ⟨rfl, hb⟩
  replace H := Aside.mk (H.out.step hb)
  clear hb
  refine ⟨_, rfl, ?_⟩
  refine hK.out _ _ ⟨H.out.cell 3, H.out.cell 4, H.out.cell 5, H.out.cell 6, H.out.cell 7, H.out.cell 8, H.out.cell 10, (H.out.pick 1 rfl).cell 0⟩ (fun hHeld => ?_)
  clear hK K
  refine norm_ (a' := ?_) ?_ ?_
  rotate_left
  · show Act.put _ (some 37) _ = _
    simp only [nrm]
    rfl
  refine pu_ (v := ?_) (a' := ?_) 14 (some 39) 32767 rfl rfl HT_ (by kernel_rfl) (.inl ⟨by rfl, ?_⟩) ?_ ?_; rotate_left 2; (· intro w'; go_simp; with_reducible rfl); (· simp only [nrm]; rfl)
  refine on_ 15 (none) 65535 rfl rfl HT_ (by kernel_rfl) (by decide) (fun K hK => ?_)
  refine skip_ (by rfl) rfl (st_run_store (g := gD) (off := j) (seg := [.int .u64 v]) rfl rfl rfl rfl (by rw [U_size]; exact HJ.out) (by simp [Value.oneCell']) (H.out.pick 2 rfl)) ?_
  have h8 := (H.out.pick 2 rfl).setCells j [.int .u64 v] (by rw [U_size]; exact HJ.out)
  generalize World.setCells _ _ _ _ = w5 at h8 ⊢
  replace H : Aside (St w0 w5 (fdB x P T a d p :: daB d gD n lv f :: blk gD (U (X.set j v)).toArray 22 :: arB a gC n lv2 true cn fl :: ceB gC X :: F)) := Aside.mk ((put_U HJ.out h8).order 3 [1, 2, 0] rfl rfl)
  clear h8
  refine hK.out _ _ ⟨H.out.cell 3, H.out.cell 4, H.out.cell 5, H.out.cell 6, H.out.cell 7, H.out.cell 8, H.out.cell 10, (H.out.pick 1 rfl).cell 0⟩ (fun hHeld => ?_)
  clear hK K
  refine done_ (done_of HT_.out (by kernel_rfl)) ?_
  clear HT_ HW_ hHeld
  go_wp2_with fail
  replace H := Aside.mk H.out.drew
  refine start_ (n := 12) (S := fun w' => w'.cell? ⟨x, 3, none⟩ = some (.int .i64 ((P : Int) + 1)) ∧ w'.cell? ⟨x, 4, none⟩ = some (.int .i64 ((T : Int) + 1)) ∧ w'.cell? ⟨x, 5, none⟩ = some (.int .i64 1) ∧ w'.cell? ⟨x, 6, none⟩ = some (.int .i64 64) ∧ w'.cell? ⟨x, 7, none⟩ = some (.int .i64 (22 + 6 * (T : Int))) ∧ w'.cell? ⟨x, 8, none⟩ = some (.int .i64 (128 + 64 * (P : Int))) ∧ w'.cell? ⟨x, 9, none⟩ = some (.pointer (some ⟨a, 0, none⟩))) (ds := []) (flg 12 0) (by kernel_rfl) rfl rfl (⟨H.out.cell 3, H.out.cell 4, H.out.cell 5, H.out.cell 6, H.out.cell 7, H.out.cell 8, H.out.cell 9⟩) (fun hHeld => ?_)
  refine with_tabW tq.tab4 tq.bits4 (fun HT_ HW_ => ?_)
  refine pu_ (v := ?_) (a' := ?_) 0 (some 40) 1 rfl rfl HT_ (by kernel_rfl) (.inl ⟨by rfl, ?_⟩) ?_ ?_; rotate_left 2; (· intro w'; go_simp; with_reducible rfl); (· simp only [nrm]; rfl)
  refine pu_ (v := ?_) (a' := ?_) 1 (some 41) 3 rfl rfl HT_ (by kernel_rfl) (.inl ⟨by rfl, ?_⟩) ?_ ?_; rotate_left 2; (· intro w'; go_simp; with_reducible rfl); (· simp only [nrm]; rfl)
  refine pu_ (v := ?_) (a' := ?_) 2 (some 42) 7 rfl rfl HT_ (by kernel_rfl) (.inl ⟨by rfl, ?_⟩) ?_ ?_; rotate_left 2; (· intro w'; go_simp; with_reducible rfl); (· simp only [nrm]; rfl)
  refine tk_ (v := ?_) (a' := ?_) 3 (some 43) 15 rfl rfl HT_ HW_ (by kernel_rfl) (.inl ⟨by rfl, ?_⟩) hHeld ?_ ?_; rotate_left 2; (· rintro w' ⟨_, _, _, _, _, _, _⟩; go_simp; with_reducible rfl); (· simp only [nrm]; rfl)
  refine pu_ (v := ?_) (a' := ?_) 4 (some 44) 31 rfl rfl HT_ (by kernel_rfl) (.inl ⟨by rfl, ?_⟩) ?_ ?_; rotate_left 2; (· intro w'; go_simp; with_reducible rfl); (· simp only [nrm]; rfl)
  refine pu_ (v := ?_) (a' := ?_) 5 (some 45) 63 rfl rfl HT_ (by kernel_rfl) (.inl ⟨by rfl, ?_⟩) ?_ ?_; rotate_left 2; (· intro w'; go_simp; with_reducible rfl); (· simp only [nrm]; rfl)
  refine pu_ (v := ?_) (a' := ?_) 6 (some 46) 127 rfl rfl HT_ (by kernel_rfl) (.inl ⟨by rfl, ?_⟩) ?_ ?_; rotate_left 2; (· intro w'; go_simp; with_reducible rfl); (· simp only [nrm]; rfl)
  refine tk_ (v := ?_) (a' := ?_) 7 (some 47) 255 rfl rfl HT_ HW_ (by kernel_rfl) (.inl ⟨by rfl, ?_⟩) hHeld ?_ ?_; rotate_left 2; (· rintro w' ⟨_, _, _, _, _, _, _⟩; go_simp; with_reducible rfl); (· simp only [nrm]; rfl)
  refine pu_ (v := ?_) (a' := ?_) 8 (some 48) 511 rfl rfl HT_ (by kernel_rfl) (.inl ⟨by rfl, ?_⟩) ?_ ?_; rotate_left 2; (· intro w'; go_simp; with_reducible rfl); (· simp only [nrm]; rfl)
  refine pu_ (v := ?_) (a' := ?_) 10 (some 50) 1535 rfl rfl HT_ (by kernel_rfl) (.inl ⟨by rfl, ?_⟩) ?_ ?_; rotate_left 2; (· intro w'; go_simp; with_reducible rfl); (· simp only [nrm]; rfl)
  refine on_ 9 (some 49) 2047 rfl rfl HT_ (by kernel_rfl) (by decide) (fun K hK => ?_)
  refine goes_ Try.func17 (by kernel_rfl) rfl #[.agg #[.int .i64 ((P : Int) + 1), .int .i64 ((T : Int) + 1), .int .i64 1, .int .i64 64, .int .i64 (22 + 6 * (T : Int)), .int .i64 (128 + 64 * (P : Int))], .int .i64 (btI P at_)] (by rfl) rfl rfl (by (try simp only [List.map_toArray, List.map_cons, List.map_nil]); first | done | rfl) ?_
  refine (windrowref06_Map_PageEntry.calls _ _ _ _ _ _ _ _ _ HPE.out).mono ?_
  rintro e w2 ⟨rfl, hb⟩
  replace H := Aside.mk (H.out.step hb)
  clear hb
  refine ⟨_, rfl, ?_⟩
  refine hK.out _ _ ⟨H.out.cell 3, H.out.cell 4, H.out.cell 5, H.out.cell 6, H.out.cell 7, H.out.cell 8, H.out.cell 9⟩ (fun hHeld => ?_)
  clear hK K
  refine norm_ (a' := ?_) ?_ ?_
  rotate_left
  · show Act.put _ (some 49) _ = _
    simp only [nrm]
    rfl
  refine on_ 11 (some 51) 4095 rfl rfl HT_ (by kernel_rfl) (by decide) (fun K hK => ?_)
  refine goes_ Try.func43 (by kernel_rfl) rfl #[.pointer (some ⟨a, 0, none⟩), .int .i64 j, .int .u64 v] (by rfl) rfl rfl (by (try simp only [List.map_toArray, List.map_cons, List.map_nil]); first | done | rfl) ?_
  refine (HPO.out _ _ (H.out.order 5 [3, 4, 0, 1, 2] rfl rfl)).mono ?_
  rintro e w6 ⟨rfl, h6⟩
  replace H : Aside (St w0 w6 (fdB x P T a d p :: daB d gD n lv f :: blk gD (U (X.set j v)).toArray 22 :: arB a gC n lv2 true cn fl :: ceB gC (X.set j v) :: F)) := Aside.mk (h6.order 5 [2, 3, 4, 0, 1] rfl rfl)
  clear h6
  refine ⟨_, rfl, ?_⟩
  refine hK.out _ _ ⟨H.out.cell 3, H.out.cell 4, H.out.cell 5, H.out.cell 6, H.out.cell 7, H.out.cell 8, H.out.cell 9⟩ (fun hHeld => ?_)
  clear hK K
  refine norm_ (a' := ?_) ?_ ?_
  rotate_left
  · show Act.put _ (some 51) _ = _
    simp only [nrm]
    rfl
  refine done_ (done_of HT_.out (by kernel_rfl)) ?_
  clear HT_ HW_ hHeld
  go_wp2
  go_end0
  exact ⟨rfl, H.out⟩
def tu.T4 : Bool × List (List Nat × List Nat) := (true, [([], []), ([], []), ([], []), ([1, 2], [1, 2]), ([3], [3]), ([4], [4]), ([5], [5]), ([], []), ([], []), ([7, 8], [7, 8]), ([9], [9]), ([10], [10]), ([0, 6, 11], [0, 6, 11])])
def tu.B4 : List Nat := [0, 0, 0, 6, 14, 30, 62, 0, 0, 384, 896, 1920, 4095]
theorem tu.tab4 : rtab .any (opsOf Try.f25 4) = tu.T4 := by kernel_rfl
theorem tu.bits4 : waitsOk tu.T4.2 tu.B4 = true := by kernel_rfl
/-- Those ahead of a step. -/
def btW (g : STu) : Int := if isE g.f2 g.f3 g.f4 g.f5 g.f6 = true then wordOf g.f2 g.f3 g.f4 g.f5 g.f6 else 0
def tr1 (P T : Nat) (n : Int) (g : STu) (X : List Int) : List Int := if g.f0 = n then X.set (adr P T 0 (btI P g.f1)) (btW g) else X
def trX (P T : Nat) (n : Int) : List STu → Nat → List Int → List Int
  | [], _, X => X
  | g :: r, i, X => if i < 20 then trX P T n r (i + 1) (tr1 P T n g X) else X
theorem tr1_len {P T : Nat} {n : Int} {g : STu} {X : List Int} : (tr1 P T n g X).length = X.length := by unfold tr1; split <;> simp
theorem trX_len {P T : Nat} {n : Int} : ∀ (l : List STu) (i : Nat) (X : List Int), (trX P T n l i X).length = X.length
  | [], _, _ => rfl
  | g :: r, i, X => by
    unfold trX
    split
    · rw [trX_len r, tr1_len]
    · rfl
theorem btW_u64 (g : STu) : u64 (btW g) := by
  unfold btW
  split
  · rename_i h; exact wordOf_u64 h
  · unfold u64; decide
theorem trX_rng {P T : Nat} {n : Int} : ∀ (l : List STu) (i : Nat) (X : List Int), Rng X → Rng (trX P T n l i X)
  | [], _, _, h => h
  | g :: r, i, X, h => by
    unfold trX
    split
    · refine trX_rng r _ _ ?_
      unfold tr1
      split
      · exact h.set _ (btW_u64 g)
      · exact h
    · exact h
theorem trX_stop {P T : Nat} {n : Int} (l : List STu) (i : Nat) (X : List Int) (h : ¬ i < 20) : trX P T n l i X = X := by
  cases l with
  | nil => rfl
  | cons g r => exact if_neg h
theorem turns_ {x P T a d p gD gC : Nat} (hP : P < 5) (hT : T < 3) {lv lv2 : Value} {f cn fl : Int} {X0 : List Int} (hX0 : X0.length = 128 + 64 * P) (n : Int) (A : Option Addr) (cc : Nat) (L : List STu) (hL : Kd.C kTu w0 A L.length L)
    (h : St w0 w (fdB x P T a d p :: daB d gD (128 + 64 * P) lv f :: blk gD (U X0).toArray 22 :: arB a gC (128 + 64 * P) lv2 true cn fl :: ceB gC X0 :: F)) :
    Calls Try.prog 25 #[.pointer (some ⟨x, 0, none⟩), .slice A L.length cc, .int .i64 n] w fun e w' => e = .returned (.tuple #[]) ∧
      St w0 w' (fdB x P T a d p :: daB d gD (128 + 64 * P) lv f :: blk gD (U (trX P T n L 0 X0)).toArray 22 :: arB a gC (128 + 64 * P) lv2 true cn fl :: ceB gC (trX P T n L 0 X0) :: F) := by
  have hbw := fun (w' : World) (X : List Int) (k c s o y v6 v7 v8 at_ : Int) (hX : X.length = 128 + 64 * P) (h : St w0 w' (fdB x P T a d p :: daB d gD X.length lv f :: blk gD (U X).toArray 22 :: arB a gC X.length lv2 true cn fl :: ceB gC X :: F)) => between_ hP hT hX k c s o y v6 v7 v8 at_ h
  have HBW0 := Aside.mk hbw
  have HLM := Aside.mk (Kd.C_max hL)
  have HL := Aside.mk hL
  have HX0 := Aside.mk hX0
  have H := Aside.mk h
  clear h hbw hX0 hL hP hT
  go_enter Try.func25, Try.ntmps25
  go_wp2_with fail
  go_loopg [6] (20) (fun m v6 w' => ∃ i : Nat, m = 20 - i ∧ i ≤ 20 ∧ i ≤ L.length ∧ v6 = .int .i64 i ∧ ∃ X, Aside (trX P T n (L.drop i) i X = trX P T n L 0 X0) ∧ Aside (X.length = 128 + 64 * P) ∧ Aside (St w0 w' (fdB x P T a d p :: daB d gD (128 + 64 * P) lv f :: blk gD (U X).toArray 22 :: arB a gC (128 + 64 * P) lv2 true cn fl :: ceB gC X :: F)))
  case atStart => exact ⟨0, rfl, Nat.zero_le _, Nat.zero_le _, rfl, X0, ⟨rfl⟩, HX0, H⟩
  case round =>
    clear H
    obtain ⟨i, rfl, hi, hiL, rfl, X, HE, HXL, H⟩ := hrel
    by_cases hlt : i < L.length
    · have dlt : decide ((i : Int) < (L.length : Int)) = true := by simp; omega
      by_cases hip : i < 20
      · have hdc : L.drop i = rd_Tu L i :: L.drop (i + 1) := drop_cons zTu L i hlt
        have HD := Aside.mk hdc
        clear hdc
        obtain ⟨ad, rfl, c0, c1, c2, c3, c4, c5, c6⟩ := at_Tu HL.out i (by omega) (by omega)
        have hci : ((i : Int)).toNat = i := rfl
        rw [hci] at c0 c1 c2 c3 c4 c5 c6
        have HC1 := Aside.mk c1
        have HC2 := Aside.mk c2
        have HC3 := Aside.mk c3
        have HC4 := Aside.mk c4
        have HC5 := Aside.mk c5
        have HC6 := Aside.mk c6
        have e0 := pw_cell_below H.out.below c0
        clear c0 c1 c2 c3 c4 c5 c6 hci
        have HST : Aside (tr1 P T n (rd_Tu L i) X = if (rd_Tu L i).f0 = n then X.set (adr P T 0 (btI P (rd_Tu L i).f1)) (if isE (rd_Tu L i).f2 (rd_Tu L i).f3 (rd_Tu L i).f4 (rd_Tu L i).f5 (rd_Tu L i).f6 = true then wordOf (rd_Tu L i).f2 (rd_Tu L i).f3 (rd_Tu L i).f4 (rd_Tu L i).f5 (rd_Tu L i).f6 else 0) else X) := ⟨rfl⟩
        have hHI := Aside.mk hip
        generalize hgg : tr1 P T n (rd_Tu L i) X = Y at HST
        have HY := Aside.mk hgg
        clear hgg
        generalize hf0 : (rd_Tu L i).f0 = g0 at e0 HST
        generalize hf1 : (rd_Tu L i).f1 = g1 at HC1 HST
        generalize hf2 : (rd_Tu L i).f2 = g2 at HC2 HST
        generalize hf3 : (rd_Tu L i).f3 = g3 at HC3 HST
        generalize hf4 : (rd_Tu L i).f4 = g4 at HC4 HST
        generalize hf5 : (rd_Tu L i).f5 = g5 at HC5 HST
        generalize hf6 : (rd_Tu L i).f6 = g6 at HC6 HST
        clear hf0 hf1 hf2 hf3 hf4 hf5 hf6
        by_cases hg : g0 = n
        · have hgb : (g0 == n) = true := by simp [hg]
          have hst := HST.out
          rw [if_pos hg] at hst
          have hbw := fun (w' : World) (h : St w0 w' (fdB x P T a d p :: daB d gD (128 + 64 * P) lv f :: blk gD (U X).toArray 22 :: arB a gC (128 + 64 * P) lv2 true cn fl :: ceB gC X :: F)) => HBW0.out w' X g2 g3 g4 g5 g6 0 0 0 g1 HXL.out (by rw [HXL.out]; exact h)
          rw [← hst, HXL.out] at hbw
          have HBW := Aside.mk hbw
          clear hbw hst HST hg
          go_wp2_with fail
          replace H := Aside.mk H.out.drew
          refine start_ (n := 13) (S := fun w' => w'.cell? ⟨(ad.add (i * 7)).block, (ad.add (i * 7)).off + 1, none⟩ = some (.int .i64 g1) ∧ w'.cell? ⟨(ad.add (i * 7)).block, (ad.add (i * 7)).off + 2, none⟩ = some (.int .i64 g2) ∧ w'.cell? ⟨(ad.add (i * 7)).block, (ad.add (i * 7)).off + 3, none⟩ = some (.int .i64 g3) ∧ w'.cell? ⟨(ad.add (i * 7)).block, (ad.add (i * 7)).off + 4, none⟩ = some (.int .i64 g4) ∧ w'.cell? ⟨(ad.add (i * 7)).block, (ad.add (i * 7)).off + 5, none⟩ = some (.int .i64 g5) ∧ w'.cell? ⟨(ad.add (i * 7)).block, (ad.add (i * 7)).off + 6, none⟩ = some (.int .i64 g6)) (ds := []) (flg 13 0) (by kernel_rfl) rfl rfl (⟨pw_cell_below H.out.below HC1.out, pw_cell_below H.out.below HC2.out, pw_cell_below H.out.below HC3.out, pw_cell_below H.out.below HC4.out, pw_cell_below H.out.below HC5.out, pw_cell_below H.out.below HC6.out⟩) (fun hHeld => ?_)
          refine with_tabW tu.tab4 tu.bits4 (fun HT_ HW_ => ?_)
          refine pu_ (v := ?_) (a' := ?_) 0 (some 24) 1 rfl rfl HT_ (by kernel_rfl) (.inl ⟨by rfl, ?_⟩) ?_ ?_; rotate_left 2; (· intro w'; go_simp; with_reducible rfl); (· simp only [nrm]; rfl)
          refine pu_ (v := ?_) (a' := ?_) 1 (some 25) 3 rfl rfl HT_ (by kernel_rfl) (.inl ⟨by rfl, ?_⟩) ?_ ?_; rotate_left 2; (· intro w'; go_simp; with_reducible rfl); (· simp only [nrm]; rfl)
          refine pu_ (v := ?_) (a' := ?_) 2 (some 26) 7 rfl rfl HT_ (by kernel_rfl) (.inl ⟨by rfl, ?_⟩) ?_ ?_; rotate_left 2; (· intro w'; go_simp; with_reducible rfl); (· simp only [nrm]; rfl)
          refine pu_ (v := ?_) (a' := ?_) 3 (some 27) 15 rfl rfl HT_ (by kernel_rfl) (.inl ⟨by rfl, ?_⟩) ?_ ?_; rotate_left 2; (· intro w'; go_simp; with_reducible rfl); (· simp only [nrm]; rfl)
          refine pu_ (v := ?_) (a' := ?_) 4 (some 28) 31 rfl rfl HT_ (by kernel_rfl) (.inl ⟨by rfl, ?_⟩) ?_ ?_; rotate_left 2; (· intro w'; go_simp; with_reducible rfl); (· simp only [nrm]; rfl)
          refine tk_ (v := ?_) (a' := ?_) 5 (some 29) 63 rfl rfl HT_ HW_ (by kernel_rfl) (.inl ⟨by rfl, ?_⟩) hHeld ?_ ?_; rotate_left 2; (· rintro w' ⟨_, _, _, _, _, _⟩; go_simp; with_reducible rfl); (· simp only [nrm]; rfl)
          refine pu_ (v := ?_) (a' := ?_) 6 (some 30) 127 rfl rfl HT_ (by kernel_rfl) (.inl ⟨by rfl, ?_⟩) ?_ ?_; rotate_left 2; (· intro w'; go_simp; with_reducible rfl); (· simp only [nrm]; rfl)
          refine pu_ (v := ?_) (a' := ?_) 7 (some 31) 255 rfl rfl HT_ (by kernel_rfl) (.inl ⟨by rfl, ?_⟩) ?_ ?_; rotate_left 2; (· intro w'; go_simp; with_reducible rfl); (· simp only [nrm]; rfl)
          refine pu_ (v := ?_) (a' := ?_) 8 (some 32) 511 rfl rfl HT_ (by kernel_rfl) (.inl ⟨by rfl, ?_⟩) ?_ ?_; rotate_left 2; (· intro w'; go_simp; with_reducible rfl); (· simp only [nrm]; rfl)
          refine pu_ (v := ?_) (a' := ?_) 9 (some 33) 1023 rfl rfl HT_ (by kernel_rfl) (.inl ⟨by rfl, ?_⟩) ?_ ?_; rotate_left 2; (· intro w'; go_simp; with_reducible rfl); (· simp only [nrm]; rfl)
          refine pu_ (v := ?_) (a' := ?_) 10 (some 34) 2047 rfl rfl HT_ (by kernel_rfl) (.inl ⟨by rfl, ?_⟩) ?_ ?_; rotate_left 2; (· intro w'; go_simp; with_reducible rfl); (· simp only [nrm]; rfl)
          refine tk_ (v := ?_) (a' := ?_) 11 (some 35) 4095 rfl rfl HT_ HW_ (by kernel_rfl) (.inl ⟨by rfl, ?_⟩) hHeld ?_ ?_; rotate_left 2; (· rintro w' ⟨_, _, _, _, _, _⟩; go_simp; with_reducible rfl); (· simp only [nrm]; rfl)
          refine on_ 12 (some 36) 8191 rfl rfl HT_ (by kernel_rfl) (by decide) (fun K hK => ?_)
          refine goes_ Try.func63 (by kernel_rfl) rfl #[.pointer (some ⟨x, 0, none⟩), .agg #[.int .i64 g2, .int .i64 g3, .int .i64 g4, .int .i64 g5, .int .i64 g6, .int .u64 0, .int .u64 0, .int .u64 0], .int .i64 g1] (by rfl) rfl rfl (by (try simp only [List.map_toArray, List.map_cons, List.map_nil]); first | done | rfl) ?_
          refine (HBW.out _ H.out).mono ?_
          rintro e w6 ⟨rfl, h6⟩
          replace H : Aside (St w0 w6 (fdB x P T a d p :: daB d gD (128 + 64 * P) lv f :: blk gD (U Y).toArray 22 :: arB a gC (128 + 64 * P) lv2 true cn fl :: ceB gC Y :: F)) := Aside.mk h6
          clear h6
          refine ⟨_, rfl, ?_⟩
          refine hK.out _ _ ⟨pw_cell_below H.out.below HC1.out, pw_cell_below H.out.below HC2.out, pw_cell_below H.out.below HC3.out, pw_cell_below H.out.below HC4.out, pw_cell_below H.out.below HC5.out, pw_cell_below H.out.below HC6.out⟩ (fun hHeld => ?_)
          clear hK K
          refine norm_ (a' := ?_) ?_ ?_
          rotate_left
          · show Act.put _ (some 36) _ = _
            simp only [nrm]
            rfl
          refine done_ (done_of HT_.out (by kernel_rfl)) ?_
          clear HT_ HW_ hHeld
          go_wp2
          go_roundg (20 - (i + 1))
          case measure => have := hHI.out; omega
          case rel => exact ⟨i + 1, rfl, hHI.out, by omega, by first | rfl | (have := hHI.out; rw [w_of ((i : Int) + 1) (by omega) (by omega)]; rfl), Y, ⟨by rw [← HE.out, HD.out, trX, if_pos hHI.out, HY.out]⟩, ⟨by rw [← HY.out, tr1_len, HXL.out]⟩, H⟩
        · have hgb : (g0 == n) = false := by simpa using hg
          have hst := HST.out
          rw [if_neg hg] at hst
          have HY2 := Aside.mk hst
          clear hst HST hg
          go_wp2
          go_roundg (20 - (i + 1))
          case measure => have := hHI.out; omega
          case rel => exact ⟨i + 1, rfl, hHI.out, by omega, by first | rfl | (have := hHI.out; rw [w_of ((i : Int) + 1) (by omega) (by omega)]; rfl), X, ⟨by rw [← HE.out, HD.out, trX, if_pos hHI.out, HY.out, HY2.out]⟩, HXL, H⟩
      · have hE := HE.out
        rw [trX_stop _ _ _ hip] at hE
        have HE2 := Aside.mk hE
        clear hE
        have dlt2 : decide ((i : Int) < 20) = false := by simp; omega
        go_wp2
        go_end0
        exact ⟨rfl, by rw [← HE2.out]; exact H.out⟩
    · have hE := HE.out
      have hE0 : L.drop i = [] := List.drop_eq_nil_of_le (by omega)
      rw [hE0] at hE
      have HE2 := Aside.mk (show X = trX P T n L 0 X0 from hE)
      clear hE hE0
      go_wp2
      go_end0
      exact ⟨rfl, by rw [← HE2.out]; exact H.out⟩
end Go.Proofs.Ytelfiegocdjnoaa.Ar
