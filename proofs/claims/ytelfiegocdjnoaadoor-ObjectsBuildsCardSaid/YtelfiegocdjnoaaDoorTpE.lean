/- The document's arena: an access; an access that a tape asks for; somebody else's entries. Conditions: each is a block of its own. -/
import Derived.Test.YtelfiegocdjnoaaDoorTp0
import Derived.Test.YtelfiegocdjnoaaDoorOb3
import Derived.Deep.CutBlock
import Derived.Test.YtelfiegocdjnoaaDoorMrF0
import Derived.Test.YtelfiegocdjnoaaDoorMrF1
namespace Go.Proofs.YtelfiegocdjnoaaDoor.Ar
open Go Go.RowKit Go.Proofs.YtelfiegocdjnoaaDoor.Sep Go.Proofs.YtelfiegocdjnoaaDoor.Pg Go.Proofs.YtelfiegocdjnoaaDoorW.PrintWords Go.Proofs.YtelfiegocdjnoaaDoorW.PrintLast Go.Proofs.YtelfiegocdjnoaaDoorW.PrintMore Go.Proofs.YtelfiegocdjnoaaDoor.Q
set_option linter.unusedVariables false
set_option linter.unusedSimpArgs false
set_option maxHeartbeats 8000000
set_option maxRecDepth 100000
variable {w0 w : World} {F : List HP}
def leftOf (kind seen want put : Int) : Int := if kind = 1 then seen else if kind = 4 then (if seen = want then put else seen) else put
abbrev daB (d gD n : Nat) (lv : Value) (f : Int) : HP := blk d #[.slice (some ⟨gD, 0, none⟩) n n, lv, .int .i64 f] 95
theorem U_size (X : List Int) (j : Nat) (v : Value) : j + [v].length ≤ (U X).toArray.size ↔ j < X.length := by simp [U]; omega
def tq.T9 : Bool × List (List Nat × List Nat) := (true, [([], []), ([], []), ([1], [1]), ([2], [2]), ([3], [3]), ([], []), ([5], [5]), ([6], [6]), ([7], [7]), ([], []), ([], []), ([], []), ([], []), ([], []), ([], []), ([8, 9, 10, 11, 12, 13, 14], [8, 9, 10, 11, 12, 13, 14]), ([15], [15]), ([4, 16], [4, 16]), ([0, 0, 1, 2, 3, 4, 5, 6, 7, 8, 9, 10, 11, 12, 13, 14, 15, 16, 17], [0]), ([18, 0, 1, 2, 3, 4, 5, 6, 7, 8, 9, 10, 11, 12, 13, 14, 15, 16, 17], [18]), ([19, 17, 17, 0, 1, 2, 3, 4, 5, 6, 7, 8, 9, 10, 11, 12, 13, 14, 15, 16, 17], [17, 19])])
def tq.B9 : List Nat := [0, 0, 2, 6, 14, 0, 32, 96, 224, 0, 0, 0, 0, 0, 0, 32736, 65504, 131070, 262143, 524287, 1048575]
theorem tq.tab9 : rtab .any (opsOf Tryd.f102 9) = tq.T9 := by kernel_rfl
theorem tq.bits9 : waitsOk tq.T9.2 tq.B9 = true := by kernel_rfl
theorem left_ {k : Int} (hk : k = 1 ∨ k = 2 ∨ k = 4) (seen wt pt : Int) : windrowref03_Left.f 2 k seen wt pt = some (leftOf k seen wt pt, true) := by
  rcases hk with rfl | rfl | rfl
  · rfl
  · rfl
  · unfold windrowref03_Left.f windrowref03_Left.j0 leftOf
    by_cases h : seen = wt
    · simp [h]
    · simp [h]
theorem do_ {p d gD j : Nat} {lv : Value} {l : List Acc} {f who k wt pt : Int} {X : List Int} (hj : j < X.length) (hn : X.length ≤ 4096) (hl : l.length ≤ 1000000) (hk : k = 1 ∨ k = 2 ∨ k = 4)
    (h : St w0 w (blk p #[.int .i64 who, .bool true] 184 :: daB d gD X.length lv f :: blk gD (U X).toArray 22 :: row 98 7 lv l.length (accs l) :: F)) :
    Calls Tryd.prog 102 #[.pointer (some ⟨d, 0, none⟩), .pointer (some ⟨p, 0, none⟩), .int .i64 k, .int .i64 j, .int .u64 wt, .int .u64 pt] w fun e w' => ∃ lv', e = .returned (.int .u64 (X.getD j 0)) ∧
      St w0 w' (blk p #[.int .i64 who, .bool false] 184 :: daB d gD X.length lv' f :: blk gD (U (X.set j (leftOf k (X.getD j 0) wt pt))).toArray 22 :: row 98 7 lv' (l.length + 1) (accs (l ++ [⟨who, k, j, wt, pt, X.getD j 0, leftOf k (X.getD j 0) wt pt⟩])) :: F) := by
  have hL := left_ hk (X.getD j 0) wt pt
  have z1 := ((h.pick 2 rfl).cell j).trans (U_getD hj)
  have hg := fun (w' : World) (L : List HP) (h : St w0 w' (blk gD (U X).toArray 22 :: L)) => (h.cell j).trans (U_getD hj)
  generalize X.getD j 0 = v at hL z1 hg ⊢
  generalize leftOf k v wt pt = left at hL ⊢
  have HL := Aside.mk hL
  have HG9 := Aside.mk (fun w' {L} => hg w' L)
  have HJ := Aside.mk hj
  obtain ⟨n, hn'⟩ : ∃ n, n = X.length := ⟨_, rfl⟩
  rw [← hn'] at hj hn h ⊢
  have d1 : decide ((j : Int) < (n : Int)) = true := by simp; omega
  have d0 : decide ((0 : Int) ≤ (j : Int)) = true := by simp
  have y1 : w.cell? ⟨p, 1, none⟩ = some (.bool true) := h.cell 1
  have x0 : w.cell? ⟨d, 0, none⟩ = some (.slice (some ⟨gD, 0, none⟩) n n) := (h.pick 1 rfl).cell 0
  have HN := Aside.mk hn'
  have H := Aside.mk h
  clear h hL hg hk hn' z1
  go_enter Tryd.func102, Tryd.ntmps102
  go_wp2_with (with_reducible refine stop_at (.store 4 (.tmp 36) (.const (.bool false))) rfl ?_)
  refine ⟨?_⟩
  refine st_store rfl rfl rfl [.bool false] #[.int .i64 who, .bool false] rfl rfl rfl (Nat.le_of_ble_eq_true rfl) (by simp [Value.oneCell']) H.out rfl ?_
  intro w1 h1
  replace H := Aside.mk h1
  clear h1 y1 x0
  have x0 : w1.cell? ⟨d, 0, none⟩ = some (.slice (some ⟨gD, 0, none⟩) n n) := (H.out.pick 1 rfl).cell 0
  have z1 := HG9.out _ (H.out.pick 2 rfl)
  go_wp2_with (first
    | (go_at_call 149; refine (windrowref03_Left.calls _ _ _ _ _ _ _ _ HL.out).mono ?_; rintro e w2 ⟨rfl, ⟨nd, rfl⟩⟩; replace H := Aside.mk (H.out.drewN nd); clear x0 z1; have x0 := (H.out.pick 1 rfl).cell 0; have z1 := HG9.out _ (H.out.pick 2 rfl))
    | (with_reducible refine stop_at (.store 22 (.tmp 67) (.tmp 66)) rfl ?_))
  refine ⟨?_⟩
  refine st_store rfl rfl rfl [.int .u64 left] (putAt (U X).toArray j [.int .u64 left]) rfl rfl rfl ((U_size X j _).2 HJ.out) (by simp [Value.oneCell']) (H.out.pick 2 rfl) rfl ?_
  intro w3 h3
  replace H : Aside (St w0 w3 (blk p #[.int .i64 who, .bool false] 184 :: daB d gD n lv f :: blk gD (U (X.set j left)).toArray 22 :: row 98 7 lv l.length (accs l) :: F)) := Aside.mk ((put_U HJ.out h3).order 3 [1, 2, 0] rfl rfl)
  clear h3 x0 z1
  go_wp2_with fail
  replace H := Aside.mk H.out.drew
  refine start_ (n := 21) (S := fun w' => w'.cell? ⟨p, 0, none⟩ = some (.int .i64 who) ∧ w'.cell? ⟨d, 1, none⟩ = some lv) (ds := [20]) (flg 21 0) (by kernel_rfl) rfl rfl (⟨H.out.cell 0, (H.out.pick 1 rfl).cell 1⟩) (fun hHeld => ?_)
  refine with_tabW tq.tab9 tq.bits9 (fun HT_ HW_ => ?_)
  generalize World.drew _ = w4 at H hHeld ⊢
  refine pu_ (v := ?_) (a' := ?_) 0 (some 68) 1 rfl rfl HT_ (by kernel_rfl) (.inl ⟨by rfl, ?_⟩) ?_ ?_; rotate_left 2; (· intro w'; go_simp; with_reducible rfl); (· simp only [nrm]; rfl)
  refine pu_ (v := ?_) (a' := ?_) 1 (some 69) 3 rfl rfl HT_ (by kernel_rfl) (.inl ⟨by rfl, ?_⟩) ?_ ?_; rotate_left 2; (· intro w'; go_simp; with_reducible rfl); (· simp only [nrm]; rfl)
  refine pu_ (v := ?_) (a' := ?_) 2 (some 70) 7 rfl rfl HT_ (by kernel_rfl) (.inl ⟨by rfl, ?_⟩) ?_ ?_; rotate_left 2; (· intro w'; go_simp; with_reducible rfl); (· simp only [nrm]; rfl)
  refine pu_ (v := ?_) (a' := ?_) 3 (some 71) 15 rfl rfl HT_ (by kernel_rfl) (.inl ⟨by rfl, ?_⟩) ?_ ?_; rotate_left 2; (· intro w'; go_simp; with_reducible rfl); (· simp only [nrm]; rfl)
  refine tk_ (v := ?_) (a' := ?_) 4 (some 72) 31 rfl rfl HT_ HW_ (by kernel_rfl) (.inl ⟨by rfl, ?_⟩) hHeld ?_ ?_; rotate_left 2; (· rintro w' ⟨_, _⟩; go_simp; with_reducible rfl); (· simp only [nrm]; rfl)
  refine pu_ (v := ?_) (a' := ?_) 5 (some 73) 63 rfl rfl HT_ (by kernel_rfl) (.inl ⟨by rfl, ?_⟩) ?_ ?_; rotate_left 2; (· intro w'; go_simp; with_reducible rfl); (· simp only [nrm]; rfl)
  refine pu_ (v := ?_) (a' := ?_) 6 (some 74) 127 rfl rfl HT_ (by kernel_rfl) (.inl ⟨by rfl, ?_⟩) ?_ ?_; rotate_left 2; (· intro w'; go_simp; with_reducible rfl); (· simp only [nrm]; rfl)
  refine pu_ (v := ?_) (a' := ?_) 7 (some 75) 255 rfl rfl HT_ (by kernel_rfl) (.inl ⟨by rfl, ?_⟩) ?_ ?_; rotate_left 2; (· intro w'; go_simp; with_reducible rfl); (· simp only [nrm]; rfl)
  refine tk_ (v := ?_) (a' := ?_) 8 (some 76) 511 rfl rfl HT_ HW_ (by kernel_rfl) (.inl ⟨by rfl, ?_⟩) hHeld ?_ ?_; rotate_left 2; (· rintro w' ⟨_, _⟩; go_simp; with_reducible rfl); (· simp only [nrm]; rfl)
  refine pu_ (v := ?_) (a' := ?_) 9 (some 77) 1023 rfl rfl HT_ (by kernel_rfl) (.inl ⟨by rfl, ?_⟩) ?_ ?_; rotate_left 2; (· intro w'; go_simp; with_reducible rfl); (· simp only [nrm]; rfl)
  refine pu_ (v := ?_) (a' := ?_) 10 (some 78) 2047 rfl rfl HT_ (by kernel_rfl) (.inl ⟨by rfl, ?_⟩) ?_ ?_; rotate_left 2; (· intro w'; go_simp; with_reducible rfl); (· simp only [nrm]; rfl)
  refine pu_ (v := ?_) (a' := ?_) 11 (some 79) 4095 rfl rfl HT_ (by kernel_rfl) (.inl ⟨by rfl, ?_⟩) ?_ ?_; rotate_left 2; (· intro w'; go_simp; with_reducible rfl); (· simp only [nrm]; rfl)
  refine pu_ (v := ?_) (a' := ?_) 12 (some 80) 8191 rfl rfl HT_ (by kernel_rfl) (.inl ⟨by rfl, ?_⟩) ?_ ?_; rotate_left 2; (· intro w'; go_simp; with_reducible rfl); (· simp only [nrm]; rfl)
  refine pu_ (v := ?_) (a' := ?_) 13 (some 81) 16383 rfl rfl HT_ (by kernel_rfl) (.inl ⟨by rfl, ?_⟩) ?_ ?_; rotate_left 2; (· intro w'; go_simp; with_reducible rfl); (· simp only [nrm]; rfl)
  refine pu_ (v := ?_) (a' := ?_) 14 (some 82) 32767 rfl rfl HT_ (by kernel_rfl) (.inl ⟨by rfl, ?_⟩) ?_ ?_; rotate_left 2; (· intro w'; go_simp; with_reducible rfl); (· simp only [nrm]; rfl)
  refine pu_ (v := ?_) (a' := ?_) 15 (some 83) 65535 rfl rfl HT_ (by kernel_rfl) (.inl ⟨by rfl, ?_⟩) ?_ ?_; rotate_left 2; (· intro w'; go_simp; with_reducible rfl); (· simp only [nrm]; rfl)
  refine on_ 16 (some 84) 131071 rfl rfl HT_ (by kernel_rfl) (by decide) (fun K hK => ?_)
  refine value_ (w1 := ?_) (v := ?_) (by rfl) rfl ?_ ?_
  rotate_left 2
  · go_simp
    constructor
    · rfl
    · rfl
  have HG := Aside.mk (H.out.garbage (.cells #[.int .i64 who, .int .i64 k, .int .i64 j, .int .u64 wt, .int .u64 pt, .int .u64 v, .int .u64 left] 98))
  refine hK.out _ _ ⟨HG.out.cell 0, (HG.out.pick 1 rfl).cell 1⟩ (fun hHeld => ?_)
  clear hK K
  refine norm_ (a' := ?_) ?_ ?_
  rotate_left
  · show Act.put _ (some 84) _ = _
    simp only [nrm]
    rfl
  refine on_ 17 (some 85) 262143 rfl rfl HT_ (by kernel_rfl) (by decide) (fun K hK => ?_)
  refine append_run_step (by rfl) (.tmp 72) (.tmp 84) 93 98 (.agg #[.int .i64 0, .int .i64 0, .int .i64 0, .int .u64 0, .int .u64 0, .int .u64 0, .int .u64 0]) 7 56 rfl Tryd.underlying93 info98 rfl (by decide) (by decide) lv l.length (accs l) rfl ⟨_, 0, none⟩ 1 1 (Acc.vs ⟨who, k, j, wt, pt, v, left⟩) rfl rfl ?hys ?h1 (HG.out.pick 3 rfl) ?hl ?_
  case hys => exact new_cells w4 (Acc.vs ⟨who, k, j, wt, pt, v, left⟩) 98
  case h1 => simp [Acc.vs, Value.oneCell']
  case hl => omega
  intro A1 c1 w5 hc1 h5
  have H5 := Aside.mk h5
  clear h5
  refine hK.out _ _ ⟨(H5.out.pick 1 rfl).cell 0, (H5.out.pick 2 rfl).cell 1⟩ (fun hHeld => ?_)
  clear hK K
  refine norm_ (a' := ?_) ?_ ?_
  rotate_left
  · show Act.put _ (some 85) _ = _
    simp only [nrm]
    rfl
  refine pu_ (v := ?_) (a' := ?_) 18 (some 86) 524287 rfl rfl HT_ (by kernel_rfl) (.inl ⟨by rfl, ?_⟩) ?_ ?_; rotate_left 2; (· intro w'; go_simp; with_reducible rfl); (· simp only [nrm]; rfl)
  refine pu_ (v := ?_) (a' := ?_) 19 (some 87) 1048575 rfl rfl HT_ (by kernel_rfl) (.inl ⟨by rfl, ?_⟩) ?_ ?_; rotate_left 2; (· intro w'; go_simp; with_reducible rfl); (· simp only [nrm]; rfl)
  refine last_ (i := 20) (N := none) (flg 21 2097151) rfl rfl (one_of HT_.out (by kernel_rfl)) (by decide) (fun K hK => ?_)
  refine skip_ (by rfl) rfl (st_run_store (seg := [.slice A1 (l.length + 1) c1]) rfl rfl rfl rfl (Nat.le_of_ble_eq_true rfl) (by simp [Value.oneCell']) (H5.out.pick 2 rfl)) ?_
  have h8 := (H5.out.pick 2 rfl).setCells 1 [.slice A1 (l.length + 1) c1] (Nat.le_of_ble_eq_true rfl)
  generalize World.setCells _ _ _ _ = w6 at h8 ⊢
  replace H : Aside (St w0 w6 (blk p #[.int .i64 who, .bool false] 184 :: daB d gD n (.slice A1 (l.length + 1) c1) f :: blk gD (U (X.set j left)).toArray 22 :: row 98 7 (.slice A1 (l.length + 1) c1) (l.length + 1) (accs (l ++ [⟨who, k, j, wt, pt, v, left⟩])) :: F)) := Aside.mk (by rw [show accs (l ++ [⟨who, k, j, wt, pt, v, left⟩]) = accs l ++ Acc.vs ⟨who, k, j, wt, pt, v, left⟩ from by simp [accs]]; exact h8.order 4 [2, 0, 3, 1] rfl rfl)
  clear h8 H5 HG
  refine hK.out _ _ ?_
  refine done_ (done_of HT_.out (by kernel_rfl)) ?_
  clear HT_ HW_ hHeld
  go_wp2
  go_ret
  exact ⟨_, rfl, H.out⟩
/-- What a tape asks for is made. -/
def Tp.made (x : Tp) (v : Int) : Tp := { x with hist := x.hist ++ [v] }
theorem make_ {t d gD na : Nat} {lh lv : Value} {x : Tp} {l : List Acc} {f who : Int} {X : List Int} (hj : na < X.length) (hn : X.length ≤ 4096) (hl : l.length ≤ 1000000) (hx : x.hist.length ≤ 1000) (hk : x.nk = 1 ∨ x.nk = 2 ∨ x.nk = 4) (hna : x.na = na)
    (h : St w0 w (tpB t lh x :: tpR lh x :: daB d gD X.length lv f :: blk gD (U X).toArray 22 :: row 98 7 lv l.length (accs l) :: F)) :
    Calls Tryd.prog 43 #[.pointer (some ⟨d, 0, none⟩), .pointer (some ⟨t, 0, none⟩), .int .i64 who] w fun e w' => ∃ lv' lh', e = .returned (.tuple #[]) ∧
      St w0 w' (tpB t lh' (x.made (X.getD na 0)) :: tpR lh' (x.made (X.getD na 0)) :: daB d gD X.length lv' f :: blk gD (U (X.set na (leftOf x.nk (X.getD na 0) x.nw x.np))).toArray 22 :: row 98 7 lv' (l.length + 1) (accs (l ++ [⟨who, x.nk, na, x.nw, x.np, X.getD na 0, leftOf x.nk (X.getD na 0) x.nw x.np⟩])) :: F) := by
  obtain ⟨hist, pos, nk, na', nw, np, stop⟩ := x
  have hdo := fun (w' : World) (p : Nat) (L : List HP) (h : St w0 w' (blk p #[.int .i64 who, .bool true] 184 :: daB d gD X.length lv f :: blk gD (U X).toArray 22 :: row 98 7 lv l.length (accs l) :: L)) => do_ (wt := nw) (pt := np) hj hn hl hk h
  have HDO := Aside.mk hdo
  obtain rfl : na' = (na : Int) := hna
  simp only [Tp.made] at HDO ⊢
  generalize X.getD na 0 = v at HDO ⊢
  generalize X.set na (leftOf nk v nw np) = Y at HDO ⊢
  generalize l ++ [(⟨who, nk, na, nw, np, v, leftOf nk v nw np⟩ : Acc)] = l2 at HDO ⊢
  obtain ⟨hist2, hh⟩ : ∃ z, z = hist ++ [v] := ⟨_, rfl⟩
  rw [← hh]
  have HH := Aside.mk hh
  clear hh
  have H := Aside.mk (h.alloc #[.int .i64 who, .bool true] 184)
  have HX := Aside.mk hx
  have y2 := (H.out.pick 1 rfl).cell 2; have y3 := (H.out.pick 1 rfl).cell 3; have y4 := (H.out.pick 1 rfl).cell 4; have y5 := (H.out.pick 1 rfl).cell 5; have y6 := (H.out.pick 1 rfl).cell 6; have y7 := (H.out.pick 1 rfl).cell 7; have y8 := (H.out.pick 1 rfl).cell 8
  clear h hdo hk hx
  go_enter Tryd.func43, Tryd.ntmps43
  go_wp2_with (with_reducible refine stop_at (.store 98 (.tmp 7) (.tmp 15)) rfl ?_)
  refine ⟨?_⟩
  have h0 := H.out.alloc #[.int .i64 0, .int .i64 0, .int .i64 0, .int .u64 0, .int .u64 0, .int .u64 0, .int .u64 0] 98
  simp only [World.size_alloc] at h0
  refine st_store rfl rfl rfl [.int .i64 0, .int .i64 nk, .int .i64 na, .int .u64 nw, .int .u64 np, .int .u64 0, .int .u64 0] #[.int .i64 0, .int .i64 nk, .int .i64 na, .int .u64 nw, .int .u64 np, .int .u64 0, .int .u64 0] rfl rfl rfl (Nat.le_of_ble_eq_true rfl) (by simp [Value.oneCell']) h0 rfl ?_
  intro w1 h1
  replace H := Aside.mk h1
  clear h0 h1 y2 y3 y4 y5 y6 y7 y8
  have y1 := H.out.cell 1
  have y2 := H.out.cell 2
  have y3 := H.out.cell 3
  have y4 := H.out.cell 4
  go_wp2_with (first
    | (go_at_call 102; refine (HDO.out _ _ _ (H.out.order 7 [1, 4, 5, 6, 0, 2, 3] rfl rfl)).mono ?_; rintro e w2 ⟨lv1, rfl, h2⟩; replace H : Aside (St w0 w2 (tpB t lh ⟨hist, pos, nk, na, nw, np, stop⟩ :: tpR lh ⟨hist, pos, nk, na, nw, np, stop⟩ :: daB d gD X.length lv1 f :: blk gD (U Y).toArray 22 :: row 98 7 lv1 (l.length + 1) (accs l2) :: F)) := Aside.mk (h2.order 7 [0, 4, 5, 6, 1, 2, 3] rfl rfl).rest.rest; clear h2 y1 y2 y3 y4; have y0 : w2.cell? ⟨t, 0, none⟩ = some lh := H.out.cell 0)
    | (at_builtin; refine append1 rfl (.tmp 31) (.tmp 33) 30 22 (.int .u64 0) 8 rfl Tryd.underlying30 info22 rfl (by decide) _ _ _ _ rfl rfl rfl (H.out.pick 1 rfl) ?hl ?_; rotate_left; intro A1 c1 w5 hc1 h5; replace H := Aside.mk (((h5.pick 1 rfl).put 0 (.slice A1 (hist.length + 1) c1) rfl)); have y0 := (h5.pick 1 rfl).cell 0; have f0 := (h5.pick 1 rfl).frozen 0; clear h5))
  case hl => have := HX.out; omega
  go_end0
  refine ⟨rfl, lv1, .slice A1 hist2.length c1, ?_⟩
  have e1 : U hist2 = U hist ++ [.int .u64 v] := by rw [HH.out]; simp [U]
  have e2 : hist2.length = hist.length + 1 := by rw [HH.out]; simp
  rw [← e2]
  have h9 := H.out
  rw [← e1, ← e2] at h9
  exact h9
end Go.Proofs.YtelfiegocdjnoaaDoor.Ar
