/- A sweep's steps: the first, the second and the last one. Conditions: the arena's port has a grant; the plan is right; the page is one of its pages. -/
import Derived.Test.YtelfiegocdjnoaaDoorSw1
import Derived.Test.YtelfiegocdjnoaaDoorStp
import Derived.Test.YtelfiegocdjnoaaDoorHe2
import Derived.Test.YtelfiegocdjnoaaDoorMrF0
namespace Go.Proofs.YtelfiegocdjnoaaDoor.Ar
open Go Go.RowKit Go.Proofs.YtelfiegocdjnoaaDoor.Sep Go.Proofs.YtelfiegocdjnoaaDoor.Pg Go.Proofs.YtelfiegocdjnoaaDoorW.PrintWords Go.Proofs.YtelfiegocdjnoaaDoorW.PrintLast Go.Proofs.YtelfiegocdjnoaaDoorW.PrintMore Go.Proofs.YtelfiegocdjnoaaDoor.Q
set_option linter.unusedVariables false
set_option linter.unusedSimpArgs false
set_option maxHeartbeats 8000000
set_option maxRecDepth 100000
variable {w0 w : World} {F : List HP} {a gC p s : Nat} {lv : Value} {l : List Acc} {cn fl who : Int} {X : List Int} {x : Sw}
/-- What a sweep finds in its page's entry. -/
def Sw.look (x : Sw) (v : Int) : Sw :=
  let d := dec v
  let y : Sw := { x with was := v, k := d.1, c := d.2.1, st := d.2.2.1, o := d.2.2.2.1, y := d.2.2.2.2.1, at_ := 1 }
  if d.2.2.2.2.2 = 0 ∧ y.due = true then y else { y with block := decide (d.2.2.2.2.2 = 0 ∧ d.2.2.1 = 2 ∧ d.2.2.2.2.1 < x.cyc), at_ := 8 }
theorem back2_ {P Q : HP} {L R : List HP} {w0 w : World} (h : St w0 w (P :: Q :: (L ++ R))) : St w0 w (L ++ P :: Q :: R) := by
  refine h.perm ?_
  have h1 : (P :: Q :: (L ++ R)).Perm (P :: (L ++ Q :: R)) := (List.perm_middle.symm).cons P
  exact h1.trans List.perm_middle.symm
theorem dec_isE {v k c st o y f : Int} (h : dec v = (k, c, st, o, y, f)) : (f = 0 ∧ isE k c st o y = true) ∨ f = 4 := by
  unfold dec at h
  simp only at h
  split at h
  · rename_i h1
    simp only [Prod.mk.injEq] at h
    obtain ⟨rfl, rfl, rfl, rfl, rfl, rfl⟩ := h
    exact .inl ⟨rfl, h1.1⟩
  · simp only [Prod.mk.injEq] at h
    exact .inr h.2.2.2.2.2.symm
theorem look_err {v k c st o y : Int} (h : dec v = (k, c, st, o, y, 4)) : x.look v = { x with was := v, k := k, c := c, st := st, o := o, y := y, block := false, at_ := 8 } := by
  unfold Sw.look
  rw [h]
  rfl
theorem look_due {v k c st o y : Int} (h : dec v = (k, c, st, o, y, 0)) (hd : Sw.due { x with was := v, k := k, c := c, st := st, o := o, y := y, at_ := 1 } = true) : x.look v = { x with was := v, k := k, c := c, st := st, o := o, y := y, at_ := 1 } := by
  unfold Sw.look
  rw [h]
  exact if_pos ⟨rfl, hd⟩
theorem look_no {v k c st o y : Int} (h : dec v = (k, c, st, o, y, 0)) (hd : Sw.due { x with was := v, k := k, c := c, st := st, o := o, y := y, at_ := 1 } = false) : x.look v = { x with was := v, k := k, c := c, st := st, o := o, y := y, block := decide (st = 2 ∧ y < x.cyc), at_ := 8 } := by
  have e : Sw.look x v = { x with was := v, k := k, c := c, st := st, o := o, y := y, block := decide ((0 : Int) = 0 ∧ st = 2 ∧ y < x.cyc), at_ := 8 } := by
    unfold Sw.look
    rw [h]
    exact if_neg (fun hh => by have h2 : Sw.due { x with was := v, k := k, c := c, st := st, o := o, y := y, at_ := 1 } = true := hh.2; rw [hd] at h2; cases h2)
  rw [e]
  simp only [true_and]
theorem look_no0 {v k c st o y : Int} (h : dec v = (k, c, st, o, y, 0)) (hd : Sw.due { x with was := v, k := k, c := c, st := st, o := o, y := y, at_ := 1 } = false) (hs : st ≠ 2) : x.look v = { x with was := v, k := k, c := c, st := st, o := o, y := y, block := false, at_ := 8 } := by
  rw [look_no h hd, decide_eq_false (fun hh => hs hh.1)]
theorem look_no2 {v k c st o y : Int} (h : dec v = (k, c, st, o, y, 0)) (hd : Sw.due { x with was := v, k := k, c := c, st := st, o := o, y := y, at_ := 1 } = false) (hs : st = 2) : x.look v = { x with was := v, k := k, c := c, st := st, o := o, y := y, block := decide (y < x.cyc), at_ := 8 } := by
  rw [look_no h hd]
  simp only [hs, true_and]
def sw.T7 : Bool × List (List Nat × List Nat) := (true, [([], []), ([], []), ([], []), ([2], [2]), ([3], [3]), ([4], [4]), ([], []), ([6], [6]), ([7], [7]), ([8], [8]), ([5, 9], [5, 9]), ([1, 10, 10], [1, 10]), ([0, 0, 1, 2, 3, 4, 5, 6, 7, 8, 9, 10, 11], [0]), ([12, 0, 1, 2, 3, 4, 5, 6, 7, 8, 9, 10, 11], [12]), ([13, 11, 11, 0, 1, 2, 3, 4, 5, 6, 7, 8, 9, 10, 11], [11, 13])])
def sw.B7 : List Nat := [0, 0, 0, 4, 12, 28, 0, 64, 192, 448, 1020, 2046, 4095, 8191, 16383]
theorem sw.tab7 : rtab .any (opsOf Tryd.f112 7) = sw.T7 := by kernel_rfl
theorem sw.bits7 : waitsOk sw.T7.2 sw.B7 = true := by kernel_rfl
def sw.T11 : Bool × List (List Nat × List Nat) := (true, [([], []), ([], []), ([1], [1]), ([2], [2]), ([3], [3]), ([4, 3], [3, 4]), ([5, 3], [3, 5]), ([3, 6], [3, 6]), ([7, 3], [7]), ([8], [8]), ([9, 8], [8, 9]), ([8], [8]), ([11, 8], [8, 11]), ([12, 8], [8, 12]), ([13, 8], [8, 13]), ([10, 14, 8], [8, 10, 14]), ([8, 15], [8, 15]), ([0, 0, 1, 2, 3, 4, 5, 6, 7, 8, 9, 10, 11, 12, 13, 14, 15, 16], [0]), ([17, 0, 1, 2, 3, 4, 5, 6, 7, 8, 9, 10, 11, 12, 13, 14, 15, 16], [17]), ([18, 16, 8, 0, 1, 2, 3, 4, 5, 6, 7, 8, 9, 10, 11, 12, 13, 14, 15, 16], [16, 18])])
def sw.B11 : List Nat := [0, 0, 2, 6, 14, 30, 62, 126, 254, 510, 1022, 510, 2558, 6654, 14846, 32766, 65534, 131071, 262143, 524287]
theorem sw.tab11 : rtab .any (opsOf Tryd.f112 11) = sw.T11 := by kernel_rfl
theorem sw.bits11 : waitsOk sw.T11.2 sw.B11 = true := by kernel_rfl
theorem lookA {P T page : Nat} (hp : Pl P T page x) (hat : x.at_ = 0) (hX : X.length = 128 + 64 * P) (hl : l.length ≤ 100000) (hc0 : 0 ≤ cn) (hc1 : cn ≤ 100000) {dk dc ds d_o dy df : Int} (hd : dec (X.getD (adr P T 0 page) 0) = (dk, dc, ds, d_o, dy, df)) (hv0 : 0 ≤ X.getD (adr P T 0 page) 0) (hv1 : X.getD (adr P T 0 page) 0 < 18446744073709551616) (hf : df = 4) (h : St w0 w (Are p a gC who true X lv l cn fl ++ swB s x :: F)) :
    Calls Tryd.prog 112 #[swP s, .pointer (some ⟨p, 0, none⟩)] w fun e w' => ∃ lv', e = .returned (.bool true) ∧ St w0 w' (Are p a gC who false X lv' (l ++ [⟨who, 1, adr P T 0 page, 0, 0, X.getD (adr P T 0 page) 0, X.getD (adr P T 0 page) 0⟩]) (cn + 1) fl ++ swB s (x.look (X.getD (adr P T 0 page) 0)) :: F) := by
  subst hf
  rw [look_err hd]
  have hE := ent_ hp page hp.hi
  rw [← hp.pg] at hE
  have HE := Aside.mk hE
  have HDEC := Aside.mk (fun w => dec_ci hv0 hv1 hd w)
  have hi : adr P T 0 page < X.length := by rw [hX]; exact adr_lt hp.hP hp.hT hp.hi (by decide)
  have HPG := Aside.mk (show 0 ≤ x.page ∧ x.page ≤ 10000 by rw [hp.pg]; have := hp.hi; have := hp.hP; omega)
  generalize hi0 : adr P T 0 page = i at HE HDEC hi ⊢
  have HX := Aside.mk (show X.length ≤ 4096 by have := hp.hP; omega)
  have HL := Aside.mk (show l.length ≤ 1000000 by omega)
  have HC := Aside.mk (show cn ≤ 1000000 by omega)
  have HI := Aside.mk hi
  have H0 := Aside.mk hc0
  have x0 : w.cell? ⟨s, 0, none⟩ = some (.int .i64 x.pp) := (h.pick 4 rfl).cell 0
  have x1 : w.cell? ⟨s, 1, none⟩ = some (.int .i64 x.pt) := (h.pick 4 rfl).cell 1
  have x2 : w.cell? ⟨s, 2, none⟩ = some (.int .i64 x.pr) := (h.pick 4 rfl).cell 2
  have x5 : w.cell? ⟨s, 5, none⟩ = some (.int .i64 x.page) := (h.pick 4 rfl).cell 5
  have x6 : w.cell? ⟨s, 6, none⟩ = some (.int .i64 x.at_) := (h.pick 4 rfl).cell 6
  rw [hat] at x6
  have H := Aside.mk h
  clear h hp hat hi0 hi hX hl hc0 hc1 hE hd hv0 hv1
  have HV : ∃ v, v = X.getD i 0 := ⟨_, rfl⟩
  obtain ⟨v, hv⟩ := HV
  have hload := fun (w : World) (h : St w0 w (Are p a gC who true X lv l cn fl ++ swB s x :: F)) => load_ i HI.out HX.out HL.out H0.out HC.out h
  rw [← hv] at hload HDEC ⊢
  replace hload := Aside.mk hload
  clear hv
  go_enter Tryd.func112, Tryd.ntmps112
  go_wp2_with (go_at_call 76; refine (open_ H.out).mono ?_; rintro e w1 ⟨rfl, rfl⟩)
  replace H := Aside.mk H.out.drew
  refine start_ (n := 15) (S := fun w' => w'.cell? ⟨s, 0, none⟩ = some (.int .i64 x.pp) ∧ w'.cell? ⟨s, 1, none⟩ = some (.int .i64 x.pt) ∧ w'.cell? ⟨s, 2, none⟩ = some (.int .i64 x.pr) ∧ w'.cell? ⟨s, 5, none⟩ = some (.int .i64 x.page)) (ds := []) (flg 15 0) (by kernel_rfl) rfl rfl (⟨(H.out.pick 4 rfl).cell 0, (H.out.pick 4 rfl).cell 1, (H.out.pick 4 rfl).cell 2, (H.out.pick 4 rfl).cell 5⟩) (fun hHeld => ?_)
  refine with_tabW sw.tab7 sw.bits7 (fun HT_ HW_ => ?_)
  refine pu_ (v := ?_) (a' := ?_) 0 (some 28) 1 rfl rfl HT_ (by kernel_rfl) (.inl ⟨by rfl, ?_⟩) ?_ ?_; rotate_left 2; (· intro w'; go_simp; with_reducible rfl); (· simp only [nrm]; rfl)
  refine pu_ (v := ?_) (a' := ?_) 1 (some 29) 3 rfl rfl HT_ (by kernel_rfl) (.inl ⟨by rfl, ?_⟩) ?_ ?_; rotate_left 2; (· intro w'; go_simp; with_reducible rfl); (· simp only [nrm]; rfl)
  refine pu_ (v := ?_) (a' := ?_) 2 (some 30) 7 rfl rfl HT_ (by kernel_rfl) (.inl ⟨by rfl, ?_⟩) ?_ ?_; rotate_left 2; (· intro w'; go_simp; with_reducible rfl); (· simp only [nrm]; rfl)
  refine pu_ (v := ?_) (a' := ?_) 3 (some 31) 15 rfl rfl HT_ (by kernel_rfl) (.inl ⟨by rfl, ?_⟩) ?_ ?_; rotate_left 2; (· intro w'; go_simp; with_reducible rfl); (· simp only [nrm]; rfl)
  refine pu_ (v := ?_) (a' := ?_) 4 (some 32) 31 rfl rfl HT_ (by kernel_rfl) (.inl ⟨by rfl, ?_⟩) ?_ ?_; rotate_left 2; (· intro w'; go_simp; with_reducible rfl); (· simp only [nrm]; rfl)
  refine tk_ (v := ?_) (a' := ?_) 5 (some 33) 63 rfl rfl HT_ HW_ (by kernel_rfl) (.inl ⟨by rfl, ?_⟩) hHeld ?_ ?_; rotate_left 2; (· rintro w' ⟨_, _, _, _⟩; go_simp; with_reducible rfl); (· simp only [nrm]; rfl)
  refine pu_ (v := ?_) (a' := ?_) 6 (some 34) 127 rfl rfl HT_ (by kernel_rfl) (.inl ⟨by rfl, ?_⟩) ?_ ?_; rotate_left 2; (· intro w'; go_simp; with_reducible rfl); (· simp only [nrm]; rfl)
  refine pu_ (v := ?_) (a' := ?_) 7 (some 35) 255 rfl rfl HT_ (by kernel_rfl) (.inl ⟨by rfl, ?_⟩) ?_ ?_; rotate_left 2; (· intro w'; go_simp; with_reducible rfl); (· simp only [nrm]; rfl)
  refine pu_ (v := ?_) (a' := ?_) 8 (some 36) 511 rfl rfl HT_ (by kernel_rfl) (.inl ⟨by rfl, ?_⟩) ?_ ?_; rotate_left 2; (· intro w'; go_simp; with_reducible rfl); (· simp only [nrm]; rfl)
  refine tk_ (v := ?_) (a' := ?_) 9 (some 37) 1023 rfl rfl HT_ HW_ (by kernel_rfl) (.inl ⟨by rfl, ?_⟩) hHeld ?_ ?_; rotate_left 2; (· rintro w' ⟨_, _, _, _⟩; go_simp; with_reducible rfl); (· simp only [nrm]; rfl)
  refine on_ 10 (some 38) 2047 rfl rfl HT_ (by kernel_rfl) (by decide) (fun K hK => ?_)
  refine goes_ Tryd.func85 (by kernel_rfl) rfl #[.agg #[.int .i64 x.pp, .int .i64 x.pt, .int .i64 x.pr], .int .i64 x.page] (by rfl) rfl rfl (by (try simp only [List.map_toArray, List.map_cons, List.map_nil]); first | done | rfl) ?_
  refine (layout_Plan_Entry.calls _ _ _ _ _ _ HE.out).mono ?_
  rintro e w2 ⟨rfl, hb⟩
  replace H := Aside.mk (H.out.step hb)
  clear hb
  refine ⟨_, rfl, ?_⟩
  refine hK.out _ _ ⟨(H.out.pick 4 rfl).cell 0, (H.out.pick 4 rfl).cell 1, (H.out.pick 4 rfl).cell 2, (H.out.pick 4 rfl).cell 5⟩ (fun hHeld => ?_)
  clear hK K
  refine norm_ (a' := ?_) ?_ ?_
  rotate_left
  · show Act.put _ (some 38) _ = _
    simp only [nrm]
    rfl
  refine on_ 11 (some 39) 4095 rfl rfl HT_ (by kernel_rfl) (by decide) (fun K hK => ?_)
  refine goes_ Tryd.func122 (by kernel_rfl) rfl #[.pointer (some ⟨p, 0, none⟩), .int .i64 i] (by rfl) rfl rfl (by (try simp only [List.map_toArray, List.map_cons, List.map_nil]); first | done | rfl) ?_
  refine (hload.out _ H.out).mono ?_
  rintro e w3 ⟨lv1, rfl, h1⟩
  replace H := Aside.mk h1
  clear h1
  refine ⟨_, rfl, ?_⟩
  refine hK.out _ _ ⟨(H.out.pick 4 rfl).cell 0, (H.out.pick 4 rfl).cell 1, (H.out.pick 4 rfl).cell 2, (H.out.pick 4 rfl).cell 5⟩ (fun hHeld => ?_)
  clear hK K
  refine norm_ (a' := ?_) ?_ ?_
  rotate_left
  · show Act.put _ (some 39) _ = _
    simp only [nrm]
    rfl
  refine pu_ (v := ?_) (a' := ?_) 12 (some 40) 8191 rfl rfl HT_ (by kernel_rfl) (.inl ⟨by rfl, ?_⟩) ?_ ?_; rotate_left 2; (· intro w'; go_simp; with_reducible rfl); (· simp only [nrm]; rfl)
  refine pu_ (v := ?_) (a' := ?_) 13 (some 41) 16383 rfl rfl HT_ (by kernel_rfl) (.inl ⟨by rfl, ?_⟩) ?_ ?_; rotate_left 2; (· intro w'; go_simp; with_reducible rfl); (· simp only [nrm]; rfl)
  refine on_ 14 (none) 32767 rfl rfl HT_ (by kernel_rfl) (by decide) (fun K hK => ?_)
  have k1 := (H.out.pick 4 rfl).cell 12
  have kf := (H.out.pick 4 rfl).frozen 12
  refine skip_ (w1 := ?_) (by rfl) rfl ?_ ?_
  rotate_left
  · go_simp
    rfl
  replace H := Aside.mk (back_ (L := Are p a gC who false X lv1 (l ++ [⟨who, 1, i, 0, 0, v, v⟩]) (cn + 1) fl) (R := F) ((H.out.pick 4 rfl).put 12 (.int .u64 v) rfl))
  clear k1 kf
  refine hK.out _ _ ⟨(H.out.pick 4 rfl).cell 0, (H.out.pick 4 rfl).cell 1, (H.out.pick 4 rfl).cell 2, (H.out.pick 4 rfl).cell 5⟩ (fun hHeld => ?_)
  clear hK K
  refine done_ (done_of HT_.out (by kernel_rfl)) ?_
  clear HT_ HW_ hHeld
  have x12 := (H.out.pick 4 rfl).cell 12
  generalize World.setCell _ _ _ = w4_ at H x12 ⊢
  replace H : Aside (St w0 w4_ (Are p a gC who false X lv1 (l ++ [⟨who, 1, i, 0, 0, v, v⟩]) (cn + 1) fl ++ swB s ({ x with was := v } : Sw) :: F)) := H
  go_wp2_with (first
    | (go_at_call 86; refine (HDEC.out _).mono ?_; rintro e w5 ⟨rfl, hb⟩; replace H := Aside.mk (H.out.step hb); clear hb x12)
    | (with_reducible refine stop_at (.store 168 (.tmp 54) (.tmp 52)) rfl ?_))
  refine ⟨?_⟩
  refine st_store rfl rfl rfl [.int .i64 dk, .int .i64 dc, .int .i64 ds, .int .i64 d_o, .int .i64 dy] (({ x with was := v, k := dk, c := dc, st := ds, o := d_o, y := dy } : Sw)).cells rfl rfl rfl (Nat.le_of_ble_eq_true rfl) (by simp [Value.oneCell']) ((H.out.alloc [.int .i64 dk, .int .i64 dc, .int .i64 ds, .int .i64 d_o, .int .i64 dy].toArray 168).pick 5 rfl) rfl ?_
  intro w6 h6
  replace H : Aside (St w0 w6 (Are p a gC who false X lv1 (l ++ [⟨who, 1, i, 0, 0, v, v⟩]) (cn + 1) fl ++ swB s ({ x with was := v, k := dk, c := dc, st := ds, o := d_o, y := dy } : Sw) :: blk w5.heap.size [.int .i64 dk, .int .i64 dc, .int .i64 ds, .int .i64 d_o, .int .i64 dy].toArray 168 :: F)) := Aside.mk (back2_ h6)
  clear h6
  have z6 := (H.out.pick 4 rfl).cell 6
  have f6 := (H.out.pick 4 rfl).frozen 6
  go_wp2_with fail
  clear z6 f6
  have z6 := (H.out.pick 4 rfl).cell 6
  have f6 := (H.out.pick 4 rfl).frozen 6
  replace H : Aside (St w0 (World.drew _) (Are p a gC who false X lv1 (l ++ [⟨who, 1, i, 0, 0, v, v⟩]) (cn + 1) fl ++ swB s ({ x with was := v, k := dk, c := dc, st := ds, o := d_o, y := dy, at_ := 1 } : Sw) :: blk w5.heap.size [.int .i64 dk, .int .i64 dc, .int .i64 ds, .int .i64 d_o, .int .i64 dy].toArray 168 :: F)) := Aside.mk (back_ (L := Are p a gC who false X lv1 (l ++ [⟨who, 1, i, 0, 0, v, v⟩]) (cn + 1) fl) ((H.out.pick 4 rfl).put 6 (.int .i64 1) rfl)).drew
  refine start_ (n := 20) (S := fun w' => w'.cell? ⟨s, 4, none⟩ = some (.int .i64 x.cyc) ∧ w'.cell? ⟨w5.heap.size, 2, none⟩ = some (.int .i64 ds) ∧ w'.cell? ⟨w5.heap.size, 4, none⟩ = some (.int .i64 dy)) (ds := []) (flg 20 0) (by kernel_rfl) rfl rfl (⟨(H.out.pick 4 rfl).cell 4, (H.out.pick 5 rfl).cell 2, (H.out.pick 5 rfl).cell 4⟩) (fun hHeld => ?_)
  refine with_tabW sw.tab11 sw.bits11 (fun HT_ HW_ => ?_)
  refine pu_ (v := ?_) (a' := ?_) 0 (some 64) 1 rfl rfl HT_ (by kernel_rfl) (.inl ⟨by rfl, ?_⟩) ?_ ?_; rotate_left 2; (· intro w'; go_simp; with_reducible rfl); (· simp only [nrm]; rfl)
  refine pu_ (v := ?_) (a' := ?_) 1 (some 65) 3 rfl rfl HT_ (by kernel_rfl) (.inl ⟨by rfl, ?_⟩) ?_ ?_; rotate_left 2; (· intro w'; go_simp; with_reducible rfl); (· simp only [nrm]; rfl)
  refine pu_ (v := ?_) (a' := ?_) 2 (some 66) 7 rfl rfl HT_ (by kernel_rfl) (.inl ⟨by rfl, ?_⟩) ?_ ?_; rotate_left 2; (· intro w'; go_simp; with_reducible rfl); (· simp only [nrm]; rfl)
  refine pu_ (v := ?_) (a' := ?_) 3 (some 67) 15 rfl rfl HT_ (by kernel_rfl) (.inl ⟨by rfl, ?_⟩) ?_ ?_; rotate_left 2; (· intro w'; go_simp; with_reducible rfl); (· simp only [nrm]; rfl)
  refine pure_ (i := 4) (N := some 68) (v := undef) (a' := ?_) (flg 20 31) rfl rfl (any_of HT_.out (by kernel_rfl)) (fun _ _ _ h => h) (Or.inr ⟨by rfl, rfl⟩) ?_ ?_
  rotate_left
  · simp only [nrm]
    rfl
  refine pure_ (i := 5) (N := some 69) (v := undef) (a' := ?_) (flg 20 63) rfl rfl (any_of HT_.out (by kernel_rfl)) (fun _ _ _ h => h) (Or.inr ⟨by rfl, rfl⟩) ?_ ?_
  rotate_left
  · simp only [nrm]
    rfl
  refine pure_ (i := 6) (N := some 70) (v := undef) (a' := ?_) (flg 20 127) rfl rfl (any_of HT_.out (by kernel_rfl)) (fun _ _ _ h => h) (Or.inr ⟨by rfl, rfl⟩) ?_ ?_
  rotate_left
  · simp only [nrm]
    rfl
  refine pu_ (v := ?_) (a' := ?_) 7 (some 71) 255 rfl rfl HT_ (by kernel_rfl) (.inl ⟨by rfl, ?_⟩) ?_ ?_; rotate_left 2; (· intro w'; go_simp; with_reducible rfl); (· simp only [nrm]; rfl)
  refine pu_ (v := ?_) (a' := ?_) 8 (some 72) 511 rfl rfl HT_ (by kernel_rfl) (.inl ⟨by rfl, ?_⟩) ?_ ?_; rotate_left 2; (· intro w'; go_simp; with_reducible rfl); (· simp only [nrm]; rfl)
  refine pure_ (i := 9) (N := some 73) (v := undef) (a' := ?_) (flg 20 1023) rfl rfl (any_of HT_.out (by kernel_rfl)) (fun _ _ _ h => h) (Or.inr ⟨by rfl, rfl⟩) ?_ ?_
  rotate_left
  · simp only [nrm]
    rfl
  refine pure_ (i := 10) (N := some 74) (v := undef) (a' := ?_) (flg 20 2047) rfl rfl (any_of HT_.out (by kernel_rfl)) (fun _ _ _ h => h) (Or.inr ⟨by rfl, rfl⟩) ?_ ?_
  rotate_left
  · simp only [nrm]
    rfl
  refine pure_ (i := 11) (N := some 75) (v := undef) (a' := ?_) (flg 20 4095) rfl rfl (any_of HT_.out (by kernel_rfl)) (fun _ _ _ h => h) (Or.inr ⟨by rfl, rfl⟩) ?_ ?_
  rotate_left
  · simp only [nrm]
    rfl
  refine pure_ (i := 12) (N := some 76) (v := undef) (a' := ?_) (flg 20 8191) rfl rfl (any_of HT_.out (by kernel_rfl)) (fun _ _ _ h => h) (Or.inr ⟨by rfl, rfl⟩) ?_ ?_
  rotate_left
  · simp only [nrm]
    rfl
  refine pure_ (i := 13) (N := some 77) (v := undef) (a' := ?_) (flg 20 16383) rfl rfl (any_of HT_.out (by kernel_rfl)) (fun _ _ _ h => h) (Or.inr ⟨by rfl, rfl⟩) ?_ ?_
  rotate_left
  · simp only [nrm]
    rfl
  refine pure_ (i := 14) (N := some 78) (v := undef) (a' := ?_) (flg 20 32767) rfl rfl (any_of HT_.out (by kernel_rfl)) (fun _ _ _ h => h) (Or.inr ⟨by rfl, rfl⟩) ?_ ?_
  rotate_left
  · simp only [nrm]
    rfl
  refine pure_ (i := 15) (N := some 79) (v := undef) (a' := ?_) (flg 20 65535) rfl rfl (any_of HT_.out (by kernel_rfl)) (fun _ _ _ h => h) (Or.inr ⟨by rfl, rfl⟩) ?_ ?_
  rotate_left
  · simp only [nrm]
    rfl
  refine pu_ (v := ?_) (a' := ?_) 16 (some 80) 131071 rfl rfl HT_ (by kernel_rfl) (.inl ⟨by rfl, ?_⟩) ?_ ?_; rotate_left 2; (· intro w'; go_simp; with_reducible rfl); (· simp only [nrm]; rfl)
  refine pu_ (v := ?_) (a' := ?_) 17 (some 81) 262143 rfl rfl HT_ (by kernel_rfl) (.inl ⟨by rfl, ?_⟩) ?_ ?_; rotate_left 2; (· intro w'; go_simp; with_reducible rfl); (· simp only [nrm]; rfl)
  refine pu_ (v := ?_) (a' := ?_) 18 (some 82) 524287 rfl rfl HT_ (by kernel_rfl) (.inl ⟨by rfl, ?_⟩) ?_ ?_; rotate_left 2; (· intro w'; go_simp; with_reducible rfl); (· simp only [nrm]; rfl)
  refine on_ 19 (none) 1048575 rfl rfl HT_ (by kernel_rfl) (by decide) (fun K hK => ?_)
  refine skip_ (by rfl) rfl (st_run_store (seg := [.bool (false)]) rfl rfl rfl rfl (Nat.le_of_ble_eq_true rfl) (by simp [Value.oneCell']) (H.out.pick 4 rfl)) ?_
  have h8 := (H.out.pick 4 rfl).setCells 19 [.bool (false)] (Nat.le_of_ble_eq_true rfl)
  generalize World.setCells _ _ _ _ = w8 at h8 ⊢
  replace H : Aside (St w0 w8 (Are p a gC who false X lv1 (l ++ [⟨who, 1, i, 0, 0, v, v⟩]) (cn + 1) fl ++ swB s ({ x with was := v, k := dk, c := dc, st := ds, o := d_o, y := dy, at_ := 1, block := false } : Sw) :: blk w5.heap.size [.int .i64 dk, .int .i64 dc, .int .i64 ds, .int .i64 d_o, .int .i64 dy].toArray 168 :: F)) := Aside.mk (back_ (L := Are p a gC who false X lv1 (l ++ [⟨who, 1, i, 0, 0, v, v⟩]) (cn + 1) fl) h8)
  clear h8
  refine hK.out _ _ ⟨(H.out.pick 4 rfl).cell 4, (H.out.pick 5 rfl).cell 2, (H.out.pick 5 rfl).cell 4⟩ (fun hHeld => ?_)
  clear hK K
  refine done_ (done_of HT_.out (by kernel_rfl)) ?_
  clear HT_ HW_ hHeld
  have z6 := (H.out.pick 4 rfl).cell 6
  have f6 := (H.out.pick 4 rfl).frozen 6
  go_wp2
  go_ret
  refine ⟨lv1, rfl, ?_⟩
  have H9 := (H.out.pick 4 rfl).put 6 (.int .i64 8) rfl
  exact back_ (L := Are p a gC who false X lv1 (l ++ [⟨who, 1, i, 0, 0, v, v⟩]) (cn + 1) fl) (H9.pick 5 rfl).rest
theorem lookB {P T page : Nat} (hp : Pl P T page x) (hat : x.at_ = 0) (hX : X.length = 128 + 64 * P) (hl : l.length ≤ 100000) (hc0 : 0 ≤ cn) (hc1 : cn ≤ 100000) {dk dc ds d_o dy df : Int} (hd : dec (X.getD (adr P T 0 page) 0) = (dk, dc, ds, d_o, dy, df)) (hv0 : 0 ≤ X.getD (adr P T 0 page) 0) (hv1 : X.getD (adr P T 0 page) 0 < 18446744073709551616) (hf : df = 0) (hdu : Sw.due ({ x with was := X.getD (adr P T 0 page) 0, k := dk, c := dc, st := ds, o := d_o, y := dy, at_ := 1 } : Sw) = false) (hds : ds ≠ 2) (h : St w0 w (Are p a gC who true X lv l cn fl ++ swB s x :: F)) :
    Calls Tryd.prog 112 #[swP s, .pointer (some ⟨p, 0, none⟩)] w fun e w' => ∃ lv', e = .returned (.bool true) ∧ St w0 w' (Are p a gC who false X lv' (l ++ [⟨who, 1, adr P T 0 page, 0, 0, X.getD (adr P T 0 page) 0, X.getD (adr P T 0 page) 0⟩]) (cn + 1) fl ++ swB s (x.look (X.getD (adr P T 0 page) 0)) :: F) := by
  subst hf
  have HIE := Aside.mk (show isE dk dc ds d_o dy = true by rcases dec_isE hd with h | h <;> first | exact h.2 | exact absurd h (by decide))
  have HDU := Aside.mk (show Sw.due ({ x with was := X.getD (adr P T 0 page) 0, k := dk, c := dc, st := ds, o := d_o, y := dy, at_ := 1 } : Sw) = false from hdu)
  rw [look_no0 hd hdu hds]
  clear hdu
  replace hds : (ds == 2) = false := by simpa using hds
  have hE := ent_ hp page hp.hi
  rw [← hp.pg] at hE
  have HE := Aside.mk hE
  have HDEC := Aside.mk (fun w => dec_ci hv0 hv1 hd w)
  have hi : adr P T 0 page < X.length := by rw [hX]; exact adr_lt hp.hP hp.hT hp.hi (by decide)
  have HPG := Aside.mk (show 0 ≤ x.page ∧ x.page ≤ 10000 by rw [hp.pg]; have := hp.hi; have := hp.hP; omega)
  generalize hi0 : adr P T 0 page = i at HE HDEC hi ⊢
  have HX := Aside.mk (show X.length ≤ 4096 by have := hp.hP; omega)
  have HL := Aside.mk (show l.length ≤ 1000000 by omega)
  have HC := Aside.mk (show cn ≤ 1000000 by omega)
  have HI := Aside.mk hi
  have H0 := Aside.mk hc0
  have x0 : w.cell? ⟨s, 0, none⟩ = some (.int .i64 x.pp) := (h.pick 4 rfl).cell 0
  have x1 : w.cell? ⟨s, 1, none⟩ = some (.int .i64 x.pt) := (h.pick 4 rfl).cell 1
  have x2 : w.cell? ⟨s, 2, none⟩ = some (.int .i64 x.pr) := (h.pick 4 rfl).cell 2
  have x5 : w.cell? ⟨s, 5, none⟩ = some (.int .i64 x.page) := (h.pick 4 rfl).cell 5
  have x6 : w.cell? ⟨s, 6, none⟩ = some (.int .i64 x.at_) := (h.pick 4 rfl).cell 6
  rw [hat] at x6
  have H := Aside.mk h
  clear h hp hat hi0 hi hX hl hc0 hc1 hE hd hv0 hv1
  have HV : ∃ v, v = X.getD i 0 := ⟨_, rfl⟩
  obtain ⟨v, hv⟩ := HV
  have hload := fun (w : World) (h : St w0 w (Are p a gC who true X lv l cn fl ++ swB s x :: F)) => load_ i HI.out HX.out HL.out H0.out HC.out h
  rw [← hv] at hload HDEC ⊢
  replace hload := Aside.mk hload
  clear hv
  go_enter Tryd.func112, Tryd.ntmps112
  go_wp2_with (go_at_call 76; refine (open_ H.out).mono ?_; rintro e w1 ⟨rfl, rfl⟩)
  replace H := Aside.mk H.out.drew
  refine start_ (n := 15) (S := fun w' => w'.cell? ⟨s, 0, none⟩ = some (.int .i64 x.pp) ∧ w'.cell? ⟨s, 1, none⟩ = some (.int .i64 x.pt) ∧ w'.cell? ⟨s, 2, none⟩ = some (.int .i64 x.pr) ∧ w'.cell? ⟨s, 5, none⟩ = some (.int .i64 x.page)) (ds := []) (flg 15 0) (by kernel_rfl) rfl rfl (⟨(H.out.pick 4 rfl).cell 0, (H.out.pick 4 rfl).cell 1, (H.out.pick 4 rfl).cell 2, (H.out.pick 4 rfl).cell 5⟩) (fun hHeld => ?_)
  refine with_tabW sw.tab7 sw.bits7 (fun HT_ HW_ => ?_)
  refine pu_ (v := ?_) (a' := ?_) 0 (some 28) 1 rfl rfl HT_ (by kernel_rfl) (.inl ⟨by rfl, ?_⟩) ?_ ?_; rotate_left 2; (· intro w'; go_simp; with_reducible rfl); (· simp only [nrm]; rfl)
  refine pu_ (v := ?_) (a' := ?_) 1 (some 29) 3 rfl rfl HT_ (by kernel_rfl) (.inl ⟨by rfl, ?_⟩) ?_ ?_; rotate_left 2; (· intro w'; go_simp; with_reducible rfl); (· simp only [nrm]; rfl)
  refine pu_ (v := ?_) (a' := ?_) 2 (some 30) 7 rfl rfl HT_ (by kernel_rfl) (.inl ⟨by rfl, ?_⟩) ?_ ?_; rotate_left 2; (· intro w'; go_simp; with_reducible rfl); (· simp only [nrm]; rfl)
  refine pu_ (v := ?_) (a' := ?_) 3 (some 31) 15 rfl rfl HT_ (by kernel_rfl) (.inl ⟨by rfl, ?_⟩) ?_ ?_; rotate_left 2; (· intro w'; go_simp; with_reducible rfl); (· simp only [nrm]; rfl)
  refine pu_ (v := ?_) (a' := ?_) 4 (some 32) 31 rfl rfl HT_ (by kernel_rfl) (.inl ⟨by rfl, ?_⟩) ?_ ?_; rotate_left 2; (· intro w'; go_simp; with_reducible rfl); (· simp only [nrm]; rfl)
  refine tk_ (v := ?_) (a' := ?_) 5 (some 33) 63 rfl rfl HT_ HW_ (by kernel_rfl) (.inl ⟨by rfl, ?_⟩) hHeld ?_ ?_; rotate_left 2; (· rintro w' ⟨_, _, _, _⟩; go_simp; with_reducible rfl); (· simp only [nrm]; rfl)
  refine pu_ (v := ?_) (a' := ?_) 6 (some 34) 127 rfl rfl HT_ (by kernel_rfl) (.inl ⟨by rfl, ?_⟩) ?_ ?_; rotate_left 2; (· intro w'; go_simp; with_reducible rfl); (· simp only [nrm]; rfl)
  refine pu_ (v := ?_) (a' := ?_) 7 (some 35) 255 rfl rfl HT_ (by kernel_rfl) (.inl ⟨by rfl, ?_⟩) ?_ ?_; rotate_left 2; (· intro w'; go_simp; with_reducible rfl); (· simp only [nrm]; rfl)
  refine pu_ (v := ?_) (a' := ?_) 8 (some 36) 511 rfl rfl HT_ (by kernel_rfl) (.inl ⟨by rfl, ?_⟩) ?_ ?_; rotate_left 2; (· intro w'; go_simp; with_reducible rfl); (· simp only [nrm]; rfl)
  refine tk_ (v := ?_) (a' := ?_) 9 (some 37) 1023 rfl rfl HT_ HW_ (by kernel_rfl) (.inl ⟨by rfl, ?_⟩) hHeld ?_ ?_; rotate_left 2; (· rintro w' ⟨_, _, _, _⟩; go_simp; with_reducible rfl); (· simp only [nrm]; rfl)
  refine on_ 10 (some 38) 2047 rfl rfl HT_ (by kernel_rfl) (by decide) (fun K hK => ?_)
  refine goes_ Tryd.func85 (by kernel_rfl) rfl #[.agg #[.int .i64 x.pp, .int .i64 x.pt, .int .i64 x.pr], .int .i64 x.page] (by rfl) rfl rfl (by (try simp only [List.map_toArray, List.map_cons, List.map_nil]); first | done | rfl) ?_
  refine (layout_Plan_Entry.calls _ _ _ _ _ _ HE.out).mono ?_
  rintro e w2 ⟨rfl, hb⟩
  replace H := Aside.mk (H.out.step hb)
  clear hb
  refine ⟨_, rfl, ?_⟩
  refine hK.out _ _ ⟨(H.out.pick 4 rfl).cell 0, (H.out.pick 4 rfl).cell 1, (H.out.pick 4 rfl).cell 2, (H.out.pick 4 rfl).cell 5⟩ (fun hHeld => ?_)
  clear hK K
  refine norm_ (a' := ?_) ?_ ?_
  rotate_left
  · show Act.put _ (some 38) _ = _
    simp only [nrm]
    rfl
  refine on_ 11 (some 39) 4095 rfl rfl HT_ (by kernel_rfl) (by decide) (fun K hK => ?_)
  refine goes_ Tryd.func122 (by kernel_rfl) rfl #[.pointer (some ⟨p, 0, none⟩), .int .i64 i] (by rfl) rfl rfl (by (try simp only [List.map_toArray, List.map_cons, List.map_nil]); first | done | rfl) ?_
  refine (hload.out _ H.out).mono ?_
  rintro e w3 ⟨lv1, rfl, h1⟩
  replace H := Aside.mk h1
  clear h1
  refine ⟨_, rfl, ?_⟩
  refine hK.out _ _ ⟨(H.out.pick 4 rfl).cell 0, (H.out.pick 4 rfl).cell 1, (H.out.pick 4 rfl).cell 2, (H.out.pick 4 rfl).cell 5⟩ (fun hHeld => ?_)
  clear hK K
  refine norm_ (a' := ?_) ?_ ?_
  rotate_left
  · show Act.put _ (some 39) _ = _
    simp only [nrm]
    rfl
  refine pu_ (v := ?_) (a' := ?_) 12 (some 40) 8191 rfl rfl HT_ (by kernel_rfl) (.inl ⟨by rfl, ?_⟩) ?_ ?_; rotate_left 2; (· intro w'; go_simp; with_reducible rfl); (· simp only [nrm]; rfl)
  refine pu_ (v := ?_) (a' := ?_) 13 (some 41) 16383 rfl rfl HT_ (by kernel_rfl) (.inl ⟨by rfl, ?_⟩) ?_ ?_; rotate_left 2; (· intro w'; go_simp; with_reducible rfl); (· simp only [nrm]; rfl)
  refine on_ 14 (none) 32767 rfl rfl HT_ (by kernel_rfl) (by decide) (fun K hK => ?_)
  have k1 := (H.out.pick 4 rfl).cell 12
  have kf := (H.out.pick 4 rfl).frozen 12
  refine skip_ (w1 := ?_) (by rfl) rfl ?_ ?_
  rotate_left
  · go_simp
    rfl
  replace H := Aside.mk (back_ (L := Are p a gC who false X lv1 (l ++ [⟨who, 1, i, 0, 0, v, v⟩]) (cn + 1) fl) (R := F) ((H.out.pick 4 rfl).put 12 (.int .u64 v) rfl))
  clear k1 kf
  refine hK.out _ _ ⟨(H.out.pick 4 rfl).cell 0, (H.out.pick 4 rfl).cell 1, (H.out.pick 4 rfl).cell 2, (H.out.pick 4 rfl).cell 5⟩ (fun hHeld => ?_)
  clear hK K
  refine done_ (done_of HT_.out (by kernel_rfl)) ?_
  clear HT_ HW_ hHeld
  have x12 := (H.out.pick 4 rfl).cell 12
  generalize World.setCell _ _ _ = w4_ at H x12 ⊢
  replace H : Aside (St w0 w4_ (Are p a gC who false X lv1 (l ++ [⟨who, 1, i, 0, 0, v, v⟩]) (cn + 1) fl ++ swB s ({ x with was := v } : Sw) :: F)) := H
  go_wp2_with (first
    | (go_at_call 86; refine (HDEC.out _).mono ?_; rintro e w5 ⟨rfl, hb⟩; replace H := Aside.mk (H.out.step hb); clear hb x12)
    | (with_reducible refine stop_at (.store 168 (.tmp 54) (.tmp 52)) rfl ?_))
  refine ⟨?_⟩
  refine st_store rfl rfl rfl [.int .i64 dk, .int .i64 dc, .int .i64 ds, .int .i64 d_o, .int .i64 dy] (({ x with was := v, k := dk, c := dc, st := ds, o := d_o, y := dy } : Sw)).cells rfl rfl rfl (Nat.le_of_ble_eq_true rfl) (by simp [Value.oneCell']) ((H.out.alloc [.int .i64 dk, .int .i64 dc, .int .i64 ds, .int .i64 d_o, .int .i64 dy].toArray 168).pick 5 rfl) rfl ?_
  intro w6 h6
  replace H : Aside (St w0 w6 (Are p a gC who false X lv1 (l ++ [⟨who, 1, i, 0, 0, v, v⟩]) (cn + 1) fl ++ swB s ({ x with was := v, k := dk, c := dc, st := ds, o := d_o, y := dy } : Sw) :: blk w5.heap.size [.int .i64 dk, .int .i64 dc, .int .i64 ds, .int .i64 d_o, .int .i64 dy].toArray 168 :: F)) := Aside.mk (back2_ h6)
  clear h6
  have z6 := (H.out.pick 4 rfl).cell 6
  have f6 := (H.out.pick 4 rfl).frozen 6
  go_wp2_with (go_at_call 154; go_loud (refine (sdue_ (x := ({ x with was := v, k := dk, c := dc, st := ds, o := d_o, y := dy, at_ := 1 } : Sw)) HIE.out HPG.out ((H.out.pick 4 rfl).put 6 (.int .i64 1) rfl)).mono ?_); rintro e w7 ⟨he, h7⟩; replace he : e = .returned (.bool false) := he.trans (congrArg (fun b => Ending.returned (.bool b)) HDU.out); subst he; replace H : Aside (St w0 w7 (Are p a gC who false X lv1 (l ++ [⟨who, 1, i, 0, 0, v, v⟩]) (cn + 1) fl ++ swB s ({ x with was := v, k := dk, c := dc, st := ds, o := d_o, y := dy, at_ := 1 } : Sw) :: blk w5.heap.size [.int .i64 dk, .int .i64 dc, .int .i64 ds, .int .i64 d_o, .int .i64 dy].toArray 168 :: F)) := Aside.mk (back_ (L := Are p a gC who false X lv1 (l ++ [⟨who, 1, i, 0, 0, v, v⟩]) (cn + 1) fl) h7); clear h7 z6 f6)
  replace H : Aside (St w0 (World.drew _) (Are p a gC who false X lv1 (l ++ [⟨who, 1, i, 0, 0, v, v⟩]) (cn + 1) fl ++ swB s ({ x with was := v, k := dk, c := dc, st := ds, o := d_o, y := dy, at_ := 1 } : Sw) :: blk w5.heap.size [.int .i64 dk, .int .i64 dc, .int .i64 ds, .int .i64 d_o, .int .i64 dy].toArray 168 :: F)) := Aside.mk H.out.drew
  refine start_ (n := 20) (S := fun w' => w'.cell? ⟨s, 4, none⟩ = some (.int .i64 x.cyc) ∧ w'.cell? ⟨w5.heap.size, 2, none⟩ = some (.int .i64 ds) ∧ w'.cell? ⟨w5.heap.size, 4, none⟩ = some (.int .i64 dy)) (ds := []) (flg 20 0) (by kernel_rfl) rfl rfl (⟨(H.out.pick 4 rfl).cell 4, (H.out.pick 5 rfl).cell 2, (H.out.pick 5 rfl).cell 4⟩) (fun hHeld => ?_)
  refine with_tabW sw.tab11 sw.bits11 (fun HT_ HW_ => ?_)
  refine pu_ (v := ?_) (a' := ?_) 0 (some 64) 1 rfl rfl HT_ (by kernel_rfl) (.inl ⟨by rfl, ?_⟩) ?_ ?_; rotate_left 2; (· intro w'; go_simp; with_reducible rfl); (· simp only [nrm]; rfl)
  refine pu_ (v := ?_) (a' := ?_) 1 (some 65) 3 rfl rfl HT_ (by kernel_rfl) (.inl ⟨by rfl, ?_⟩) ?_ ?_; rotate_left 2; (· intro w'; go_simp; with_reducible rfl); (· simp only [nrm]; rfl)
  refine pu_ (v := ?_) (a' := ?_) 2 (some 66) 7 rfl rfl HT_ (by kernel_rfl) (.inl ⟨by rfl, ?_⟩) ?_ ?_; rotate_left 2; (· intro w'; go_simp; with_reducible rfl); (· simp only [nrm]; rfl)
  refine pu_ (v := ?_) (a' := ?_) 3 (some 67) 15 rfl rfl HT_ (by kernel_rfl) (.inl ⟨by rfl, ?_⟩) ?_ ?_; rotate_left 2; (· intro w'; go_simp; with_reducible rfl); (· simp only [nrm]; rfl)
  refine pu_ (v := ?_) (a' := ?_) 4 (some 68) 31 rfl rfl HT_ (by kernel_rfl) (.inl ⟨by rfl, ?_⟩) ?_ ?_; rotate_left 2; (· intro w'; go_simp; with_reducible rfl); (· simp only [nrm]; rfl)
  refine tk_ (v := ?_) (a' := ?_) 5 (some 69) 63 rfl rfl HT_ HW_ (by kernel_rfl) (.inl ⟨by rfl, ?_⟩) hHeld ?_ ?_; rotate_left 2; (· rintro w' ⟨_, _, _⟩; go_simp; with_reducible rfl); (· simp only [nrm]; rfl)
  refine pu_ (v := ?_) (a' := ?_) 6 (some 70) 127 rfl rfl HT_ (by kernel_rfl) (.inl ⟨by rfl, ?_⟩) ?_ ?_; rotate_left 2; (· intro w'; go_simp; with_reducible rfl); (· simp only [nrm]; rfl)
  refine pu_ (v := ?_) (a' := ?_) 7 (some 71) 255 rfl rfl HT_ (by kernel_rfl) (.inl ⟨by rfl, ?_⟩) ?_ ?_; rotate_left 2; (· intro w'; go_simp; with_reducible rfl); (· simp only [nrm]; rfl)
  refine pu_ (v := ?_) (a' := ?_) 8 (some 72) 511 rfl rfl HT_ (by kernel_rfl) (.inl ⟨by rfl, ?_⟩) ?_ ?_; rotate_left 2; (· intro w'; go_simp; with_reducible rfl); (· simp only [nrm]; rfl)
  refine pure_ (i := 9) (N := some 73) (v := undef) (a' := ?_) (flg 20 1023) rfl rfl (any_of HT_.out (by kernel_rfl)) (fun _ _ _ h => h) (Or.inr ⟨by rfl, rfl⟩) ?_ ?_
  rotate_left
  · simp only [nrm]
    rfl
  refine pure_ (i := 10) (N := some 74) (v := undef) (a' := ?_) (flg 20 2047) rfl rfl (any_of HT_.out (by kernel_rfl)) (fun _ _ _ h => h) (Or.inr ⟨by rfl, rfl⟩) ?_ ?_
  rotate_left
  · simp only [nrm]
    rfl
  refine pure_ (i := 11) (N := some 75) (v := undef) (a' := ?_) (flg 20 4095) rfl rfl (any_of HT_.out (by kernel_rfl)) (fun _ _ _ h => h) (Or.inr ⟨by rfl, rfl⟩) ?_ ?_
  rotate_left
  · simp only [nrm]
    rfl
  refine pure_ (i := 12) (N := some 76) (v := undef) (a' := ?_) (flg 20 8191) rfl rfl (any_of HT_.out (by kernel_rfl)) (fun _ _ _ h => h) (Or.inr ⟨by rfl, rfl⟩) ?_ ?_
  rotate_left
  · simp only [nrm]
    rfl
  refine pure_ (i := 13) (N := some 77) (v := undef) (a' := ?_) (flg 20 16383) rfl rfl (any_of HT_.out (by kernel_rfl)) (fun _ _ _ h => h) (Or.inr ⟨by rfl, rfl⟩) ?_ ?_
  rotate_left
  · simp only [nrm]
    rfl
  refine pure_ (i := 14) (N := some 78) (v := undef) (a' := ?_) (flg 20 32767) rfl rfl (any_of HT_.out (by kernel_rfl)) (fun _ _ _ h => h) (Or.inr ⟨by rfl, rfl⟩) ?_ ?_
  rotate_left
  · simp only [nrm]
    rfl
  refine pure_ (i := 15) (N := some 79) (v := undef) (a' := ?_) (flg 20 65535) rfl rfl (any_of HT_.out (by kernel_rfl)) (fun _ _ _ h => h) (Or.inr ⟨by rfl, rfl⟩) ?_ ?_
  rotate_left
  · simp only [nrm]
    rfl
  refine pu_ (v := ?_) (a' := ?_) 16 (some 80) 131071 rfl rfl HT_ (by kernel_rfl) (.inl ⟨by rfl, ?_⟩) ?_ ?_; rotate_left 2; (· intro w'; go_simp; with_reducible rfl); (· simp only [nrm]; rfl)
  refine pu_ (v := ?_) (a' := ?_) 17 (some 81) 262143 rfl rfl HT_ (by kernel_rfl) (.inl ⟨by rfl, ?_⟩) ?_ ?_; rotate_left 2; (· intro w'; go_simp; with_reducible rfl); (· simp only [nrm]; rfl)
  refine pu_ (v := ?_) (a' := ?_) 18 (some 82) 524287 rfl rfl HT_ (by kernel_rfl) (.inl ⟨by rfl, ?_⟩) ?_ ?_; rotate_left 2; (· intro w'; go_simp; with_reducible rfl); (· simp only [nrm]; rfl)
  refine on_ 19 (none) 1048575 rfl rfl HT_ (by kernel_rfl) (by decide) (fun K hK => ?_)
  refine skip_ (by rfl) rfl (st_run_store (seg := [.bool (false)]) rfl rfl rfl rfl (Nat.le_of_ble_eq_true rfl) (by simp [Value.oneCell']) (H.out.pick 4 rfl)) ?_
  have h8 := (H.out.pick 4 rfl).setCells 19 [.bool (false)] (Nat.le_of_ble_eq_true rfl)
  generalize World.setCells _ _ _ _ = w8 at h8 ⊢
  replace H : Aside (St w0 w8 (Are p a gC who false X lv1 (l ++ [⟨who, 1, i, 0, 0, v, v⟩]) (cn + 1) fl ++ swB s ({ x with was := v, k := dk, c := dc, st := ds, o := d_o, y := dy, at_ := 1, block := false } : Sw) :: blk w5.heap.size [.int .i64 dk, .int .i64 dc, .int .i64 ds, .int .i64 d_o, .int .i64 dy].toArray 168 :: F)) := Aside.mk (back_ (L := Are p a gC who false X lv1 (l ++ [⟨who, 1, i, 0, 0, v, v⟩]) (cn + 1) fl) h8)
  clear h8
  refine hK.out _ _ ⟨(H.out.pick 4 rfl).cell 4, (H.out.pick 5 rfl).cell 2, (H.out.pick 5 rfl).cell 4⟩ (fun hHeld => ?_)
  clear hK K
  refine done_ (done_of HT_.out (by kernel_rfl)) ?_
  clear HT_ HW_ hHeld
  have z6 := (H.out.pick 4 rfl).cell 6
  have f6 := (H.out.pick 4 rfl).frozen 6
  go_wp2
  go_ret
  refine ⟨lv1, rfl, ?_⟩
  have H9 := (H.out.pick 4 rfl).put 6 (.int .i64 8) rfl
  exact back_ (L := Are p a gC who false X lv1 (l ++ [⟨who, 1, i, 0, 0, v, v⟩]) (cn + 1) fl) (H9.pick 5 rfl).rest
theorem lookC {P T page : Nat} (hp : Pl P T page x) (hat : x.at_ = 0) (hX : X.length = 128 + 64 * P) (hl : l.length ≤ 100000) (hc0 : 0 ≤ cn) (hc1 : cn ≤ 100000) {dk dc ds d_o dy df : Int} (hd : dec (X.getD (adr P T 0 page) 0) = (dk, dc, ds, d_o, dy, df)) (hv0 : 0 ≤ X.getD (adr P T 0 page) 0) (hv1 : X.getD (adr P T 0 page) 0 < 18446744073709551616) (hf : df = 0) (hdu : Sw.due ({ x with was := X.getD (adr P T 0 page) 0, k := dk, c := dc, st := ds, o := d_o, y := dy, at_ := 1 } : Sw) = false) (hds : ds = 2) (h : St w0 w (Are p a gC who true X lv l cn fl ++ swB s x :: F)) :
    Calls Tryd.prog 112 #[swP s, .pointer (some ⟨p, 0, none⟩)] w fun e w' => ∃ lv', e = .returned (.bool true) ∧ St w0 w' (Are p a gC who false X lv' (l ++ [⟨who, 1, adr P T 0 page, 0, 0, X.getD (adr P T 0 page) 0, X.getD (adr P T 0 page) 0⟩]) (cn + 1) fl ++ swB s (x.look (X.getD (adr P T 0 page) 0)) :: F) := by
  subst hf
  have HIE := Aside.mk (show isE dk dc ds d_o dy = true by rcases dec_isE hd with h | h <;> first | exact h.2 | exact absurd h (by decide))
  have HDU := Aside.mk (show Sw.due ({ x with was := X.getD (adr P T 0 page) 0, k := dk, c := dc, st := ds, o := d_o, y := dy, at_ := 1 } : Sw) = false from hdu)
  rw [look_no2 hd hdu hds]
  clear hdu
  replace hds : (ds == 2) = true := by simp [hds]
  have hE := ent_ hp page hp.hi
  rw [← hp.pg] at hE
  have HE := Aside.mk hE
  have HDEC := Aside.mk (fun w => dec_ci hv0 hv1 hd w)
  have hi : adr P T 0 page < X.length := by rw [hX]; exact adr_lt hp.hP hp.hT hp.hi (by decide)
  have HPG := Aside.mk (show 0 ≤ x.page ∧ x.page ≤ 10000 by rw [hp.pg]; have := hp.hi; have := hp.hP; omega)
  generalize hi0 : adr P T 0 page = i at HE HDEC hi ⊢
  have HX := Aside.mk (show X.length ≤ 4096 by have := hp.hP; omega)
  have HL := Aside.mk (show l.length ≤ 1000000 by omega)
  have HC := Aside.mk (show cn ≤ 1000000 by omega)
  have HI := Aside.mk hi
  have H0 := Aside.mk hc0
  have x0 : w.cell? ⟨s, 0, none⟩ = some (.int .i64 x.pp) := (h.pick 4 rfl).cell 0
  have x1 : w.cell? ⟨s, 1, none⟩ = some (.int .i64 x.pt) := (h.pick 4 rfl).cell 1
  have x2 : w.cell? ⟨s, 2, none⟩ = some (.int .i64 x.pr) := (h.pick 4 rfl).cell 2
  have x5 : w.cell? ⟨s, 5, none⟩ = some (.int .i64 x.page) := (h.pick 4 rfl).cell 5
  have x6 : w.cell? ⟨s, 6, none⟩ = some (.int .i64 x.at_) := (h.pick 4 rfl).cell 6
  rw [hat] at x6
  have H := Aside.mk h
  clear h hp hat hi0 hi hX hl hc0 hc1 hE hd hv0 hv1
  have HV : ∃ v, v = X.getD i 0 := ⟨_, rfl⟩
  obtain ⟨v, hv⟩ := HV
  have hload := fun (w : World) (h : St w0 w (Are p a gC who true X lv l cn fl ++ swB s x :: F)) => load_ i HI.out HX.out HL.out H0.out HC.out h
  rw [← hv] at hload HDEC ⊢
  replace hload := Aside.mk hload
  clear hv
  go_enter Tryd.func112, Tryd.ntmps112
  go_wp2_with (go_at_call 76; refine (open_ H.out).mono ?_; rintro e w1 ⟨rfl, rfl⟩)
  replace H := Aside.mk H.out.drew
  refine start_ (n := 15) (S := fun w' => w'.cell? ⟨s, 0, none⟩ = some (.int .i64 x.pp) ∧ w'.cell? ⟨s, 1, none⟩ = some (.int .i64 x.pt) ∧ w'.cell? ⟨s, 2, none⟩ = some (.int .i64 x.pr) ∧ w'.cell? ⟨s, 5, none⟩ = some (.int .i64 x.page)) (ds := []) (flg 15 0) (by kernel_rfl) rfl rfl (⟨(H.out.pick 4 rfl).cell 0, (H.out.pick 4 rfl).cell 1, (H.out.pick 4 rfl).cell 2, (H.out.pick 4 rfl).cell 5⟩) (fun hHeld => ?_)
  refine with_tabW sw.tab7 sw.bits7 (fun HT_ HW_ => ?_)
  refine pu_ (v := ?_) (a' := ?_) 0 (some 28) 1 rfl rfl HT_ (by kernel_rfl) (.inl ⟨by rfl, ?_⟩) ?_ ?_; rotate_left 2; (· intro w'; go_simp; with_reducible rfl); (· simp only [nrm]; rfl)
  refine pu_ (v := ?_) (a' := ?_) 1 (some 29) 3 rfl rfl HT_ (by kernel_rfl) (.inl ⟨by rfl, ?_⟩) ?_ ?_; rotate_left 2; (· intro w'; go_simp; with_reducible rfl); (· simp only [nrm]; rfl)
  refine pu_ (v := ?_) (a' := ?_) 2 (some 30) 7 rfl rfl HT_ (by kernel_rfl) (.inl ⟨by rfl, ?_⟩) ?_ ?_; rotate_left 2; (· intro w'; go_simp; with_reducible rfl); (· simp only [nrm]; rfl)
  refine pu_ (v := ?_) (a' := ?_) 3 (some 31) 15 rfl rfl HT_ (by kernel_rfl) (.inl ⟨by rfl, ?_⟩) ?_ ?_; rotate_left 2; (· intro w'; go_simp; with_reducible rfl); (· simp only [nrm]; rfl)
  refine pu_ (v := ?_) (a' := ?_) 4 (some 32) 31 rfl rfl HT_ (by kernel_rfl) (.inl ⟨by rfl, ?_⟩) ?_ ?_; rotate_left 2; (· intro w'; go_simp; with_reducible rfl); (· simp only [nrm]; rfl)
  refine tk_ (v := ?_) (a' := ?_) 5 (some 33) 63 rfl rfl HT_ HW_ (by kernel_rfl) (.inl ⟨by rfl, ?_⟩) hHeld ?_ ?_; rotate_left 2; (· rintro w' ⟨_, _, _, _⟩; go_simp; with_reducible rfl); (· simp only [nrm]; rfl)
  refine pu_ (v := ?_) (a' := ?_) 6 (some 34) 127 rfl rfl HT_ (by kernel_rfl) (.inl ⟨by rfl, ?_⟩) ?_ ?_; rotate_left 2; (· intro w'; go_simp; with_reducible rfl); (· simp only [nrm]; rfl)
  refine pu_ (v := ?_) (a' := ?_) 7 (some 35) 255 rfl rfl HT_ (by kernel_rfl) (.inl ⟨by rfl, ?_⟩) ?_ ?_; rotate_left 2; (· intro w'; go_simp; with_reducible rfl); (· simp only [nrm]; rfl)
  refine pu_ (v := ?_) (a' := ?_) 8 (some 36) 511 rfl rfl HT_ (by kernel_rfl) (.inl ⟨by rfl, ?_⟩) ?_ ?_; rotate_left 2; (· intro w'; go_simp; with_reducible rfl); (· simp only [nrm]; rfl)
  refine tk_ (v := ?_) (a' := ?_) 9 (some 37) 1023 rfl rfl HT_ HW_ (by kernel_rfl) (.inl ⟨by rfl, ?_⟩) hHeld ?_ ?_; rotate_left 2; (· rintro w' ⟨_, _, _, _⟩; go_simp; with_reducible rfl); (· simp only [nrm]; rfl)
  refine on_ 10 (some 38) 2047 rfl rfl HT_ (by kernel_rfl) (by decide) (fun K hK => ?_)
  refine goes_ Tryd.func85 (by kernel_rfl) rfl #[.agg #[.int .i64 x.pp, .int .i64 x.pt, .int .i64 x.pr], .int .i64 x.page] (by rfl) rfl rfl (by (try simp only [List.map_toArray, List.map_cons, List.map_nil]); first | done | rfl) ?_
  refine (layout_Plan_Entry.calls _ _ _ _ _ _ HE.out).mono ?_
  rintro e w2 ⟨rfl, hb⟩
  replace H := Aside.mk (H.out.step hb)
  clear hb
  refine ⟨_, rfl, ?_⟩
  refine hK.out _ _ ⟨(H.out.pick 4 rfl).cell 0, (H.out.pick 4 rfl).cell 1, (H.out.pick 4 rfl).cell 2, (H.out.pick 4 rfl).cell 5⟩ (fun hHeld => ?_)
  clear hK K
  refine norm_ (a' := ?_) ?_ ?_
  rotate_left
  · show Act.put _ (some 38) _ = _
    simp only [nrm]
    rfl
  refine on_ 11 (some 39) 4095 rfl rfl HT_ (by kernel_rfl) (by decide) (fun K hK => ?_)
  refine goes_ Tryd.func122 (by kernel_rfl) rfl #[.pointer (some ⟨p, 0, none⟩), .int .i64 i] (by rfl) rfl rfl (by (try simp only [List.map_toArray, List.map_cons, List.map_nil]); first | done | rfl) ?_
  refine (hload.out _ H.out).mono ?_
  rintro e w3 ⟨lv1, rfl, h1⟩
  replace H := Aside.mk h1
  clear h1
  refine ⟨_, rfl, ?_⟩
  refine hK.out _ _ ⟨(H.out.pick 4 rfl).cell 0, (H.out.pick 4 rfl).cell 1, (H.out.pick 4 rfl).cell 2, (H.out.pick 4 rfl).cell 5⟩ (fun hHeld => ?_)
  clear hK K
  refine norm_ (a' := ?_) ?_ ?_
  rotate_left
  · show Act.put _ (some 39) _ = _
    simp only [nrm]
    rfl
  refine pu_ (v := ?_) (a' := ?_) 12 (some 40) 8191 rfl rfl HT_ (by kernel_rfl) (.inl ⟨by rfl, ?_⟩) ?_ ?_; rotate_left 2; (· intro w'; go_simp; with_reducible rfl); (· simp only [nrm]; rfl)
  refine pu_ (v := ?_) (a' := ?_) 13 (some 41) 16383 rfl rfl HT_ (by kernel_rfl) (.inl ⟨by rfl, ?_⟩) ?_ ?_; rotate_left 2; (· intro w'; go_simp; with_reducible rfl); (· simp only [nrm]; rfl)
  refine on_ 14 (none) 32767 rfl rfl HT_ (by kernel_rfl) (by decide) (fun K hK => ?_)
  have k1 := (H.out.pick 4 rfl).cell 12
  have kf := (H.out.pick 4 rfl).frozen 12
  refine skip_ (w1 := ?_) (by rfl) rfl ?_ ?_
  rotate_left
  · go_simp
    rfl
  replace H := Aside.mk (back_ (L := Are p a gC who false X lv1 (l ++ [⟨who, 1, i, 0, 0, v, v⟩]) (cn + 1) fl) (R := F) ((H.out.pick 4 rfl).put 12 (.int .u64 v) rfl))
  clear k1 kf
  refine hK.out _ _ ⟨(H.out.pick 4 rfl).cell 0, (H.out.pick 4 rfl).cell 1, (H.out.pick 4 rfl).cell 2, (H.out.pick 4 rfl).cell 5⟩ (fun hHeld => ?_)
  clear hK K
  refine done_ (done_of HT_.out (by kernel_rfl)) ?_
  clear HT_ HW_ hHeld
  have x12 := (H.out.pick 4 rfl).cell 12
  generalize World.setCell _ _ _ = w4_ at H x12 ⊢
  replace H : Aside (St w0 w4_ (Are p a gC who false X lv1 (l ++ [⟨who, 1, i, 0, 0, v, v⟩]) (cn + 1) fl ++ swB s ({ x with was := v } : Sw) :: F)) := H
  go_wp2_with (first
    | (go_at_call 86; refine (HDEC.out _).mono ?_; rintro e w5 ⟨rfl, hb⟩; replace H := Aside.mk (H.out.step hb); clear hb x12)
    | (with_reducible refine stop_at (.store 168 (.tmp 54) (.tmp 52)) rfl ?_))
  refine ⟨?_⟩
  refine st_store rfl rfl rfl [.int .i64 dk, .int .i64 dc, .int .i64 ds, .int .i64 d_o, .int .i64 dy] (({ x with was := v, k := dk, c := dc, st := ds, o := d_o, y := dy } : Sw)).cells rfl rfl rfl (Nat.le_of_ble_eq_true rfl) (by simp [Value.oneCell']) ((H.out.alloc [.int .i64 dk, .int .i64 dc, .int .i64 ds, .int .i64 d_o, .int .i64 dy].toArray 168).pick 5 rfl) rfl ?_
  intro w6 h6
  replace H : Aside (St w0 w6 (Are p a gC who false X lv1 (l ++ [⟨who, 1, i, 0, 0, v, v⟩]) (cn + 1) fl ++ swB s ({ x with was := v, k := dk, c := dc, st := ds, o := d_o, y := dy } : Sw) :: blk w5.heap.size [.int .i64 dk, .int .i64 dc, .int .i64 ds, .int .i64 d_o, .int .i64 dy].toArray 168 :: F)) := Aside.mk (back2_ h6)
  clear h6
  have z6 := (H.out.pick 4 rfl).cell 6
  have f6 := (H.out.pick 4 rfl).frozen 6
  go_wp2_with (go_at_call 154; go_loud (refine (sdue_ (x := ({ x with was := v, k := dk, c := dc, st := ds, o := d_o, y := dy, at_ := 1 } : Sw)) HIE.out HPG.out ((H.out.pick 4 rfl).put 6 (.int .i64 1) rfl)).mono ?_); rintro e w7 ⟨he, h7⟩; replace he : e = .returned (.bool false) := he.trans (congrArg (fun b => Ending.returned (.bool b)) HDU.out); subst he; replace H : Aside (St w0 w7 (Are p a gC who false X lv1 (l ++ [⟨who, 1, i, 0, 0, v, v⟩]) (cn + 1) fl ++ swB s ({ x with was := v, k := dk, c := dc, st := ds, o := d_o, y := dy, at_ := 1 } : Sw) :: blk w5.heap.size [.int .i64 dk, .int .i64 dc, .int .i64 ds, .int .i64 d_o, .int .i64 dy].toArray 168 :: F)) := Aside.mk (back_ (L := Are p a gC who false X lv1 (l ++ [⟨who, 1, i, 0, 0, v, v⟩]) (cn + 1) fl) h7); clear h7 z6 f6)
  replace H : Aside (St w0 (World.drew _) (Are p a gC who false X lv1 (l ++ [⟨who, 1, i, 0, 0, v, v⟩]) (cn + 1) fl ++ swB s ({ x with was := v, k := dk, c := dc, st := ds, o := d_o, y := dy, at_ := 1 } : Sw) :: blk w5.heap.size [.int .i64 dk, .int .i64 dc, .int .i64 ds, .int .i64 d_o, .int .i64 dy].toArray 168 :: F)) := Aside.mk H.out.drew
  refine start_ (n := 20) (S := fun w' => w'.cell? ⟨s, 4, none⟩ = some (.int .i64 x.cyc) ∧ w'.cell? ⟨w5.heap.size, 2, none⟩ = some (.int .i64 ds) ∧ w'.cell? ⟨w5.heap.size, 4, none⟩ = some (.int .i64 dy)) (ds := []) (flg 20 0) (by kernel_rfl) rfl rfl (⟨(H.out.pick 4 rfl).cell 4, (H.out.pick 5 rfl).cell 2, (H.out.pick 5 rfl).cell 4⟩) (fun hHeld => ?_)
  refine with_tabW sw.tab11 sw.bits11 (fun HT_ HW_ => ?_)
  refine pu_ (v := ?_) (a' := ?_) 0 (some 64) 1 rfl rfl HT_ (by kernel_rfl) (.inl ⟨by rfl, ?_⟩) ?_ ?_; rotate_left 2; (· intro w'; go_simp; with_reducible rfl); (· simp only [nrm]; rfl)
  refine pu_ (v := ?_) (a' := ?_) 1 (some 65) 3 rfl rfl HT_ (by kernel_rfl) (.inl ⟨by rfl, ?_⟩) ?_ ?_; rotate_left 2; (· intro w'; go_simp; with_reducible rfl); (· simp only [nrm]; rfl)
  refine pu_ (v := ?_) (a' := ?_) 2 (some 66) 7 rfl rfl HT_ (by kernel_rfl) (.inl ⟨by rfl, ?_⟩) ?_ ?_; rotate_left 2; (· intro w'; go_simp; with_reducible rfl); (· simp only [nrm]; rfl)
  refine pu_ (v := ?_) (a' := ?_) 3 (some 67) 15 rfl rfl HT_ (by kernel_rfl) (.inl ⟨by rfl, ?_⟩) ?_ ?_; rotate_left 2; (· intro w'; go_simp; with_reducible rfl); (· simp only [nrm]; rfl)
  refine pu_ (v := ?_) (a' := ?_) 4 (some 68) 31 rfl rfl HT_ (by kernel_rfl) (.inl ⟨by rfl, ?_⟩) ?_ ?_; rotate_left 2; (· intro w'; go_simp; with_reducible rfl); (· simp only [nrm]; rfl)
  refine tk_ (v := ?_) (a' := ?_) 5 (some 69) 63 rfl rfl HT_ HW_ (by kernel_rfl) (.inl ⟨by rfl, ?_⟩) hHeld ?_ ?_; rotate_left 2; (· rintro w' ⟨_, _, _⟩; go_simp; with_reducible rfl); (· simp only [nrm]; rfl)
  refine pu_ (v := ?_) (a' := ?_) 6 (some 70) 127 rfl rfl HT_ (by kernel_rfl) (.inl ⟨by rfl, ?_⟩) ?_ ?_; rotate_left 2; (· intro w'; go_simp; with_reducible rfl); (· simp only [nrm]; rfl)
  refine pu_ (v := ?_) (a' := ?_) 7 (some 71) 255 rfl rfl HT_ (by kernel_rfl) (.inl ⟨by rfl, ?_⟩) ?_ ?_; rotate_left 2; (· intro w'; go_simp; with_reducible rfl); (· simp only [nrm]; rfl)
  refine pu_ (v := ?_) (a' := ?_) 8 (some 72) 511 rfl rfl HT_ (by kernel_rfl) (.inl ⟨by rfl, ?_⟩) ?_ ?_; rotate_left 2; (· intro w'; go_simp; with_reducible rfl); (· simp only [nrm]; rfl)
  refine pu_ (v := ?_) (a' := ?_) 9 (some 73) 1023 rfl rfl HT_ (by kernel_rfl) (.inl ⟨by rfl, ?_⟩) ?_ ?_; rotate_left 2; (· intro w'; go_simp; with_reducible rfl); (· simp only [nrm]; rfl)
  refine tk_ (v := ?_) (a' := ?_) 10 (some 74) 2047 rfl rfl HT_ HW_ (by kernel_rfl) (.inl ⟨by rfl, ?_⟩) hHeld ?_ ?_; rotate_left 2; (· rintro w' ⟨_, _, _⟩; go_simp; with_reducible rfl); (· simp only [nrm]; rfl)
  refine pu_ (v := ?_) (a' := ?_) 11 (some 75) 4095 rfl rfl HT_ (by kernel_rfl) (.inl ⟨by rfl, ?_⟩) ?_ ?_; rotate_left 2; (· intro w'; go_simp; with_reducible rfl); (· simp only [nrm]; rfl)
  refine pu_ (v := ?_) (a' := ?_) 12 (some 76) 8191 rfl rfl HT_ (by kernel_rfl) (.inl ⟨by rfl, ?_⟩) ?_ ?_; rotate_left 2; (· intro w'; go_simp; with_reducible rfl); (· simp only [nrm]; rfl)
  refine pu_ (v := ?_) (a' := ?_) 13 (some 77) 16383 rfl rfl HT_ (by kernel_rfl) (.inl ⟨by rfl, ?_⟩) ?_ ?_; rotate_left 2; (· intro w'; go_simp; with_reducible rfl); (· simp only [nrm]; rfl)
  refine tk_ (v := ?_) (a' := ?_) 14 (some 78) 32767 rfl rfl HT_ HW_ (by kernel_rfl) (.inl ⟨by rfl, ?_⟩) hHeld ?_ ?_; rotate_left 2; (· rintro w' ⟨_, _, _⟩; go_simp; with_reducible rfl); (· simp only [nrm]; rfl)
  refine pu_ (v := ?_) (a' := ?_) 15 (some 79) 65535 rfl rfl HT_ (by kernel_rfl) (.inl ⟨by rfl, ?_⟩) ?_ ?_; rotate_left 2; (· intro w'; go_simp; with_reducible rfl); (· simp only [nrm]; rfl)
  refine pu_ (v := ?_) (a' := ?_) 16 (some 80) 131071 rfl rfl HT_ (by kernel_rfl) (.inl ⟨by rfl, ?_⟩) ?_ ?_; rotate_left 2; (· intro w'; go_simp; with_reducible rfl); (· simp only [nrm]; rfl)
  refine pu_ (v := ?_) (a' := ?_) 17 (some 81) 262143 rfl rfl HT_ (by kernel_rfl) (.inl ⟨by rfl, ?_⟩) ?_ ?_; rotate_left 2; (· intro w'; go_simp; with_reducible rfl); (· simp only [nrm]; rfl)
  refine pu_ (v := ?_) (a' := ?_) 18 (some 82) 524287 rfl rfl HT_ (by kernel_rfl) (.inl ⟨by rfl, ?_⟩) ?_ ?_; rotate_left 2; (· intro w'; go_simp; with_reducible rfl); (· simp only [nrm]; rfl)
  refine on_ 19 (none) 1048575 rfl rfl HT_ (by kernel_rfl) (by decide) (fun K hK => ?_)
  refine skip_ (by rfl) rfl (st_run_store (seg := [.bool (decide (dy < x.cyc))]) rfl rfl rfl rfl (Nat.le_of_ble_eq_true rfl) (by simp [Value.oneCell']) (H.out.pick 4 rfl)) ?_
  have h8 := (H.out.pick 4 rfl).setCells 19 [.bool (decide (dy < x.cyc))] (Nat.le_of_ble_eq_true rfl)
  generalize World.setCells _ _ _ _ = w8 at h8 ⊢
  replace H : Aside (St w0 w8 (Are p a gC who false X lv1 (l ++ [⟨who, 1, i, 0, 0, v, v⟩]) (cn + 1) fl ++ swB s ({ x with was := v, k := dk, c := dc, st := ds, o := d_o, y := dy, at_ := 1, block := decide (dy < x.cyc) } : Sw) :: blk w5.heap.size [.int .i64 dk, .int .i64 dc, .int .i64 ds, .int .i64 d_o, .int .i64 dy].toArray 168 :: F)) := Aside.mk (back_ (L := Are p a gC who false X lv1 (l ++ [⟨who, 1, i, 0, 0, v, v⟩]) (cn + 1) fl) h8)
  clear h8
  refine hK.out _ _ ⟨(H.out.pick 4 rfl).cell 4, (H.out.pick 5 rfl).cell 2, (H.out.pick 5 rfl).cell 4⟩ (fun hHeld => ?_)
  clear hK K
  refine done_ (done_of HT_.out (by kernel_rfl)) ?_
  clear HT_ HW_ hHeld
  have z6 := (H.out.pick 4 rfl).cell 6
  have f6 := (H.out.pick 4 rfl).frozen 6
  go_wp2
  go_ret
  refine ⟨lv1, rfl, ?_⟩
  have H9 := (H.out.pick 4 rfl).put 6 (.int .i64 8) rfl
  exact back_ (L := Are p a gC who false X lv1 (l ++ [⟨who, 1, i, 0, 0, v, v⟩]) (cn + 1) fl) (H9.pick 5 rfl).rest
theorem lookD {P T page : Nat} (hp : Pl P T page x) (hat : x.at_ = 0) (hX : X.length = 128 + 64 * P) (hl : l.length ≤ 100000) (hc0 : 0 ≤ cn) (hc1 : cn ≤ 100000) {dk dc ds d_o dy df : Int} (hd : dec (X.getD (adr P T 0 page) 0) = (dk, dc, ds, d_o, dy, df)) (hv0 : 0 ≤ X.getD (adr P T 0 page) 0) (hv1 : X.getD (adr P T 0 page) 0 < 18446744073709551616) (hf : df = 0) (hdu : Sw.due ({ x with was := X.getD (adr P T 0 page) 0, k := dk, c := dc, st := ds, o := d_o, y := dy, at_ := 1 } : Sw) = true) (h : St w0 w (Are p a gC who true X lv l cn fl ++ swB s x :: F)) :
    Calls Tryd.prog 112 #[swP s, .pointer (some ⟨p, 0, none⟩)] w fun e w' => ∃ lv', e = .returned (.bool false) ∧ St w0 w' (Are p a gC who false X lv' (l ++ [⟨who, 1, adr P T 0 page, 0, 0, X.getD (adr P T 0 page) 0, X.getD (adr P T 0 page) 0⟩]) (cn + 1) fl ++ swB s (x.look (X.getD (adr P T 0 page) 0)) :: F) := by
  subst hf
  have HIE := Aside.mk (show isE dk dc ds d_o dy = true by rcases dec_isE hd with h | h <;> first | exact h.2 | exact absurd h (by decide))
  have HDU := Aside.mk (show Sw.due ({ x with was := X.getD (adr P T 0 page) 0, k := dk, c := dc, st := ds, o := d_o, y := dy, at_ := 1 } : Sw) = true from hdu)
  rw [look_due hd hdu]
  clear hdu
  have hE := ent_ hp page hp.hi
  rw [← hp.pg] at hE
  have HE := Aside.mk hE
  have HDEC := Aside.mk (fun w => dec_ci hv0 hv1 hd w)
  have hi : adr P T 0 page < X.length := by rw [hX]; exact adr_lt hp.hP hp.hT hp.hi (by decide)
  have HPG := Aside.mk (show 0 ≤ x.page ∧ x.page ≤ 10000 by rw [hp.pg]; have := hp.hi; have := hp.hP; omega)
  generalize hi0 : adr P T 0 page = i at HE HDEC hi ⊢
  have HX := Aside.mk (show X.length ≤ 4096 by have := hp.hP; omega)
  have HL := Aside.mk (show l.length ≤ 1000000 by omega)
  have HC := Aside.mk (show cn ≤ 1000000 by omega)
  have HI := Aside.mk hi
  have H0 := Aside.mk hc0
  have x0 : w.cell? ⟨s, 0, none⟩ = some (.int .i64 x.pp) := (h.pick 4 rfl).cell 0
  have x1 : w.cell? ⟨s, 1, none⟩ = some (.int .i64 x.pt) := (h.pick 4 rfl).cell 1
  have x2 : w.cell? ⟨s, 2, none⟩ = some (.int .i64 x.pr) := (h.pick 4 rfl).cell 2
  have x5 : w.cell? ⟨s, 5, none⟩ = some (.int .i64 x.page) := (h.pick 4 rfl).cell 5
  have x6 : w.cell? ⟨s, 6, none⟩ = some (.int .i64 x.at_) := (h.pick 4 rfl).cell 6
  rw [hat] at x6
  have H := Aside.mk h
  clear h hp hat hi0 hi hX hl hc0 hc1 hE hd hv0 hv1
  have HV : ∃ v, v = X.getD i 0 := ⟨_, rfl⟩
  obtain ⟨v, hv⟩ := HV
  have hload := fun (w : World) (h : St w0 w (Are p a gC who true X lv l cn fl ++ swB s x :: F)) => load_ i HI.out HX.out HL.out H0.out HC.out h
  rw [← hv] at hload HDEC ⊢
  replace hload := Aside.mk hload
  clear hv
  go_enter Tryd.func112, Tryd.ntmps112
  go_wp2_with (go_at_call 76; refine (open_ H.out).mono ?_; rintro e w1 ⟨rfl, rfl⟩)
  replace H := Aside.mk H.out.drew
  refine start_ (n := 15) (S := fun w' => w'.cell? ⟨s, 0, none⟩ = some (.int .i64 x.pp) ∧ w'.cell? ⟨s, 1, none⟩ = some (.int .i64 x.pt) ∧ w'.cell? ⟨s, 2, none⟩ = some (.int .i64 x.pr) ∧ w'.cell? ⟨s, 5, none⟩ = some (.int .i64 x.page)) (ds := []) (flg 15 0) (by kernel_rfl) rfl rfl (⟨(H.out.pick 4 rfl).cell 0, (H.out.pick 4 rfl).cell 1, (H.out.pick 4 rfl).cell 2, (H.out.pick 4 rfl).cell 5⟩) (fun hHeld => ?_)
  refine with_tabW sw.tab7 sw.bits7 (fun HT_ HW_ => ?_)
  refine pu_ (v := ?_) (a' := ?_) 0 (some 28) 1 rfl rfl HT_ (by kernel_rfl) (.inl ⟨by rfl, ?_⟩) ?_ ?_; rotate_left 2; (· intro w'; go_simp; with_reducible rfl); (· simp only [nrm]; rfl)
  refine pu_ (v := ?_) (a' := ?_) 1 (some 29) 3 rfl rfl HT_ (by kernel_rfl) (.inl ⟨by rfl, ?_⟩) ?_ ?_; rotate_left 2; (· intro w'; go_simp; with_reducible rfl); (· simp only [nrm]; rfl)
  refine pu_ (v := ?_) (a' := ?_) 2 (some 30) 7 rfl rfl HT_ (by kernel_rfl) (.inl ⟨by rfl, ?_⟩) ?_ ?_; rotate_left 2; (· intro w'; go_simp; with_reducible rfl); (· simp only [nrm]; rfl)
  refine pu_ (v := ?_) (a' := ?_) 3 (some 31) 15 rfl rfl HT_ (by kernel_rfl) (.inl ⟨by rfl, ?_⟩) ?_ ?_; rotate_left 2; (· intro w'; go_simp; with_reducible rfl); (· simp only [nrm]; rfl)
  refine pu_ (v := ?_) (a' := ?_) 4 (some 32) 31 rfl rfl HT_ (by kernel_rfl) (.inl ⟨by rfl, ?_⟩) ?_ ?_; rotate_left 2; (· intro w'; go_simp; with_reducible rfl); (· simp only [nrm]; rfl)
  refine tk_ (v := ?_) (a' := ?_) 5 (some 33) 63 rfl rfl HT_ HW_ (by kernel_rfl) (.inl ⟨by rfl, ?_⟩) hHeld ?_ ?_; rotate_left 2; (· rintro w' ⟨_, _, _, _⟩; go_simp; with_reducible rfl); (· simp only [nrm]; rfl)
  refine pu_ (v := ?_) (a' := ?_) 6 (some 34) 127 rfl rfl HT_ (by kernel_rfl) (.inl ⟨by rfl, ?_⟩) ?_ ?_; rotate_left 2; (· intro w'; go_simp; with_reducible rfl); (· simp only [nrm]; rfl)
  refine pu_ (v := ?_) (a' := ?_) 7 (some 35) 255 rfl rfl HT_ (by kernel_rfl) (.inl ⟨by rfl, ?_⟩) ?_ ?_; rotate_left 2; (· intro w'; go_simp; with_reducible rfl); (· simp only [nrm]; rfl)
  refine pu_ (v := ?_) (a' := ?_) 8 (some 36) 511 rfl rfl HT_ (by kernel_rfl) (.inl ⟨by rfl, ?_⟩) ?_ ?_; rotate_left 2; (· intro w'; go_simp; with_reducible rfl); (· simp only [nrm]; rfl)
  refine tk_ (v := ?_) (a' := ?_) 9 (some 37) 1023 rfl rfl HT_ HW_ (by kernel_rfl) (.inl ⟨by rfl, ?_⟩) hHeld ?_ ?_; rotate_left 2; (· rintro w' ⟨_, _, _, _⟩; go_simp; with_reducible rfl); (· simp only [nrm]; rfl)
  refine on_ 10 (some 38) 2047 rfl rfl HT_ (by kernel_rfl) (by decide) (fun K hK => ?_)
  refine goes_ Tryd.func85 (by kernel_rfl) rfl #[.agg #[.int .i64 x.pp, .int .i64 x.pt, .int .i64 x.pr], .int .i64 x.page] (by rfl) rfl rfl (by (try simp only [List.map_toArray, List.map_cons, List.map_nil]); first | done | rfl) ?_
  refine (layout_Plan_Entry.calls _ _ _ _ _ _ HE.out).mono ?_
  rintro e w2 ⟨rfl, hb⟩
  replace H := Aside.mk (H.out.step hb)
  clear hb
  refine ⟨_, rfl, ?_⟩
  refine hK.out _ _ ⟨(H.out.pick 4 rfl).cell 0, (H.out.pick 4 rfl).cell 1, (H.out.pick 4 rfl).cell 2, (H.out.pick 4 rfl).cell 5⟩ (fun hHeld => ?_)
  clear hK K
  refine norm_ (a' := ?_) ?_ ?_
  rotate_left
  · show Act.put _ (some 38) _ = _
    simp only [nrm]
    rfl
  refine on_ 11 (some 39) 4095 rfl rfl HT_ (by kernel_rfl) (by decide) (fun K hK => ?_)
  refine goes_ Tryd.func122 (by kernel_rfl) rfl #[.pointer (some ⟨p, 0, none⟩), .int .i64 i] (by rfl) rfl rfl (by (try simp only [List.map_toArray, List.map_cons, List.map_nil]); first | done | rfl) ?_
  refine (hload.out _ H.out).mono ?_
  rintro e w3 ⟨lv1, rfl, h1⟩
  replace H := Aside.mk h1
  clear h1
  refine ⟨_, rfl, ?_⟩
  refine hK.out _ _ ⟨(H.out.pick 4 rfl).cell 0, (H.out.pick 4 rfl).cell 1, (H.out.pick 4 rfl).cell 2, (H.out.pick 4 rfl).cell 5⟩ (fun hHeld => ?_)
  clear hK K
  refine norm_ (a' := ?_) ?_ ?_
  rotate_left
  · show Act.put _ (some 39) _ = _
    simp only [nrm]
    rfl
  refine pu_ (v := ?_) (a' := ?_) 12 (some 40) 8191 rfl rfl HT_ (by kernel_rfl) (.inl ⟨by rfl, ?_⟩) ?_ ?_; rotate_left 2; (· intro w'; go_simp; with_reducible rfl); (· simp only [nrm]; rfl)
  refine pu_ (v := ?_) (a' := ?_) 13 (some 41) 16383 rfl rfl HT_ (by kernel_rfl) (.inl ⟨by rfl, ?_⟩) ?_ ?_; rotate_left 2; (· intro w'; go_simp; with_reducible rfl); (· simp only [nrm]; rfl)
  refine on_ 14 (none) 32767 rfl rfl HT_ (by kernel_rfl) (by decide) (fun K hK => ?_)
  have k1 := (H.out.pick 4 rfl).cell 12
  have kf := (H.out.pick 4 rfl).frozen 12
  refine skip_ (w1 := ?_) (by rfl) rfl ?_ ?_
  rotate_left
  · go_simp
    rfl
  replace H := Aside.mk (back_ (L := Are p a gC who false X lv1 (l ++ [⟨who, 1, i, 0, 0, v, v⟩]) (cn + 1) fl) (R := F) ((H.out.pick 4 rfl).put 12 (.int .u64 v) rfl))
  clear k1 kf
  refine hK.out _ _ ⟨(H.out.pick 4 rfl).cell 0, (H.out.pick 4 rfl).cell 1, (H.out.pick 4 rfl).cell 2, (H.out.pick 4 rfl).cell 5⟩ (fun hHeld => ?_)
  clear hK K
  refine done_ (done_of HT_.out (by kernel_rfl)) ?_
  clear HT_ HW_ hHeld
  have x12 := (H.out.pick 4 rfl).cell 12
  generalize World.setCell _ _ _ = w4_ at H x12 ⊢
  replace H : Aside (St w0 w4_ (Are p a gC who false X lv1 (l ++ [⟨who, 1, i, 0, 0, v, v⟩]) (cn + 1) fl ++ swB s ({ x with was := v } : Sw) :: F)) := H
  go_wp2_with (first
    | (go_at_call 86; refine (HDEC.out _).mono ?_; rintro e w5 ⟨rfl, hb⟩; replace H := Aside.mk (H.out.step hb); clear hb x12)
    | (with_reducible refine stop_at (.store 168 (.tmp 54) (.tmp 52)) rfl ?_))
  refine ⟨?_⟩
  refine st_store rfl rfl rfl [.int .i64 dk, .int .i64 dc, .int .i64 ds, .int .i64 d_o, .int .i64 dy] (({ x with was := v, k := dk, c := dc, st := ds, o := d_o, y := dy } : Sw)).cells rfl rfl rfl (Nat.le_of_ble_eq_true rfl) (by simp [Value.oneCell']) ((H.out.alloc [.int .i64 dk, .int .i64 dc, .int .i64 ds, .int .i64 d_o, .int .i64 dy].toArray 168).pick 5 rfl) rfl ?_
  intro w6 h6
  replace H : Aside (St w0 w6 (Are p a gC who false X lv1 (l ++ [⟨who, 1, i, 0, 0, v, v⟩]) (cn + 1) fl ++ swB s ({ x with was := v, k := dk, c := dc, st := ds, o := d_o, y := dy } : Sw) :: blk w5.heap.size [.int .i64 dk, .int .i64 dc, .int .i64 ds, .int .i64 d_o, .int .i64 dy].toArray 168 :: F)) := Aside.mk (back2_ h6)
  clear h6
  have z6 := (H.out.pick 4 rfl).cell 6
  have f6 := (H.out.pick 4 rfl).frozen 6
  go_wp2_with (go_at_call 154; go_loud (refine (sdue_ (x := ({ x with was := v, k := dk, c := dc, st := ds, o := d_o, y := dy, at_ := 1 } : Sw)) HIE.out HPG.out ((H.out.pick 4 rfl).put 6 (.int .i64 1) rfl)).mono ?_); rintro e w7 ⟨he, h7⟩; replace he : e = .returned (.bool true) := he.trans (congrArg (fun b => Ending.returned (.bool b)) HDU.out); subst he; replace H : Aside (St w0 w7 (Are p a gC who false X lv1 (l ++ [⟨who, 1, i, 0, 0, v, v⟩]) (cn + 1) fl ++ swB s ({ x with was := v, k := dk, c := dc, st := ds, o := d_o, y := dy, at_ := 1 } : Sw) :: blk w5.heap.size [.int .i64 dk, .int .i64 dc, .int .i64 ds, .int .i64 d_o, .int .i64 dy].toArray 168 :: F)) := Aside.mk (back_ (L := Are p a gC who false X lv1 (l ++ [⟨who, 1, i, 0, 0, v, v⟩]) (cn + 1) fl) h7); clear h7 z6 f6; have z6 := (H.out.pick 4 rfl).cell 6)
  go_ret
  refine ⟨lv1, rfl, ?_⟩
  exact back_ (L := Are p a gC who false X lv1 (l ++ [⟨who, 1, i, 0, 0, v, v⟩]) (cn + 1) fl) ((H.out.pick 4 rfl).pick 5 rfl).rest
end Go.Proofs.YtelfiegocdjnoaaDoor.Ar
