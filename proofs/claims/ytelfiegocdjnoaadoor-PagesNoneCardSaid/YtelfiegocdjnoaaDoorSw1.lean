/- A sweep's steps: what each one does to the sweep and to the arena. Conditions: the arena's port has a grant; the plan is right; the page is one of its pages. -/
import Derived.Test.YtelfiegocdjnoaaDoorSw0
import Derived.Test.YtelfiegocdjnoaaDoorMrF0
namespace Go.Proofs.YtelfiegocdjnoaaDoor.Ar
open Go Go.RowKit Go.Proofs.YtelfiegocdjnoaaDoor.Sep Go.Proofs.YtelfiegocdjnoaaDoor.Pg Go.Proofs.YtelfiegocdjnoaaDoorW.PrintWords Go.Proofs.YtelfiegocdjnoaaDoorW.PrintLast Go.Proofs.YtelfiegocdjnoaaDoorW.PrintMore Go.Proofs.YtelfiegocdjnoaaDoor.Q
set_option linter.unusedVariables false
set_option linter.unusedSimpArgs false
set_option maxHeartbeats 8000000
set_option maxRecDepth 100000
variable {w0 w : World} {F : List HP} {a gC p s : Nat} {lv : Value} {l : List Acc} {cn fl who : Int} {X : List Int} {x : Sw}
/-- The sweep's plan, and its page. -/
structure Pl (P T page : Nat) (x : Sw) : Prop where
  (hP : P < 5) (hT : T < 3) (hi : page < P + 1) (pp : x.pp = (P : Int) + 1) (pt : x.pt = (T : Int) + 1) (pr : x.pr = 1) (pg : x.page = page)
def adr (P T tb page : Nat) : Nat := 22 + 6 * T + tb * (P + 1) + page
theorem adr_lt {P T tb page : Nat} (hP : P < 5) (hT : T < 3) (hi : page < P + 1) (ht : tb ≤ 2) : adr P T tb page < 128 + 64 * P := by
  unfold adr
  have : tb * (P + 1) ≤ 2 * (P + 1) := Nat.mul_le_mul_right _ ht
  omega
theorem adr_ (P T tb page : Nat) : 22 + 6 * (T : Int) + (tb : Int) * ((P : Int) + 1) + page = ((adr P T tb page : Nat) : Int) := by
  unfold adr
  push_cast
  rfl
theorem ent_ {P T page : Nat} (h : Pl P T page x) (j : Nat) (hj : j < P + 1) : layout_Plan_Entry.f x.pp x.pt x.pr j = some ((adr P T 0 j : Nat) : Int) := by
  unfold layout_Plan_Entry.f
  rw [h.pp, h.pt, h.pr]
  have := page_ P T j 0 h.hP h.hT hj (by decide)
  rw [show ((0 : Nat) : Int) = 0 from rfl] at this
  rw [this, Option.bind_some]
  have e := adr_ P T 0 j
  rw [show ((0 : Nat) : Int) = 0 from rfl] at e
  rw [e]
theorem all_ {P T page : Nat} (h : Pl P T page x) : layout_Plan_Alloc.f x.pp x.pt x.pr x.page = some ((adr P T 1 page : Nat) : Int) := by
  unfold layout_Plan_Alloc.f
  rw [h.pp, h.pt, h.pr, h.pg]
  have := page_ P T page 1 h.hP h.hT h.hi (by decide)
  rw [show ((1 : Nat) : Int) = 1 from rfl] at this
  rw [this, Option.bind_some]
  have e := adr_ P T 1 page
  rw [show ((1 : Nat) : Int) = 1 from rfl] at e
  rw [e]
theorem mrk_ {P T page : Nat} (h : Pl P T page x) : layout_Plan_Mark.f x.pp x.pt x.pr x.page = some ((adr P T 2 page : Nat) : Int) := by
  unfold layout_Plan_Mark.f
  rw [h.pp, h.pt, h.pr, h.pg]
  have := page_ P T page 2 h.hP h.hT h.hi (by decide)
  rw [show ((2 : Nat) : Int) = 2 from rfl] at this
  rw [this, Option.bind_some]
  have e := adr_ P T 2 page
  rw [show ((2 : Nat) : Int) = 2 from rfl] at e
  rw [e]
def sw.T19 : Bool × List (List Nat × List Nat) := (true, [([], []), ([], []), ([], []), ([], []), ([3], [3]), ([4], [4]), ([5], [5]), ([], []), ([7], [7]), ([8], [8]), ([9], [9]), ([6, 10], [6, 10]), ([2, 11, 11], [2, 11]), ([0, 0, 2, 3, 4, 5, 6, 7, 8, 9, 10, 11, 12], [0]), ([13, 0, 2, 3, 4, 5, 6, 7, 8, 9, 10, 11, 12], [13]), ([14, 12, 12, 0, 2, 3, 4, 5, 6, 7, 8, 9, 10, 11, 12], [12, 14]), ([1, 0, 1, 2, 3, 4, 5, 6, 7, 8, 9, 10, 11, 12, 13, 14, 15], [1]), ([16, 0, 1, 2, 3, 4, 5, 6, 7, 8, 9, 10, 11, 12, 13, 14, 15], [16]), ([17, 15, 0, 1, 2, 3, 4, 5, 6, 7, 8, 9, 10, 11, 12, 13, 14, 15], [17])])
def sw.B19 : List Nat := [0, 0, 0, 0, 8, 24, 56, 0, 128, 384, 896, 2040, 4092, 8189, 16381, 32765, 65535, 131071, 262143]
theorem sw.tab19 : rtab .any (opsOf Tryd.f112 19) = sw.T19 := by kernel_rfl
theorem sw.bits19 : waitsOk sw.T19.2 sw.B19 = true := by kernel_rfl
/-- It looks at the page's word. -/
theorem step2 {P T page : Nat} (hp : Pl P T page x) (hat : x.at_ = 2) (hX : X.length = 128 + 64 * P) (hl : l.length ≤ 100000) (hc0 : 0 ≤ cn) (hc1 : cn ≤ 100000) (h : St w0 w (Are p a gC who true X lv l cn fl ++ swB s x :: F)) :
    Calls Tryd.prog 112 #[swP s, .pointer (some ⟨p, 0, none⟩)] w fun e w' => ∃ lv', e = .returned (.bool false) ∧ St w0 w' (Are p a gC who false X lv' (l ++ [⟨who, 1, adr P T 2 page, 0, 0, X.getD (adr P T 2 page) 0, X.getD (adr P T 2 page) 0⟩]) (cn + 1) fl ++ swB s { x with mark := X.getD (adr P T 2 page) 0, at_ := 3 } :: F) := by
  have HE := Aside.mk (mrk_ hp)
  have hi : adr P T 2 page < X.length := by rw [hX]; exact adr_lt hp.hP hp.hT hp.hi (by decide)
  generalize hi0 : adr P T 2 page = i at HE hi ⊢
  have HX := Aside.mk (show X.length ≤ 4096 by have := hp.hP; omega)
  have HL := Aside.mk (show l.length ≤ 1000000 by omega)
  have HC := Aside.mk (show cn ≤ 1000000 by omega)
  have HI := Aside.mk hi
  have H0 := Aside.mk hc0
  have x0 : w.cell? ⟨s, 0, none⟩ = some (.int .i64 x.pp) := (h.pick 4 rfl).cell 0
  have x1 : w.cell? ⟨s, 1, none⟩ = some (.int .i64 x.pt) := (h.pick 4 rfl).cell 1
  have x2 : w.cell? ⟨s, 2, none⟩ = some (.int .i64 x.pr) := (h.pick 4 rfl).cell 2
  have x5 : w.cell? ⟨s, 5, none⟩ = some (.int .i64 x.page) := (h.pick 4 rfl).cell 5
  have x6 : w.cell? ⟨s, 6, none⟩ = some (.int .i64 x.at_) := (h.pick 4 rfl).cell 6
  rw [hat] at x6
  have H := Aside.mk h
  clear h hp hat hi0 hi hX hl hc0 hc1
  have HV : ∃ v, v = X.getD i 0 := ⟨_, rfl⟩
  obtain ⟨v, hv⟩ := HV
  have hload := fun (w : World) (h : St w0 w (Are p a gC who true X lv l cn fl ++ swB s x :: F)) => load_ i HI.out HX.out HL.out H0.out HC.out h
  rw [← hv] at hload ⊢
  replace hload := Aside.mk hload
  clear hv
  go_enter Tryd.func112, Tryd.ntmps112
  go_wp2_with (go_at_call 76; refine (open_ H.out).mono ?_; rintro e w1 ⟨rfl, rfl⟩)
  replace H := Aside.mk H.out.drew
  refine start_ (n := 19) (S := fun w' => w'.cell? ⟨s, 0, none⟩ = some (.int .i64 x.pp) ∧ w'.cell? ⟨s, 1, none⟩ = some (.int .i64 x.pt) ∧ w'.cell? ⟨s, 2, none⟩ = some (.int .i64 x.pr) ∧ w'.cell? ⟨s, 5, none⟩ = some (.int .i64 x.page)) (ds := []) (flg 19 0) (by kernel_rfl) rfl rfl (⟨(H.out.pick 4 rfl).cell 0, (H.out.pick 4 rfl).cell 1, (H.out.pick 4 rfl).cell 2, (H.out.pick 4 rfl).cell 5⟩) (fun hHeld => ?_)
  refine with_tabW sw.tab19 sw.bits19 (fun HT_ HW_ => ?_)
  refine pu_ (v := ?_) (a' := ?_) 0 (some 129) 1 rfl rfl HT_ (by kernel_rfl) (.inl ⟨by rfl, ?_⟩) ?_ ?_; rotate_left 2; (· intro w'; go_simp; with_reducible rfl); (· simp only [nrm]; rfl)
  refine pu_ (v := ?_) (a' := ?_) 1 (some 130) 3 rfl rfl HT_ (by kernel_rfl) (.inl ⟨by rfl, ?_⟩) ?_ ?_; rotate_left 2; (· intro w'; go_simp; with_reducible rfl); (· simp only [nrm]; rfl)
  refine pu_ (v := ?_) (a' := ?_) 2 (some 131) 7 rfl rfl HT_ (by kernel_rfl) (.inl ⟨by rfl, ?_⟩) ?_ ?_; rotate_left 2; (· intro w'; go_simp; with_reducible rfl); (· simp only [nrm]; rfl)
  refine pu_ (v := ?_) (a' := ?_) 3 (some 132) 15 rfl rfl HT_ (by kernel_rfl) (.inl ⟨by rfl, ?_⟩) ?_ ?_; rotate_left 2; (· intro w'; go_simp; with_reducible rfl); (· simp only [nrm]; rfl)
  refine pu_ (v := ?_) (a' := ?_) 4 (some 133) 31 rfl rfl HT_ (by kernel_rfl) (.inl ⟨by rfl, ?_⟩) ?_ ?_; rotate_left 2; (· intro w'; go_simp; with_reducible rfl); (· simp only [nrm]; rfl)
  refine pu_ (v := ?_) (a' := ?_) 5 (some 134) 63 rfl rfl HT_ (by kernel_rfl) (.inl ⟨by rfl, ?_⟩) ?_ ?_; rotate_left 2; (· intro w'; go_simp; with_reducible rfl); (· simp only [nrm]; rfl)
  refine tk_ (v := ?_) (a' := ?_) 6 (some 135) 127 rfl rfl HT_ HW_ (by kernel_rfl) (.inl ⟨by rfl, ?_⟩) hHeld ?_ ?_; rotate_left 2; (· rintro w' ⟨_, _, _, _⟩; go_simp; with_reducible rfl); (· simp only [nrm]; rfl)
  refine pu_ (v := ?_) (a' := ?_) 7 (some 136) 255 rfl rfl HT_ (by kernel_rfl) (.inl ⟨by rfl, ?_⟩) ?_ ?_; rotate_left 2; (· intro w'; go_simp; with_reducible rfl); (· simp only [nrm]; rfl)
  refine pu_ (v := ?_) (a' := ?_) 8 (some 137) 511 rfl rfl HT_ (by kernel_rfl) (.inl ⟨by rfl, ?_⟩) ?_ ?_; rotate_left 2; (· intro w'; go_simp; with_reducible rfl); (· simp only [nrm]; rfl)
  refine pu_ (v := ?_) (a' := ?_) 9 (some 138) 1023 rfl rfl HT_ (by kernel_rfl) (.inl ⟨by rfl, ?_⟩) ?_ ?_; rotate_left 2; (· intro w'; go_simp; with_reducible rfl); (· simp only [nrm]; rfl)
  refine tk_ (v := ?_) (a' := ?_) 10 (some 139) 2047 rfl rfl HT_ HW_ (by kernel_rfl) (.inl ⟨by rfl, ?_⟩) hHeld ?_ ?_; rotate_left 2; (· rintro w' ⟨_, _, _, _⟩; go_simp; with_reducible rfl); (· simp only [nrm]; rfl)
  refine on_ 11 (some 140) 4095 rfl rfl HT_ (by kernel_rfl) (by decide) (fun K hK => ?_)
  refine goes_ Tryd.func127 (by kernel_rfl) rfl #[.agg #[.int .i64 x.pp, .int .i64 x.pt, .int .i64 x.pr], .int .i64 x.page] (by rfl) rfl rfl (by (try simp only [List.map_toArray, List.map_cons, List.map_nil]); first | done | rfl) ?_
  refine (layout_Plan_Mark.calls _ _ _ _ _ _ HE.out).mono ?_
  rintro e w2 ⟨rfl, hb⟩
  replace H := Aside.mk (H.out.step hb)
  clear hb
  refine ⟨_, rfl, ?_⟩
  refine hK.out _ _ ⟨(H.out.pick 4 rfl).cell 0, (H.out.pick 4 rfl).cell 1, (H.out.pick 4 rfl).cell 2, (H.out.pick 4 rfl).cell 5⟩ (fun hHeld => ?_)
  clear hK K
  refine norm_ (a' := ?_) ?_ ?_
  rotate_left
  · show Act.put _ (some 140) _ = _
    simp only [nrm]
    rfl
  refine on_ 12 (some 141) 8191 rfl rfl HT_ (by kernel_rfl) (by decide) (fun K hK => ?_)
  refine goes_ Tryd.func122 (by kernel_rfl) rfl #[.pointer (some ⟨p, 0, none⟩), .int .i64 i] (by rfl) rfl rfl (by (try simp only [List.map_toArray, List.map_cons, List.map_nil]); first | done | rfl) ?_
  refine (hload.out _ H.out).mono ?_
  rintro e w3 ⟨lv1, rfl, h1⟩
  replace H := Aside.mk h1
  clear h1
  refine ⟨_, rfl, ?_⟩
  refine hK.out _ _ ⟨(H.out.pick 4 rfl).cell 0, (H.out.pick 4 rfl).cell 1, (H.out.pick 4 rfl).cell 2, (H.out.pick 4 rfl).cell 5⟩ (fun hHeld => ?_)
  clear hK K
  refine norm_ (a' := ?_) ?_ ?_
  rotate_left
  · show Act.put _ (some 141) _ = _
    simp only [nrm]
    rfl
  refine pu_ (v := ?_) (a' := ?_) 13 (some 142) 16383 rfl rfl HT_ (by kernel_rfl) (.inl ⟨by rfl, ?_⟩) ?_ ?_; rotate_left 2; (· intro w'; go_simp; with_reducible rfl); (· simp only [nrm]; rfl)
  refine pu_ (v := ?_) (a' := ?_) 14 (some 143) 32767 rfl rfl HT_ (by kernel_rfl) (.inl ⟨by rfl, ?_⟩) ?_ ?_; rotate_left 2; (· intro w'; go_simp; with_reducible rfl); (· simp only [nrm]; rfl)
  refine on_ 15 (none) 65535 rfl rfl HT_ (by kernel_rfl) (by decide) (fun K hK => ?_)
  have k1 := (H.out.pick 4 rfl).cell 13
  have kf := (H.out.pick 4 rfl).frozen 13
  refine skip_ (w1 := ?_) (by rfl) rfl ?_ ?_
  rotate_left
  · go_simp
    rfl
  replace H := Aside.mk (back_ (L := Are p a gC who false X lv1 (l ++ [⟨who, 1, i, 0, 0, v, v⟩]) (cn + 1) fl) (R := F) ((H.out.pick 4 rfl).put 13 (.int .u64 v) rfl))
  clear k1 kf
  refine hK.out _ _ ⟨(H.out.pick 4 rfl).cell 0, (H.out.pick 4 rfl).cell 1, (H.out.pick 4 rfl).cell 2, (H.out.pick 4 rfl).cell 5⟩ (fun hHeld => ?_)
  clear hK K
  refine pu_ (v := ?_) (a' := ?_) 16 (some 144) 131071 rfl rfl HT_ (by kernel_rfl) (.inl ⟨by rfl, ?_⟩) ?_ ?_; rotate_left 2; (· intro w'; go_simp; with_reducible rfl); (· simp only [nrm]; rfl)
  refine pu_ (v := ?_) (a' := ?_) 17 (some 145) 262143 rfl rfl HT_ (by kernel_rfl) (.inl ⟨by rfl, ?_⟩) ?_ ?_; rotate_left 2; (· intro w'; go_simp; with_reducible rfl); (· simp only [nrm]; rfl)
  refine on_ 18 (none) 524287 rfl rfl HT_ (by kernel_rfl) (by decide) (fun K hK => ?_)
  have k1 := (H.out.pick 4 rfl).cell 6
  have kf := (H.out.pick 4 rfl).frozen 6
  refine skip_ (w1 := ?_) (by rfl) rfl ?_ ?_
  rotate_left
  · go_simp
    rfl
  replace H := Aside.mk (back_ (L := Are p a gC who false X lv1 (l ++ [⟨who, 1, i, 0, 0, v, v⟩]) (cn + 1) fl) (R := F) ((H.out.pick 4 rfl).put 6 (.int .i64 3) rfl))
  clear k1 kf
  refine hK.out _ _ ⟨(H.out.pick 4 rfl).cell 0, (H.out.pick 4 rfl).cell 1, (H.out.pick 4 rfl).cell 2, (H.out.pick 4 rfl).cell 5⟩ (fun hHeld => ?_)
  clear hK K
  refine done_ (done_of HT_.out (by kernel_rfl)) ?_
  clear HT_ HW_ hHeld
  have z6 := (H.out.pick 4 rfl).cell 6
  go_wp2
  go_ret
  exact ⟨_, rfl, H.out⟩
def sw.T21 : Bool × List (List Nat × List Nat) := (true, [([], []), ([], []), ([], []), ([], []), ([3], [3]), ([4], [4]), ([5], [5]), ([], []), ([7], [7]), ([8], [8]), ([9], [9]), ([6, 10], [6, 10]), ([2, 11, 11], [2, 11]), ([0, 0, 2, 3, 4, 5, 6, 7, 8, 9, 10, 11, 12], [0]), ([13, 0, 2, 3, 4, 5, 6, 7, 8, 9, 10, 11, 12], [13]), ([14, 12, 12, 0, 2, 3, 4, 5, 6, 7, 8, 9, 10, 11, 12], [12, 14]), ([1, 0, 1, 2, 3, 4, 5, 6, 7, 8, 9, 10, 11, 12, 13, 14, 15], [1]), ([16, 0, 1, 2, 3, 4, 5, 6, 7, 8, 9, 10, 11, 12, 13, 14, 15], [16]), ([17, 15, 0, 1, 2, 3, 4, 5, 6, 7, 8, 9, 10, 11, 12, 13, 14, 15], [17])])
def sw.B21 : List Nat := [0, 0, 0, 0, 8, 24, 56, 0, 128, 384, 896, 2040, 4092, 8189, 16381, 32765, 65535, 131071, 262143]
theorem sw.tab21 : rtab .any (opsOf Tryd.f112 21) = sw.T21 := by kernel_rfl
theorem sw.bits21 : waitsOk sw.T21.2 sw.B21 = true := by kernel_rfl
/-- It looks at the page's word. -/
theorem step3 {P T page : Nat} (hp : Pl P T page x) (hat : x.at_ = 3) (hX : X.length = 128 + 64 * P) (hl : l.length ≤ 100000) (hc0 : 0 ≤ cn) (hc1 : cn ≤ 100000) (h : St w0 w (Are p a gC who true X lv l cn fl ++ swB s x :: F)) :
    Calls Tryd.prog 112 #[swP s, .pointer (some ⟨p, 0, none⟩)] w fun e w' => ∃ lv', e = .returned (.bool false) ∧ St w0 w' (Are p a gC who false X lv' (l ++ [⟨who, 1, adr P T 1 page, 0, 0, X.getD (adr P T 1 page) 0, X.getD (adr P T 1 page) 0⟩]) (cn + 1) fl ++ swB s { x with alloc := X.getD (adr P T 1 page) 0, at_ := 4 } :: F) := by
  have HE := Aside.mk (all_ hp)
  have hi : adr P T 1 page < X.length := by rw [hX]; exact adr_lt hp.hP hp.hT hp.hi (by decide)
  generalize hi0 : adr P T 1 page = i at HE hi ⊢
  have HX := Aside.mk (show X.length ≤ 4096 by have := hp.hP; omega)
  have HL := Aside.mk (show l.length ≤ 1000000 by omega)
  have HC := Aside.mk (show cn ≤ 1000000 by omega)
  have HI := Aside.mk hi
  have H0 := Aside.mk hc0
  have x0 : w.cell? ⟨s, 0, none⟩ = some (.int .i64 x.pp) := (h.pick 4 rfl).cell 0
  have x1 : w.cell? ⟨s, 1, none⟩ = some (.int .i64 x.pt) := (h.pick 4 rfl).cell 1
  have x2 : w.cell? ⟨s, 2, none⟩ = some (.int .i64 x.pr) := (h.pick 4 rfl).cell 2
  have x5 : w.cell? ⟨s, 5, none⟩ = some (.int .i64 x.page) := (h.pick 4 rfl).cell 5
  have x6 : w.cell? ⟨s, 6, none⟩ = some (.int .i64 x.at_) := (h.pick 4 rfl).cell 6
  rw [hat] at x6
  have H := Aside.mk h
  clear h hp hat hi0 hi hX hl hc0 hc1
  have HV : ∃ v, v = X.getD i 0 := ⟨_, rfl⟩
  obtain ⟨v, hv⟩ := HV
  have hload := fun (w : World) (h : St w0 w (Are p a gC who true X lv l cn fl ++ swB s x :: F)) => load_ i HI.out HX.out HL.out H0.out HC.out h
  rw [← hv] at hload ⊢
  replace hload := Aside.mk hload
  clear hv
  go_enter Tryd.func112, Tryd.ntmps112
  go_wp2_with (go_at_call 76; refine (open_ H.out).mono ?_; rintro e w1 ⟨rfl, rfl⟩)
  replace H := Aside.mk H.out.drew
  refine start_ (n := 19) (S := fun w' => w'.cell? ⟨s, 0, none⟩ = some (.int .i64 x.pp) ∧ w'.cell? ⟨s, 1, none⟩ = some (.int .i64 x.pt) ∧ w'.cell? ⟨s, 2, none⟩ = some (.int .i64 x.pr) ∧ w'.cell? ⟨s, 5, none⟩ = some (.int .i64 x.page)) (ds := []) (flg 19 0) (by kernel_rfl) rfl rfl (⟨(H.out.pick 4 rfl).cell 0, (H.out.pick 4 rfl).cell 1, (H.out.pick 4 rfl).cell 2, (H.out.pick 4 rfl).cell 5⟩) (fun hHeld => ?_)
  refine with_tabW sw.tab21 sw.bits21 (fun HT_ HW_ => ?_)
  refine pu_ (v := ?_) (a' := ?_) 0 (some 148) 1 rfl rfl HT_ (by kernel_rfl) (.inl ⟨by rfl, ?_⟩) ?_ ?_; rotate_left 2; (· intro w'; go_simp; with_reducible rfl); (· simp only [nrm]; rfl)
  refine pu_ (v := ?_) (a' := ?_) 1 (some 149) 3 rfl rfl HT_ (by kernel_rfl) (.inl ⟨by rfl, ?_⟩) ?_ ?_; rotate_left 2; (· intro w'; go_simp; with_reducible rfl); (· simp only [nrm]; rfl)
  refine pu_ (v := ?_) (a' := ?_) 2 (some 150) 7 rfl rfl HT_ (by kernel_rfl) (.inl ⟨by rfl, ?_⟩) ?_ ?_; rotate_left 2; (· intro w'; go_simp; with_reducible rfl); (· simp only [nrm]; rfl)
  refine pu_ (v := ?_) (a' := ?_) 3 (some 151) 15 rfl rfl HT_ (by kernel_rfl) (.inl ⟨by rfl, ?_⟩) ?_ ?_; rotate_left 2; (· intro w'; go_simp; with_reducible rfl); (· simp only [nrm]; rfl)
  refine pu_ (v := ?_) (a' := ?_) 4 (some 152) 31 rfl rfl HT_ (by kernel_rfl) (.inl ⟨by rfl, ?_⟩) ?_ ?_; rotate_left 2; (· intro w'; go_simp; with_reducible rfl); (· simp only [nrm]; rfl)
  refine pu_ (v := ?_) (a' := ?_) 5 (some 153) 63 rfl rfl HT_ (by kernel_rfl) (.inl ⟨by rfl, ?_⟩) ?_ ?_; rotate_left 2; (· intro w'; go_simp; with_reducible rfl); (· simp only [nrm]; rfl)
  refine tk_ (v := ?_) (a' := ?_) 6 (some 154) 127 rfl rfl HT_ HW_ (by kernel_rfl) (.inl ⟨by rfl, ?_⟩) hHeld ?_ ?_; rotate_left 2; (· rintro w' ⟨_, _, _, _⟩; go_simp; with_reducible rfl); (· simp only [nrm]; rfl)
  refine pu_ (v := ?_) (a' := ?_) 7 (some 155) 255 rfl rfl HT_ (by kernel_rfl) (.inl ⟨by rfl, ?_⟩) ?_ ?_; rotate_left 2; (· intro w'; go_simp; with_reducible rfl); (· simp only [nrm]; rfl)
  refine pu_ (v := ?_) (a' := ?_) 8 (some 156) 511 rfl rfl HT_ (by kernel_rfl) (.inl ⟨by rfl, ?_⟩) ?_ ?_; rotate_left 2; (· intro w'; go_simp; with_reducible rfl); (· simp only [nrm]; rfl)
  refine pu_ (v := ?_) (a' := ?_) 9 (some 157) 1023 rfl rfl HT_ (by kernel_rfl) (.inl ⟨by rfl, ?_⟩) ?_ ?_; rotate_left 2; (· intro w'; go_simp; with_reducible rfl); (· simp only [nrm]; rfl)
  refine tk_ (v := ?_) (a' := ?_) 10 (some 158) 2047 rfl rfl HT_ HW_ (by kernel_rfl) (.inl ⟨by rfl, ?_⟩) hHeld ?_ ?_; rotate_left 2; (· rintro w' ⟨_, _, _, _⟩; go_simp; with_reducible rfl); (· simp only [nrm]; rfl)
  refine on_ 11 (some 159) 4095 rfl rfl HT_ (by kernel_rfl) (by decide) (fun K hK => ?_)
  refine goes_ Tryd.func93 (by kernel_rfl) rfl #[.agg #[.int .i64 x.pp, .int .i64 x.pt, .int .i64 x.pr], .int .i64 x.page] (by rfl) rfl rfl (by (try simp only [List.map_toArray, List.map_cons, List.map_nil]); first | done | rfl) ?_
  refine (layout_Plan_Alloc.calls _ _ _ _ _ _ HE.out).mono ?_
  rintro e w2 ⟨rfl, hb⟩
  replace H := Aside.mk (H.out.step hb)
  clear hb
  refine ⟨_, rfl, ?_⟩
  refine hK.out _ _ ⟨(H.out.pick 4 rfl).cell 0, (H.out.pick 4 rfl).cell 1, (H.out.pick 4 rfl).cell 2, (H.out.pick 4 rfl).cell 5⟩ (fun hHeld => ?_)
  clear hK K
  refine norm_ (a' := ?_) ?_ ?_
  rotate_left
  · show Act.put _ (some 159) _ = _
    simp only [nrm]
    rfl
  refine on_ 12 (some 160) 8191 rfl rfl HT_ (by kernel_rfl) (by decide) (fun K hK => ?_)
  refine goes_ Tryd.func122 (by kernel_rfl) rfl #[.pointer (some ⟨p, 0, none⟩), .int .i64 i] (by rfl) rfl rfl (by (try simp only [List.map_toArray, List.map_cons, List.map_nil]); first | done | rfl) ?_
  refine (hload.out _ H.out).mono ?_
  rintro e w3 ⟨lv1, rfl, h1⟩
  replace H := Aside.mk h1
  clear h1
  refine ⟨_, rfl, ?_⟩
  refine hK.out _ _ ⟨(H.out.pick 4 rfl).cell 0, (H.out.pick 4 rfl).cell 1, (H.out.pick 4 rfl).cell 2, (H.out.pick 4 rfl).cell 5⟩ (fun hHeld => ?_)
  clear hK K
  refine norm_ (a' := ?_) ?_ ?_
  rotate_left
  · show Act.put _ (some 160) _ = _
    simp only [nrm]
    rfl
  refine pu_ (v := ?_) (a' := ?_) 13 (some 161) 16383 rfl rfl HT_ (by kernel_rfl) (.inl ⟨by rfl, ?_⟩) ?_ ?_; rotate_left 2; (· intro w'; go_simp; with_reducible rfl); (· simp only [nrm]; rfl)
  refine pu_ (v := ?_) (a' := ?_) 14 (some 162) 32767 rfl rfl HT_ (by kernel_rfl) (.inl ⟨by rfl, ?_⟩) ?_ ?_; rotate_left 2; (· intro w'; go_simp; with_reducible rfl); (· simp only [nrm]; rfl)
  refine on_ 15 (none) 65535 rfl rfl HT_ (by kernel_rfl) (by decide) (fun K hK => ?_)
  have k1 := (H.out.pick 4 rfl).cell 14
  have kf := (H.out.pick 4 rfl).frozen 14
  refine skip_ (w1 := ?_) (by rfl) rfl ?_ ?_
  rotate_left
  · go_simp
    rfl
  replace H := Aside.mk (back_ (L := Are p a gC who false X lv1 (l ++ [⟨who, 1, i, 0, 0, v, v⟩]) (cn + 1) fl) (R := F) ((H.out.pick 4 rfl).put 14 (.int .u64 v) rfl))
  clear k1 kf
  refine hK.out _ _ ⟨(H.out.pick 4 rfl).cell 0, (H.out.pick 4 rfl).cell 1, (H.out.pick 4 rfl).cell 2, (H.out.pick 4 rfl).cell 5⟩ (fun hHeld => ?_)
  clear hK K
  refine pu_ (v := ?_) (a' := ?_) 16 (some 163) 131071 rfl rfl HT_ (by kernel_rfl) (.inl ⟨by rfl, ?_⟩) ?_ ?_; rotate_left 2; (· intro w'; go_simp; with_reducible rfl); (· simp only [nrm]; rfl)
  refine pu_ (v := ?_) (a' := ?_) 17 (some 164) 262143 rfl rfl HT_ (by kernel_rfl) (.inl ⟨by rfl, ?_⟩) ?_ ?_; rotate_left 2; (· intro w'; go_simp; with_reducible rfl); (· simp only [nrm]; rfl)
  refine on_ 18 (none) 524287 rfl rfl HT_ (by kernel_rfl) (by decide) (fun K hK => ?_)
  have k1 := (H.out.pick 4 rfl).cell 6
  have kf := (H.out.pick 4 rfl).frozen 6
  refine skip_ (w1 := ?_) (by rfl) rfl ?_ ?_
  rotate_left
  · go_simp
    rfl
  replace H := Aside.mk (back_ (L := Are p a gC who false X lv1 (l ++ [⟨who, 1, i, 0, 0, v, v⟩]) (cn + 1) fl) (R := F) ((H.out.pick 4 rfl).put 6 (.int .i64 4) rfl))
  clear k1 kf
  refine hK.out _ _ ⟨(H.out.pick 4 rfl).cell 0, (H.out.pick 4 rfl).cell 1, (H.out.pick 4 rfl).cell 2, (H.out.pick 4 rfl).cell 5⟩ (fun hHeld => ?_)
  clear hK K
  refine done_ (done_of HT_.out (by kernel_rfl)) ?_
  clear HT_ HW_ hHeld
  have z6 := (H.out.pick 4 rfl).cell 6
  go_wp2
  go_ret
  exact ⟨_, rfl, H.out⟩
def sw.T24 : Bool × List (List Nat × List Nat) := (true, [([], []), ([], []), ([1], [1]), ([2], [2]), ([3], [3]), ([], []), ([5], [5]), ([6], [6]), ([7], [7]), ([4, 8], [4, 8]), ([], []), ([0, 9, 10, 9], [0, 9, 10])])
def sw.B24 : List Nat := [0, 0, 2, 6, 14, 0, 32, 96, 224, 510, 0, 2047]
theorem sw.tab24 : rtab .any (opsOf Tryd.f112 24) = sw.T24 := by kernel_rfl
theorem sw.bits24 : waitsOk sw.T24.2 sw.B24 = true := by kernel_rfl
/-- What stays is stored. -/
theorem step4 {P T page : Nat} (hp : Pl P T page x) (hat : x.at_ = 4) (hX : X.length = 128 + 64 * P) (hl : l.length ≤ 100000) (hc0 : 0 ≤ cn) (hc1 : cn ≤ 100000) (n : Int) (hn : word_Ones.f (Go.bits .andNot .u64 x.alloc x.left) = some n) (h : St w0 w (Are p a gC who true X lv l cn fl ++ swB s x :: F)) :
    Calls Tryd.prog 112 #[swP s, .pointer (some ⟨p, 0, none⟩)] w fun e w' => ∃ lv', e = .returned (.bool false) ∧ St w0 w' (Are p a gC who false (X.set (adr P T 1 page) x.left) lv' (l ++ [⟨who, 2, adr P T 1 page, 0, x.left, X.getD (adr P T 1 page) 0, x.left⟩]) (cn + 1) fl ++ swB s { x with freed := n, empty := x.left == 0, at_ := 5 } :: F) := by
  have HE := Aside.mk (all_ hp)
  have hi : adr P T 1 page < X.length := by rw [hX]; exact adr_lt hp.hP hp.hT (by have := hp.hi; omega) (by decide)
  generalize hi0 : adr P T 1 page = i at HE hi ⊢
  have HX := Aside.mk (show X.length ≤ 4096 by have := hp.hP; omega)
  have HL := Aside.mk (show l.length ≤ 1000000 by omega)
  have HC := Aside.mk (show cn ≤ 1000000 by omega)
  have HI := Aside.mk hi
  have H0 := Aside.mk hc0
  have HAT := Aside.mk hat
  have x0 : w.cell? ⟨s, 0, none⟩ = some (.int .i64 x.pp) := (h.pick 4 rfl).cell 0
  have x1 : w.cell? ⟨s, 1, none⟩ = some (.int .i64 x.pt) := (h.pick 4 rfl).cell 1
  have x2 : w.cell? ⟨s, 2, none⟩ = some (.int .i64 x.pr) := (h.pick 4 rfl).cell 2
  have x5 : w.cell? ⟨s, 5, none⟩ = some (.int .i64 x.page) := (h.pick 4 rfl).cell 5
  have x6 : w.cell? ⟨s, 6, none⟩ = some (.int .i64 x.at_) := (h.pick 4 rfl).cell 6
  have x14 : w.cell? ⟨s, 14, none⟩ = some (.int .u64 x.alloc) := (h.pick 4 rfl).cell 14
  rw [hat] at x6
  have H := Aside.mk h
  have HN := Aside.mk hn
  have hleft := Aside.mk (fun (w : World) (h : St w0 w (swB s x :: (Are p a gC who true X lv l cn fl ++ F))) => sleft_ h)
  generalize x.left = v at HN hleft ⊢
  clear h hp hat hi0 hi hX hl hc0 hc1 hn
  have hstore := Aside.mk (fun (w : World) (h : St w0 w (Are p a gC who true X lv l cn fl ++ swB s x :: F)) => store_ i (v) HI.out HX.out HL.out H0.out HC.out h)
  go_enter Tryd.func112, Tryd.ntmps112
  go_wp2_with (first
    | (go_at_call 76; refine (open_ H.out).mono ?_; rintro e w1 ⟨rfl, rfl⟩)
    | (go_at_call 156; refine (hleft.out _ (H.out.pick 4 rfl)).mono ?_; rintro e w1 ⟨rfl, h1⟩; replace H := Aside.mk (back_ (L := Are p a gC who true X lv l cn fl) (R := F) h1); clear h1))
  replace H := Aside.mk H.out.drew
  refine start_ (n := 12) (S := fun w' => w'.cell? ⟨s, 0, none⟩ = some (.int .i64 x.pp) ∧ w'.cell? ⟨s, 1, none⟩ = some (.int .i64 x.pt) ∧ w'.cell? ⟨s, 2, none⟩ = some (.int .i64 x.pr) ∧ w'.cell? ⟨s, 5, none⟩ = some (.int .i64 x.page)) (ds := []) (flg 12 0) (by kernel_rfl) rfl rfl (⟨(H.out.pick 4 rfl).cell 0, (H.out.pick 4 rfl).cell 1, (H.out.pick 4 rfl).cell 2, (H.out.pick 4 rfl).cell 5⟩) (fun hHeld => ?_)
  refine with_tabW sw.tab24 sw.bits24 (fun HT_ HW_ => ?_)
  refine pu_ (v := ?_) (a' := ?_) 0 (some 169) 1 rfl rfl HT_ (by kernel_rfl) (.inl ⟨by rfl, ?_⟩) ?_ ?_; rotate_left 2; (· intro w'; go_simp; with_reducible rfl); (· simp only [nrm]; rfl)
  refine pu_ (v := ?_) (a' := ?_) 1 (some 170) 3 rfl rfl HT_ (by kernel_rfl) (.inl ⟨by rfl, ?_⟩) ?_ ?_; rotate_left 2; (· intro w'; go_simp; with_reducible rfl); (· simp only [nrm]; rfl)
  refine pu_ (v := ?_) (a' := ?_) 2 (some 171) 7 rfl rfl HT_ (by kernel_rfl) (.inl ⟨by rfl, ?_⟩) ?_ ?_; rotate_left 2; (· intro w'; go_simp; with_reducible rfl); (· simp only [nrm]; rfl)
  refine pu_ (v := ?_) (a' := ?_) 3 (some 172) 15 rfl rfl HT_ (by kernel_rfl) (.inl ⟨by rfl, ?_⟩) ?_ ?_; rotate_left 2; (· intro w'; go_simp; with_reducible rfl); (· simp only [nrm]; rfl)
  refine tk_ (v := ?_) (a' := ?_) 4 (some 173) 31 rfl rfl HT_ HW_ (by kernel_rfl) (.inl ⟨by rfl, ?_⟩) hHeld ?_ ?_; rotate_left 2; (· rintro w' ⟨_, _, _, _⟩; go_simp; with_reducible rfl); (· simp only [nrm]; rfl)
  refine pu_ (v := ?_) (a' := ?_) 5 (some 174) 63 rfl rfl HT_ (by kernel_rfl) (.inl ⟨by rfl, ?_⟩) ?_ ?_; rotate_left 2; (· intro w'; go_simp; with_reducible rfl); (· simp only [nrm]; rfl)
  refine pu_ (v := ?_) (a' := ?_) 6 (some 175) 127 rfl rfl HT_ (by kernel_rfl) (.inl ⟨by rfl, ?_⟩) ?_ ?_; rotate_left 2; (· intro w'; go_simp; with_reducible rfl); (· simp only [nrm]; rfl)
  refine pu_ (v := ?_) (a' := ?_) 7 (some 176) 255 rfl rfl HT_ (by kernel_rfl) (.inl ⟨by rfl, ?_⟩) ?_ ?_; rotate_left 2; (· intro w'; go_simp; with_reducible rfl); (· simp only [nrm]; rfl)
  refine tk_ (v := ?_) (a' := ?_) 8 (some 177) 511 rfl rfl HT_ HW_ (by kernel_rfl) (.inl ⟨by rfl, ?_⟩) hHeld ?_ ?_; rotate_left 2; (· rintro w' ⟨_, _, _, _⟩; go_simp; with_reducible rfl); (· simp only [nrm]; rfl)
  refine pu_ (v := ?_) (a' := ?_) 10 (some 179) 1535 rfl rfl HT_ (by kernel_rfl) (.inl ⟨by rfl, ?_⟩) ?_ ?_; rotate_left 2; (· intro w'; go_simp; with_reducible rfl); (· simp only [nrm]; rfl)
  refine on_ 9 (some 178) 2047 rfl rfl HT_ (by kernel_rfl) (by decide) (fun K hK => ?_)
  refine goes_ Tryd.func93 (by kernel_rfl) rfl #[.agg #[.int .i64 x.pp, .int .i64 x.pt, .int .i64 x.pr], .int .i64 x.page] (by rfl) rfl rfl (by (try simp only [List.map_toArray, List.map_cons, List.map_nil]); first | done | rfl) ?_
  refine (layout_Plan_Alloc.calls _ _ _ _ _ _ HE.out).mono ?_
  rintro e w2 ⟨rfl, hb⟩
  replace H := Aside.mk (H.out.step hb)
  clear hb
  refine ⟨_, rfl, ?_⟩
  refine hK.out _ _ ⟨(H.out.pick 4 rfl).cell 0, (H.out.pick 4 rfl).cell 1, (H.out.pick 4 rfl).cell 2, (H.out.pick 4 rfl).cell 5⟩ (fun hHeld => ?_)
  clear hK K
  refine norm_ (a' := ?_) ?_ ?_
  rotate_left
  · show Act.put _ (some 178) _ = _
    simp only [nrm]
    rfl
  refine on_ 11 (some 180) 4095 rfl rfl HT_ (by kernel_rfl) (by decide) (fun K hK => ?_)
  refine goes_ Tryd.func77 (by kernel_rfl) rfl #[.pointer (some ⟨p, 0, none⟩), .int .i64 i, .int .u64 v] (by rfl) rfl rfl (by (try simp only [List.map_toArray, List.map_cons, List.map_nil]); first | done | rfl) ?_
  refine (hstore.out _ H.out).mono ?_
  rintro e w3 ⟨lv1, rfl, h1⟩
  replace H := Aside.mk h1
  clear h1
  refine ⟨_, rfl, ?_⟩
  refine hK.out _ _ ⟨(H.out.pick 4 rfl).cell 0, (H.out.pick 4 rfl).cell 1, (H.out.pick 4 rfl).cell 2, (H.out.pick 4 rfl).cell 5⟩ (fun hHeld => ?_)
  clear hK K
  refine norm_ (a' := ?_) ?_ ?_
  rotate_left
  · show Act.put _ (some 180) _ = _
    simp only [nrm]
    rfl
  refine done_ (done_of HT_.out (by kernel_rfl)) ?_
  clear HT_ HW_ hHeld
  have z14 : w3.cell? ⟨s, 14, none⟩ = some (.int .u64 x.alloc) := (H.out.pick 4 rfl).cell 14
  have z17 := (H.out.pick 4 rfl).cell 17
  have z18 := (H.out.pick 4 rfl).cell 18
  have z6 := (H.out.pick 4 rfl).cell 6
  have f17 := (H.out.pick 4 rfl).frozen 17
  have f18 := (H.out.pick 4 rfl).frozen 18
  have f6 := (H.out.pick 4 rfl).frozen 6
  go_wp2_with (go_at_call 157; refine (word_Ones.calls _ n _ HN.out).mono ?_; rintro e w4 ⟨rfl, ⟨nd, rfl⟩⟩; replace H := Aside.mk (H.out.drewN nd); replace z17 := (H.out.pick 4 rfl).cell 17; replace z18 := (H.out.pick 4 rfl).cell 18; replace z6 := (H.out.pick 4 rfl).cell 6; replace f17 := (H.out.pick 4 rfl).frozen 17; replace f18 := (H.out.pick 4 rfl).frozen 18; replace f6 := (H.out.pick 4 rfl).frozen 6; clear z14)
  go_ret
  refine ⟨lv1, rfl, ?_⟩
  exact back_ (L := Are p a gC who false (X.set i v) lv1 (l ++ [⟨who, 2, i, 0, v, X.getD i 0, v⟩]) (cn + 1) fl) (R := F) ((((H.out.pick 4 rfl).put 17 (.int .i64 n) rfl).put 18 (.bool (v == 0)) rfl).put 6 (.int .i64 5) rfl)
def sw.T27 : Bool × List (List Nat × List Nat) := (true, [([], []), ([], []), ([1], [1]), ([2], [2]), ([3], [3]), ([], []), ([5], [5]), ([6], [6]), ([7], [7]), ([4, 8], [4, 8]), ([0, 9, 9], [0, 9])])
def sw.B27 : List Nat := [0, 0, 2, 6, 14, 0, 32, 96, 224, 510, 1023]
theorem sw.tab27 : rtab .any (opsOf Tryd.f112 27) = sw.T27 := by kernel_rfl
theorem sw.bits27 : waitsOk sw.T27.2 sw.B27 = true := by kernel_rfl
/-- The marks are cleared. -/
theorem step5a {P T page : Nat} (hp : Pl P T page x) (hat : x.at_ = 5) (hX : X.length = 128 + 64 * P) (hl : l.length ≤ 100000) (hc0 : 0 ≤ cn) (hc1 : cn ≤ 100000) (ht : x.empty = true ∧ x.k = 2 ∧ 1 < x.c ∧ x.c ≤ 4) (h : St w0 w (Are p a gC who true X lv l cn fl ++ swB s x :: F)) :
    Calls Tryd.prog 112 #[swP s, .pointer (some ⟨p, 0, none⟩)] w fun e w' => ∃ lv', e = .returned (.bool false) ∧ St w0 w' (Are p a gC who false (X.set (adr P T 2 page) 0) lv' (l ++ [⟨who, 2, adr P T 2 page, 0, 0, X.getD (adr P T 2 page) 0, 0⟩]) (cn + 1) fl ++ swB s { x with tail := x.c - 1, at_ := 6 } :: F) := by
  have HE := Aside.mk (mrk_ hp)
  have hi : adr P T 2 page < X.length := by rw [hX]; exact adr_lt hp.hP hp.hT (by have := hp.hi; omega) (by decide)
  generalize hi0 : adr P T 2 page = i at HE hi ⊢
  have HX := Aside.mk (show X.length ≤ 4096 by have := hp.hP; omega)
  have HL := Aside.mk (show l.length ≤ 1000000 by omega)
  have HC := Aside.mk (show cn ≤ 1000000 by omega)
  have HI := Aside.mk hi
  have H0 := Aside.mk hc0
  have HAT := Aside.mk hat
  have x0 : w.cell? ⟨s, 0, none⟩ = some (.int .i64 x.pp) := (h.pick 4 rfl).cell 0
  have x1 : w.cell? ⟨s, 1, none⟩ = some (.int .i64 x.pt) := (h.pick 4 rfl).cell 1
  have x2 : w.cell? ⟨s, 2, none⟩ = some (.int .i64 x.pr) := (h.pick 4 rfl).cell 2
  have x5 : w.cell? ⟨s, 5, none⟩ = some (.int .i64 x.page) := (h.pick 4 rfl).cell 5
  have x6 : w.cell? ⟨s, 6, none⟩ = some (.int .i64 x.at_) := (h.pick 4 rfl).cell 6
  rw [hat] at x6
  have H := Aside.mk h
  have hk : (x.k == 2) = true := by simp [ht.2.1]
  have hc : decide (1 < x.c) = true := by simp [ht.2.2.1]
  have hc9 : wrap64 (x.c - 1) = x.c - 1 := w_of _ (by omega) (by omega)
  have hem := ht.1
  clear h hp hat hi0 hi hX hl hc0 hc1 ht
  have hstore := Aside.mk (fun (w : World) (h : St w0 w (Are p a gC who true X lv l cn fl ++ swB s x :: F)) => store_ i (0) HI.out HX.out HL.out H0.out HC.out h)
  go_enter Tryd.func112, Tryd.ntmps112
  go_wp2_with (go_at_call 76; refine (open_ H.out).mono ?_; rintro e w1 ⟨rfl, rfl⟩)
  replace H := Aside.mk H.out.drew
  refine start_ (n := 11) (S := fun w' => w'.cell? ⟨s, 0, none⟩ = some (.int .i64 x.pp) ∧ w'.cell? ⟨s, 1, none⟩ = some (.int .i64 x.pt) ∧ w'.cell? ⟨s, 2, none⟩ = some (.int .i64 x.pr) ∧ w'.cell? ⟨s, 5, none⟩ = some (.int .i64 x.page)) (ds := []) (flg 11 0) (by kernel_rfl) rfl rfl (⟨(H.out.pick 4 rfl).cell 0, (H.out.pick 4 rfl).cell 1, (H.out.pick 4 rfl).cell 2, (H.out.pick 4 rfl).cell 5⟩) (fun hHeld => ?_)
  refine with_tabW sw.tab27 sw.bits27 (fun HT_ HW_ => ?_)
  refine pu_ (v := ?_) (a' := ?_) 0 (some 201) 1 rfl rfl HT_ (by kernel_rfl) (.inl ⟨by rfl, ?_⟩) ?_ ?_; rotate_left 2; (· intro w'; go_simp; with_reducible rfl); (· simp only [nrm]; rfl)
  refine pu_ (v := ?_) (a' := ?_) 1 (some 202) 3 rfl rfl HT_ (by kernel_rfl) (.inl ⟨by rfl, ?_⟩) ?_ ?_; rotate_left 2; (· intro w'; go_simp; with_reducible rfl); (· simp only [nrm]; rfl)
  refine pu_ (v := ?_) (a' := ?_) 2 (some 203) 7 rfl rfl HT_ (by kernel_rfl) (.inl ⟨by rfl, ?_⟩) ?_ ?_; rotate_left 2; (· intro w'; go_simp; with_reducible rfl); (· simp only [nrm]; rfl)
  refine pu_ (v := ?_) (a' := ?_) 3 (some 204) 15 rfl rfl HT_ (by kernel_rfl) (.inl ⟨by rfl, ?_⟩) ?_ ?_; rotate_left 2; (· intro w'; go_simp; with_reducible rfl); (· simp only [nrm]; rfl)
  refine tk_ (v := ?_) (a' := ?_) 4 (some 205) 31 rfl rfl HT_ HW_ (by kernel_rfl) (.inl ⟨by rfl, ?_⟩) hHeld ?_ ?_; rotate_left 2; (· rintro w' ⟨_, _, _, _⟩; go_simp; with_reducible rfl); (· simp only [nrm]; rfl)
  refine pu_ (v := ?_) (a' := ?_) 5 (some 206) 63 rfl rfl HT_ (by kernel_rfl) (.inl ⟨by rfl, ?_⟩) ?_ ?_; rotate_left 2; (· intro w'; go_simp; with_reducible rfl); (· simp only [nrm]; rfl)
  refine pu_ (v := ?_) (a' := ?_) 6 (some 207) 127 rfl rfl HT_ (by kernel_rfl) (.inl ⟨by rfl, ?_⟩) ?_ ?_; rotate_left 2; (· intro w'; go_simp; with_reducible rfl); (· simp only [nrm]; rfl)
  refine pu_ (v := ?_) (a' := ?_) 7 (some 208) 255 rfl rfl HT_ (by kernel_rfl) (.inl ⟨by rfl, ?_⟩) ?_ ?_; rotate_left 2; (· intro w'; go_simp; with_reducible rfl); (· simp only [nrm]; rfl)
  refine tk_ (v := ?_) (a' := ?_) 8 (some 209) 511 rfl rfl HT_ HW_ (by kernel_rfl) (.inl ⟨by rfl, ?_⟩) hHeld ?_ ?_; rotate_left 2; (· rintro w' ⟨_, _, _, _⟩; go_simp; with_reducible rfl); (· simp only [nrm]; rfl)
  refine on_ 9 (some 210) 1023 rfl rfl HT_ (by kernel_rfl) (by decide) (fun K hK => ?_)
  refine goes_ Tryd.func127 (by kernel_rfl) rfl #[.agg #[.int .i64 x.pp, .int .i64 x.pt, .int .i64 x.pr], .int .i64 x.page] (by rfl) rfl rfl (by (try simp only [List.map_toArray, List.map_cons, List.map_nil]); first | done | rfl) ?_
  refine (layout_Plan_Mark.calls _ _ _ _ _ _ HE.out).mono ?_
  rintro e w2 ⟨rfl, hb⟩
  replace H := Aside.mk (H.out.step hb)
  clear hb
  refine ⟨_, rfl, ?_⟩
  refine hK.out _ _ ⟨(H.out.pick 4 rfl).cell 0, (H.out.pick 4 rfl).cell 1, (H.out.pick 4 rfl).cell 2, (H.out.pick 4 rfl).cell 5⟩ (fun hHeld => ?_)
  clear hK K
  refine norm_ (a' := ?_) ?_ ?_
  rotate_left
  · show Act.put _ (some 210) _ = _
    simp only [nrm]
    rfl
  refine on_ 10 (some 211) 2047 rfl rfl HT_ (by kernel_rfl) (by decide) (fun K hK => ?_)
  refine goes_ Tryd.func77 (by kernel_rfl) rfl #[.pointer (some ⟨p, 0, none⟩), .int .i64 i, .int .u64 0] (by rfl) rfl rfl (by (try simp only [List.map_toArray, List.map_cons, List.map_nil]); first | done | rfl) ?_
  refine (hstore.out _ H.out).mono ?_
  rintro e w3 ⟨lv1, rfl, h1⟩
  replace H := Aside.mk h1
  clear h1
  refine ⟨_, rfl, ?_⟩
  refine hK.out _ _ ⟨(H.out.pick 4 rfl).cell 0, (H.out.pick 4 rfl).cell 1, (H.out.pick 4 rfl).cell 2, (H.out.pick 4 rfl).cell 5⟩ (fun hHeld => ?_)
  clear hK K
  refine norm_ (a' := ?_) ?_ ?_
  rotate_left
  · show Act.put _ (some 211) _ = _
    simp only [nrm]
    rfl
  refine done_ (done_of HT_.out (by kernel_rfl)) ?_
  clear HT_ HW_ hHeld
  have z6 := (H.out.pick 4 rfl).cell 6
  have f6 := (H.out.pick 4 rfl).frozen 6
  have z7 : w3.cell? ⟨s, 7, none⟩ = some (.int .i64 x.k) := (H.out.pick 4 rfl).cell 7
  have z8 : w3.cell? ⟨s, 8, none⟩ = some (.int .i64 x.c) := (H.out.pick 4 rfl).cell 8
  have z18 : w3.cell? ⟨s, 18, none⟩ = some (.bool x.empty) := (H.out.pick 4 rfl).cell 18
  have z15 := (H.out.pick 4 rfl).cell 15
  have f15 := (H.out.pick 4 rfl).frozen 15
  rw [hem] at z18
  go_wp2
  go_ret
  refine ⟨lv1, rfl, ?_⟩
  have H9 := back_ (L := Are p a gC who false (X.set i 0) lv1 (l ++ [⟨who, 2, i, 0, 0, X.getD i 0, 0⟩]) (cn + 1) fl) (R := F) (((((H.out.pick 4 rfl).put 6 (.int .i64 7) rfl)).put 15 (.int .i64 (x.c - 1)) rfl).put 6 (.int .i64 6) rfl)
  exact H9
/-- The marks are cleared. -/
theorem step5b {P T page : Nat} (hp : Pl P T page x) (hat : x.at_ = 5) (hX : X.length = 128 + 64 * P) (hl : l.length ≤ 100000) (hc0 : 0 ≤ cn) (hc1 : cn ≤ 100000) (ht : x.empty = true → x.k = 2 → x.c ≤ 1) (h : St w0 w (Are p a gC who true X lv l cn fl ++ swB s x :: F)) :
    Calls Tryd.prog 112 #[swP s, .pointer (some ⟨p, 0, none⟩)] w fun e w' => ∃ lv', e = .returned (.bool false) ∧ St w0 w' (Are p a gC who false (X.set (adr P T 2 page) 0) lv' (l ++ [⟨who, 2, adr P T 2 page, 0, 0, X.getD (adr P T 2 page) 0, 0⟩]) (cn + 1) fl ++ swB s { x with at_ := 7 } :: F) := by
  have HE := Aside.mk (mrk_ hp)
  have hi : adr P T 2 page < X.length := by rw [hX]; exact adr_lt hp.hP hp.hT (by have := hp.hi; omega) (by decide)
  generalize hi0 : adr P T 2 page = i at HE hi ⊢
  have HX := Aside.mk (show X.length ≤ 4096 by have := hp.hP; omega)
  have HL := Aside.mk (show l.length ≤ 1000000 by omega)
  have HC := Aside.mk (show cn ≤ 1000000 by omega)
  have HI := Aside.mk hi
  have H0 := Aside.mk hc0
  have HAT := Aside.mk hat
  have x0 : w.cell? ⟨s, 0, none⟩ = some (.int .i64 x.pp) := (h.pick 4 rfl).cell 0
  have x1 : w.cell? ⟨s, 1, none⟩ = some (.int .i64 x.pt) := (h.pick 4 rfl).cell 1
  have x2 : w.cell? ⟨s, 2, none⟩ = some (.int .i64 x.pr) := (h.pick 4 rfl).cell 2
  have x5 : w.cell? ⟨s, 5, none⟩ = some (.int .i64 x.page) := (h.pick 4 rfl).cell 5
  have x6 : w.cell? ⟨s, 6, none⟩ = some (.int .i64 x.at_) := (h.pick 4 rfl).cell 6
  rw [hat] at x6
  have H := Aside.mk h
  have hcase : (x.empty = false) ∨ (x.empty = true ∧ (x.k == 2) = false) ∨ (x.empty = true ∧ (x.k == 2) = true ∧ decide (1 < x.c) = false) := by
    cases he : x.empty
    · exact .inl rfl
    · by_cases hk : x.k = 2
      · exact .inr (.inr ⟨rfl, by simp [hk], by simp; exact ht he hk⟩)
      · exact .inr (.inl ⟨rfl, by simpa using hk⟩)
  have hcase := Aside.mk hcase
  clear h hp hat hi0 hi hX hl hc0 hc1 ht
  have hstore := Aside.mk (fun (w : World) (h : St w0 w (Are p a gC who true X lv l cn fl ++ swB s x :: F)) => store_ i (0) HI.out HX.out HL.out H0.out HC.out h)
  go_enter Tryd.func112, Tryd.ntmps112
  go_wp2_with (go_at_call 76; refine (open_ H.out).mono ?_; rintro e w1 ⟨rfl, rfl⟩)
  replace H := Aside.mk H.out.drew
  refine start_ (n := 11) (S := fun w' => w'.cell? ⟨s, 0, none⟩ = some (.int .i64 x.pp) ∧ w'.cell? ⟨s, 1, none⟩ = some (.int .i64 x.pt) ∧ w'.cell? ⟨s, 2, none⟩ = some (.int .i64 x.pr) ∧ w'.cell? ⟨s, 5, none⟩ = some (.int .i64 x.page)) (ds := []) (flg 11 0) (by kernel_rfl) rfl rfl (⟨(H.out.pick 4 rfl).cell 0, (H.out.pick 4 rfl).cell 1, (H.out.pick 4 rfl).cell 2, (H.out.pick 4 rfl).cell 5⟩) (fun hHeld => ?_)
  refine with_tabW sw.tab27 sw.bits27 (fun HT_ HW_ => ?_)
  refine pu_ (v := ?_) (a' := ?_) 0 (some 201) 1 rfl rfl HT_ (by kernel_rfl) (.inl ⟨by rfl, ?_⟩) ?_ ?_; rotate_left 2; (· intro w'; go_simp; with_reducible rfl); (· simp only [nrm]; rfl)
  refine pu_ (v := ?_) (a' := ?_) 1 (some 202) 3 rfl rfl HT_ (by kernel_rfl) (.inl ⟨by rfl, ?_⟩) ?_ ?_; rotate_left 2; (· intro w'; go_simp; with_reducible rfl); (· simp only [nrm]; rfl)
  refine pu_ (v := ?_) (a' := ?_) 2 (some 203) 7 rfl rfl HT_ (by kernel_rfl) (.inl ⟨by rfl, ?_⟩) ?_ ?_; rotate_left 2; (· intro w'; go_simp; with_reducible rfl); (· simp only [nrm]; rfl)
  refine pu_ (v := ?_) (a' := ?_) 3 (some 204) 15 rfl rfl HT_ (by kernel_rfl) (.inl ⟨by rfl, ?_⟩) ?_ ?_; rotate_left 2; (· intro w'; go_simp; with_reducible rfl); (· simp only [nrm]; rfl)
  refine tk_ (v := ?_) (a' := ?_) 4 (some 205) 31 rfl rfl HT_ HW_ (by kernel_rfl) (.inl ⟨by rfl, ?_⟩) hHeld ?_ ?_; rotate_left 2; (· rintro w' ⟨_, _, _, _⟩; go_simp; with_reducible rfl); (· simp only [nrm]; rfl)
  refine pu_ (v := ?_) (a' := ?_) 5 (some 206) 63 rfl rfl HT_ (by kernel_rfl) (.inl ⟨by rfl, ?_⟩) ?_ ?_; rotate_left 2; (· intro w'; go_simp; with_reducible rfl); (· simp only [nrm]; rfl)
  refine pu_ (v := ?_) (a' := ?_) 6 (some 207) 127 rfl rfl HT_ (by kernel_rfl) (.inl ⟨by rfl, ?_⟩) ?_ ?_; rotate_left 2; (· intro w'; go_simp; with_reducible rfl); (· simp only [nrm]; rfl)
  refine pu_ (v := ?_) (a' := ?_) 7 (some 208) 255 rfl rfl HT_ (by kernel_rfl) (.inl ⟨by rfl, ?_⟩) ?_ ?_; rotate_left 2; (· intro w'; go_simp; with_reducible rfl); (· simp only [nrm]; rfl)
  refine tk_ (v := ?_) (a' := ?_) 8 (some 209) 511 rfl rfl HT_ HW_ (by kernel_rfl) (.inl ⟨by rfl, ?_⟩) hHeld ?_ ?_; rotate_left 2; (· rintro w' ⟨_, _, _, _⟩; go_simp; with_reducible rfl); (· simp only [nrm]; rfl)
  refine on_ 9 (some 210) 1023 rfl rfl HT_ (by kernel_rfl) (by decide) (fun K hK => ?_)
  refine goes_ Tryd.func127 (by kernel_rfl) rfl #[.agg #[.int .i64 x.pp, .int .i64 x.pt, .int .i64 x.pr], .int .i64 x.page] (by rfl) rfl rfl (by (try simp only [List.map_toArray, List.map_cons, List.map_nil]); first | done | rfl) ?_
  refine (layout_Plan_Mark.calls _ _ _ _ _ _ HE.out).mono ?_
  rintro e w2 ⟨rfl, hb⟩
  replace H := Aside.mk (H.out.step hb)
  clear hb
  refine ⟨_, rfl, ?_⟩
  refine hK.out _ _ ⟨(H.out.pick 4 rfl).cell 0, (H.out.pick 4 rfl).cell 1, (H.out.pick 4 rfl).cell 2, (H.out.pick 4 rfl).cell 5⟩ (fun hHeld => ?_)
  clear hK K
  refine norm_ (a' := ?_) ?_ ?_
  rotate_left
  · show Act.put _ (some 210) _ = _
    simp only [nrm]
    rfl
  refine on_ 10 (some 211) 2047 rfl rfl HT_ (by kernel_rfl) (by decide) (fun K hK => ?_)
  refine goes_ Tryd.func77 (by kernel_rfl) rfl #[.pointer (some ⟨p, 0, none⟩), .int .i64 i, .int .u64 0] (by rfl) rfl rfl (by (try simp only [List.map_toArray, List.map_cons, List.map_nil]); first | done | rfl) ?_
  refine (hstore.out _ H.out).mono ?_
  rintro e w3 ⟨lv1, rfl, h1⟩
  replace H := Aside.mk h1
  clear h1
  refine ⟨_, rfl, ?_⟩
  refine hK.out _ _ ⟨(H.out.pick 4 rfl).cell 0, (H.out.pick 4 rfl).cell 1, (H.out.pick 4 rfl).cell 2, (H.out.pick 4 rfl).cell 5⟩ (fun hHeld => ?_)
  clear hK K
  refine norm_ (a' := ?_) ?_ ?_
  rotate_left
  · show Act.put _ (some 211) _ = _
    simp only [nrm]
    rfl
  refine done_ (done_of HT_.out (by kernel_rfl)) ?_
  clear HT_ HW_ hHeld
  have z6 := (H.out.pick 4 rfl).cell 6
  have f6 := (H.out.pick 4 rfl).frozen 6
  have z7 : w3.cell? ⟨s, 7, none⟩ = some (.int .i64 x.k) := (H.out.pick 4 rfl).cell 7
  have z8 : w3.cell? ⟨s, 8, none⟩ = some (.int .i64 x.c) := (H.out.pick 4 rfl).cell 8
  have z18 : w3.cell? ⟨s, 18, none⟩ = some (.bool x.empty) := (H.out.pick 4 rfl).cell 18
  have z15 := (H.out.pick 4 rfl).cell 15
  have f15 := (H.out.pick 4 rfl).frozen 15
  obtain ⟨hcase⟩ := hcase
  rcases hcase with hem | ⟨hem, hk⟩ | ⟨hem, hk, hc⟩
  all_goals
    rw [hem] at z18
    go_wp2
    go_ret
    refine ⟨lv1, rfl, ?_⟩
    exact back_ (L := Are p a gC who false (X.set i 0) lv1 (l ++ [⟨who, 2, i, 0, 0, X.getD i 0, 0⟩]) (cn + 1) fl) (R := F) ((H.out.pick 4 rfl).put 6 (.int .i64 7) rfl)
def sw.T32 : Bool × List (List Nat × List Nat) := (true, [([], []), ([], []), ([1], [1]), ([2], [2]), ([3], [3]), ([], []), ([5], [5]), ([6], [6]), ([7], [7]), ([], []), ([9], [9]), ([10], [10]), ([11], [11]), ([8, 12], [8, 12]), ([4, 13], [4, 13]), ([0, 14, 14], [0, 14])])
def sw.B32 : List Nat := [0, 0, 2, 6, 14, 0, 32, 96, 224, 0, 512, 1536, 3584, 8160, 16382, 32767]
theorem sw.tab32 : rtab .any (opsOf Tryd.f112 32) = sw.T32 := by kernel_rfl
theorem sw.bits32 : waitsOk sw.T32.2 sw.B32 = true := by kernel_rfl
/-- A page behind the first one is freed. -/
theorem step6a {P T page : Nat} (hp : Pl P T page x) (hat : x.at_ = 6) (hX : X.length = 128 + 64 * P) (hl : l.length ≤ 100000) (hc0 : 0 ≤ cn) (hc1 : cn ≤ 100000) (j : Nat) (hj : x.tail = j) (hj2 : page + j < P + 1) (h1 : j = 1) (h : St w0 w (Are p a gC who true X lv l cn fl ++ swB s x :: F)) :
    Calls Tryd.prog 112 #[swP s, .pointer (some ⟨p, 0, none⟩)] w fun e w' => ∃ lv', e = .returned (.bool false) ∧ St w0 w' (Are p a gC who false (X.set (adr P T 0 (page + j)) 0) lv' (l ++ [⟨who, 2, adr P T 0 (page + j), 0, 0, X.getD (adr P T 0 (page + j)) 0, 0⟩]) (cn + 1) fl ++ swB s { x with tail := 0, at_ := 7 } :: F) := by
  have hE := ent_ hp (page + j) hj2
  have hs : wrap64 (x.page + x.tail) = ((page + j : Nat) : Int) := by rw [hp.pg, hj, w_of _ (by omega) (by have := hp.hP; omega)]; omega
  rw [← hs] at hE
  have HS := Aside.mk hs
  have HE := Aside.mk (hE)
  have hi : adr P T 0 (page + j) < X.length := by rw [hX]; exact adr_lt hp.hP hp.hT (by have := hp.hi; omega) (by decide)
  generalize hi0 : adr P T 0 (page + j) = i at HE hi ⊢
  have HX := Aside.mk (show X.length ≤ 4096 by have := hp.hP; omega)
  have HL := Aside.mk (show l.length ≤ 1000000 by omega)
  have HC := Aside.mk (show cn ≤ 1000000 by omega)
  have HI := Aside.mk hi
  have H0 := Aside.mk hc0
  have HAT := Aside.mk hat
  have x0 : w.cell? ⟨s, 0, none⟩ = some (.int .i64 x.pp) := (h.pick 4 rfl).cell 0
  have x1 : w.cell? ⟨s, 1, none⟩ = some (.int .i64 x.pt) := (h.pick 4 rfl).cell 1
  have x2 : w.cell? ⟨s, 2, none⟩ = some (.int .i64 x.pr) := (h.pick 4 rfl).cell 2
  have x5 : w.cell? ⟨s, 5, none⟩ = some (.int .i64 x.page) := (h.pick 4 rfl).cell 5
  have x6 : w.cell? ⟨s, 6, none⟩ = some (.int .i64 x.at_) := (h.pick 4 rfl).cell 6
  have x15 : w.cell? ⟨s, 15, none⟩ = some (.int .i64 x.tail) := (h.pick 4 rfl).cell 15
  rw [hat] at x6
  have H := Aside.mk h
  have ht : x.tail = 1 := by rw [hj, h1]; rfl
  have HJ := Aside.mk ht
  clear h hp hat hi0 hi hX hl hc0 hc1 hE hj hj2 hs h1 ht
  have hstore := Aside.mk (fun (w : World) (h : St w0 w (Are p a gC who true X lv l cn fl ++ swB s x :: F)) => store_ i (0) HI.out HX.out HL.out H0.out HC.out h)
  go_enter Tryd.func112, Tryd.ntmps112
  go_wp2_with (go_at_call 76; refine (open_ H.out).mono ?_; rintro e w1 ⟨rfl, rfl⟩)
  replace H := Aside.mk H.out.drew
  refine start_ (n := 16) (S := fun w' => w'.cell? ⟨s, 0, none⟩ = some (.int .i64 x.pp) ∧ w'.cell? ⟨s, 1, none⟩ = some (.int .i64 x.pt) ∧ w'.cell? ⟨s, 2, none⟩ = some (.int .i64 x.pr) ∧ w'.cell? ⟨s, 5, none⟩ = some (.int .i64 x.page) ∧ w'.cell? ⟨s, 15, none⟩ = some (.int .i64 x.tail)) (ds := []) (flg 16 0) (by kernel_rfl) rfl rfl (⟨(H.out.pick 4 rfl).cell 0, (H.out.pick 4 rfl).cell 1, (H.out.pick 4 rfl).cell 2, (H.out.pick 4 rfl).cell 5, (H.out.pick 4 rfl).cell 15⟩) (fun hHeld => ?_)
  refine with_tabW sw.tab32 sw.bits32 (fun HT_ HW_ => ?_)
  refine pu_ (v := ?_) (a' := ?_) 0 (some 249) 1 rfl rfl HT_ (by kernel_rfl) (.inl ⟨by rfl, ?_⟩) ?_ ?_; rotate_left 2; (· intro w'; go_simp; with_reducible rfl); (· simp only [nrm]; rfl)
  refine pu_ (v := ?_) (a' := ?_) 1 (some 250) 3 rfl rfl HT_ (by kernel_rfl) (.inl ⟨by rfl, ?_⟩) ?_ ?_; rotate_left 2; (· intro w'; go_simp; with_reducible rfl); (· simp only [nrm]; rfl)
  refine pu_ (v := ?_) (a' := ?_) 2 (some 251) 7 rfl rfl HT_ (by kernel_rfl) (.inl ⟨by rfl, ?_⟩) ?_ ?_; rotate_left 2; (· intro w'; go_simp; with_reducible rfl); (· simp only [nrm]; rfl)
  refine pu_ (v := ?_) (a' := ?_) 3 (some 252) 15 rfl rfl HT_ (by kernel_rfl) (.inl ⟨by rfl, ?_⟩) ?_ ?_; rotate_left 2; (· intro w'; go_simp; with_reducible rfl); (· simp only [nrm]; rfl)
  refine tk_ (v := ?_) (a' := ?_) 4 (some 253) 31 rfl rfl HT_ HW_ (by kernel_rfl) (.inl ⟨by rfl, ?_⟩) hHeld ?_ ?_; rotate_left 2; (· rintro w' ⟨_, _, _, _, _⟩; go_simp; with_reducible rfl); (· simp only [nrm]; rfl)
  refine pu_ (v := ?_) (a' := ?_) 5 (some 254) 63 rfl rfl HT_ (by kernel_rfl) (.inl ⟨by rfl, ?_⟩) ?_ ?_; rotate_left 2; (· intro w'; go_simp; with_reducible rfl); (· simp only [nrm]; rfl)
  refine pu_ (v := ?_) (a' := ?_) 6 (some 255) 127 rfl rfl HT_ (by kernel_rfl) (.inl ⟨by rfl, ?_⟩) ?_ ?_; rotate_left 2; (· intro w'; go_simp; with_reducible rfl); (· simp only [nrm]; rfl)
  refine pu_ (v := ?_) (a' := ?_) 7 (some 256) 255 rfl rfl HT_ (by kernel_rfl) (.inl ⟨by rfl, ?_⟩) ?_ ?_; rotate_left 2; (· intro w'; go_simp; with_reducible rfl); (· simp only [nrm]; rfl)
  refine tk_ (v := ?_) (a' := ?_) 8 (some 257) 511 rfl rfl HT_ HW_ (by kernel_rfl) (.inl ⟨by rfl, ?_⟩) hHeld ?_ ?_; rotate_left 2; (· rintro w' ⟨_, _, _, _, _⟩; go_simp; with_reducible rfl); (· simp only [nrm]; rfl)
  refine pu_ (v := ?_) (a' := ?_) 9 (some 258) 1023 rfl rfl HT_ (by kernel_rfl) (.inl ⟨by rfl, ?_⟩) ?_ ?_; rotate_left 2; (· intro w'; go_simp; with_reducible rfl); (· simp only [nrm]; rfl)
  refine pu_ (v := ?_) (a' := ?_) 10 (some 259) 2047 rfl rfl HT_ (by kernel_rfl) (.inl ⟨by rfl, ?_⟩) ?_ ?_; rotate_left 2; (· intro w'; go_simp; with_reducible rfl); (· simp only [nrm]; rfl)
  refine pu_ (v := ?_) (a' := ?_) 11 (some 260) 4095 rfl rfl HT_ (by kernel_rfl) (.inl ⟨by rfl, ?_⟩) ?_ ?_; rotate_left 2; (· intro w'; go_simp; with_reducible rfl); (· simp only [nrm]; rfl)
  refine tk_ (v := ?_) (a' := ?_) 12 (some 261) 8191 rfl rfl HT_ HW_ (by kernel_rfl) (.inl ⟨by rfl, ?_⟩) hHeld ?_ ?_; rotate_left 2; (· rintro w' ⟨_, _, _, _, _⟩; go_simp; with_reducible rfl); (· simp only [nrm]; rfl)
  refine pu_ (v := ?_) (a' := ?_) 13 (some 262) 16383 rfl rfl HT_ (by kernel_rfl) (.inl ⟨by rfl, ?_⟩) ?_ ?_; rotate_left 2; (· intro w'; go_simp; with_reducible rfl); (· simp only [nrm]; rfl)
  refine on_ 14 (some 263) 32767 rfl rfl HT_ (by kernel_rfl) (by decide) (fun K hK => ?_)
  refine goes_ Tryd.func85 (by kernel_rfl) rfl #[.agg #[.int .i64 x.pp, .int .i64 x.pt, .int .i64 x.pr], .int .i64 (wrap64 (x.page + x.tail))] (by rfl) rfl rfl (by (try simp only [List.map_toArray, List.map_cons, List.map_nil]); first | done | rfl) ?_
  refine (layout_Plan_Entry.calls _ _ _ _ _ _ HE.out).mono ?_
  rintro e w2 ⟨rfl, hb⟩
  replace H := Aside.mk (H.out.step hb)
  clear hb
  refine ⟨_, rfl, ?_⟩
  refine hK.out _ _ ⟨(H.out.pick 4 rfl).cell 0, (H.out.pick 4 rfl).cell 1, (H.out.pick 4 rfl).cell 2, (H.out.pick 4 rfl).cell 5, (H.out.pick 4 rfl).cell 15⟩ (fun hHeld => ?_)
  clear hK K
  refine norm_ (a' := ?_) ?_ ?_
  rotate_left
  · show Act.put _ (some 263) _ = _
    simp only [nrm]
    rfl
  refine on_ 15 (some 264) 65535 rfl rfl HT_ (by kernel_rfl) (by decide) (fun K hK => ?_)
  refine goes_ Tryd.func77 (by kernel_rfl) rfl #[.pointer (some ⟨p, 0, none⟩), .int .i64 i, .int .u64 0] (by rfl) rfl rfl (by (try simp only [List.map_toArray, List.map_cons, List.map_nil]); first | done | rfl) ?_
  refine (hstore.out _ H.out).mono ?_
  rintro e w3 ⟨lv1, rfl, h1⟩
  replace H := Aside.mk h1
  clear h1
  refine ⟨_, rfl, ?_⟩
  refine hK.out _ _ ⟨(H.out.pick 4 rfl).cell 0, (H.out.pick 4 rfl).cell 1, (H.out.pick 4 rfl).cell 2, (H.out.pick 4 rfl).cell 5, (H.out.pick 4 rfl).cell 15⟩ (fun hHeld => ?_)
  clear hK K
  refine norm_ (a' := ?_) ?_ ?_
  rotate_left
  · show Act.put _ (some 264) _ = _
    simp only [nrm]
    rfl
  refine done_ (done_of HT_.out (by kernel_rfl)) ?_
  clear HT_ HW_ hHeld
  have z6 := (H.out.pick 4 rfl).cell 6
  have f6 := (H.out.pick 4 rfl).frozen 6
  have z15 : w3.cell? ⟨s, 15, none⟩ = some (.int .i64 x.tail) := (H.out.pick 4 rfl).cell 15
  have f15 := (H.out.pick 4 rfl).frozen 15
  rw [HJ.out] at z15
  go_wp2
  go_ret
  refine ⟨lv1, rfl, ?_⟩
  exact back_ (L := Are p a gC who false (X.set i 0) lv1 (l ++ [⟨who, 2, i, 0, 0, X.getD i 0, 0⟩]) (cn + 1) fl) (R := F) (((H.out.pick 4 rfl).put 15 (.int .i64 0) rfl).put 6 (.int .i64 7) rfl)
/-- A page behind the first one is freed. -/
theorem step6b {P T page : Nat} (hp : Pl P T page x) (hat : x.at_ = 6) (hX : X.length = 128 + 64 * P) (hl : l.length ≤ 100000) (hc0 : 0 ≤ cn) (hc1 : cn ≤ 100000) (j : Nat) (hj : x.tail = j) (hj2 : page + j < P + 1) (h1 : 1 < j) (h : St w0 w (Are p a gC who true X lv l cn fl ++ swB s x :: F)) :
    Calls Tryd.prog 112 #[swP s, .pointer (some ⟨p, 0, none⟩)] w fun e w' => ∃ lv', e = .returned (.bool false) ∧ St w0 w' (Are p a gC who false (X.set (adr P T 0 (page + j)) 0) lv' (l ++ [⟨who, 2, adr P T 0 (page + j), 0, 0, X.getD (adr P T 0 (page + j)) 0, 0⟩]) (cn + 1) fl ++ swB s { x with tail := x.tail - 1 } :: F) := by
  have hE := ent_ hp (page + j) hj2
  have hs : wrap64 (x.page + x.tail) = ((page + j : Nat) : Int) := by rw [hp.pg, hj, w_of _ (by omega) (by have := hp.hP; omega)]; omega
  rw [← hs] at hE
  have HS := Aside.mk hs
  have HE := Aside.mk (hE)
  have hi : adr P T 0 (page + j) < X.length := by rw [hX]; exact adr_lt hp.hP hp.hT (by have := hp.hi; omega) (by decide)
  generalize hi0 : adr P T 0 (page + j) = i at HE hi ⊢
  have HX := Aside.mk (show X.length ≤ 4096 by have := hp.hP; omega)
  have HL := Aside.mk (show l.length ≤ 1000000 by omega)
  have HC := Aside.mk (show cn ≤ 1000000 by omega)
  have HI := Aside.mk hi
  have H0 := Aside.mk hc0
  have HAT := Aside.mk hat
  have x0 : w.cell? ⟨s, 0, none⟩ = some (.int .i64 x.pp) := (h.pick 4 rfl).cell 0
  have x1 : w.cell? ⟨s, 1, none⟩ = some (.int .i64 x.pt) := (h.pick 4 rfl).cell 1
  have x2 : w.cell? ⟨s, 2, none⟩ = some (.int .i64 x.pr) := (h.pick 4 rfl).cell 2
  have x5 : w.cell? ⟨s, 5, none⟩ = some (.int .i64 x.page) := (h.pick 4 rfl).cell 5
  have x6 : w.cell? ⟨s, 6, none⟩ = some (.int .i64 x.at_) := (h.pick 4 rfl).cell 6
  have x15 : w.cell? ⟨s, 15, none⟩ = some (.int .i64 x.tail) := (h.pick 4 rfl).cell 15
  rw [hat] at x6
  have H := Aside.mk h
  have hc9 : wrap64 (x.tail - 1) = x.tail - 1 := w_of _ (by omega) (by have := hp.hP; omega)
  have hne : (x.tail - 1 == 0) = false := by simp; omega
  clear h hp hat hi0 hi hX hl hc0 hc1 hE hj hj2 hs h1
  have hstore := Aside.mk (fun (w : World) (h : St w0 w (Are p a gC who true X lv l cn fl ++ swB s x :: F)) => store_ i (0) HI.out HX.out HL.out H0.out HC.out h)
  go_enter Tryd.func112, Tryd.ntmps112
  go_wp2_with (go_at_call 76; refine (open_ H.out).mono ?_; rintro e w1 ⟨rfl, rfl⟩)
  replace H := Aside.mk H.out.drew
  refine start_ (n := 16) (S := fun w' => w'.cell? ⟨s, 0, none⟩ = some (.int .i64 x.pp) ∧ w'.cell? ⟨s, 1, none⟩ = some (.int .i64 x.pt) ∧ w'.cell? ⟨s, 2, none⟩ = some (.int .i64 x.pr) ∧ w'.cell? ⟨s, 5, none⟩ = some (.int .i64 x.page) ∧ w'.cell? ⟨s, 15, none⟩ = some (.int .i64 x.tail)) (ds := []) (flg 16 0) (by kernel_rfl) rfl rfl (⟨(H.out.pick 4 rfl).cell 0, (H.out.pick 4 rfl).cell 1, (H.out.pick 4 rfl).cell 2, (H.out.pick 4 rfl).cell 5, (H.out.pick 4 rfl).cell 15⟩) (fun hHeld => ?_)
  refine with_tabW sw.tab32 sw.bits32 (fun HT_ HW_ => ?_)
  refine pu_ (v := ?_) (a' := ?_) 0 (some 249) 1 rfl rfl HT_ (by kernel_rfl) (.inl ⟨by rfl, ?_⟩) ?_ ?_; rotate_left 2; (· intro w'; go_simp; with_reducible rfl); (· simp only [nrm]; rfl)
  refine pu_ (v := ?_) (a' := ?_) 1 (some 250) 3 rfl rfl HT_ (by kernel_rfl) (.inl ⟨by rfl, ?_⟩) ?_ ?_; rotate_left 2; (· intro w'; go_simp; with_reducible rfl); (· simp only [nrm]; rfl)
  refine pu_ (v := ?_) (a' := ?_) 2 (some 251) 7 rfl rfl HT_ (by kernel_rfl) (.inl ⟨by rfl, ?_⟩) ?_ ?_; rotate_left 2; (· intro w'; go_simp; with_reducible rfl); (· simp only [nrm]; rfl)
  refine pu_ (v := ?_) (a' := ?_) 3 (some 252) 15 rfl rfl HT_ (by kernel_rfl) (.inl ⟨by rfl, ?_⟩) ?_ ?_; rotate_left 2; (· intro w'; go_simp; with_reducible rfl); (· simp only [nrm]; rfl)
  refine tk_ (v := ?_) (a' := ?_) 4 (some 253) 31 rfl rfl HT_ HW_ (by kernel_rfl) (.inl ⟨by rfl, ?_⟩) hHeld ?_ ?_; rotate_left 2; (· rintro w' ⟨_, _, _, _, _⟩; go_simp; with_reducible rfl); (· simp only [nrm]; rfl)
  refine pu_ (v := ?_) (a' := ?_) 5 (some 254) 63 rfl rfl HT_ (by kernel_rfl) (.inl ⟨by rfl, ?_⟩) ?_ ?_; rotate_left 2; (· intro w'; go_simp; with_reducible rfl); (· simp only [nrm]; rfl)
  refine pu_ (v := ?_) (a' := ?_) 6 (some 255) 127 rfl rfl HT_ (by kernel_rfl) (.inl ⟨by rfl, ?_⟩) ?_ ?_; rotate_left 2; (· intro w'; go_simp; with_reducible rfl); (· simp only [nrm]; rfl)
  refine pu_ (v := ?_) (a' := ?_) 7 (some 256) 255 rfl rfl HT_ (by kernel_rfl) (.inl ⟨by rfl, ?_⟩) ?_ ?_; rotate_left 2; (· intro w'; go_simp; with_reducible rfl); (· simp only [nrm]; rfl)
  refine tk_ (v := ?_) (a' := ?_) 8 (some 257) 511 rfl rfl HT_ HW_ (by kernel_rfl) (.inl ⟨by rfl, ?_⟩) hHeld ?_ ?_; rotate_left 2; (· rintro w' ⟨_, _, _, _, _⟩; go_simp; with_reducible rfl); (· simp only [nrm]; rfl)
  refine pu_ (v := ?_) (a' := ?_) 9 (some 258) 1023 rfl rfl HT_ (by kernel_rfl) (.inl ⟨by rfl, ?_⟩) ?_ ?_; rotate_left 2; (· intro w'; go_simp; with_reducible rfl); (· simp only [nrm]; rfl)
  refine pu_ (v := ?_) (a' := ?_) 10 (some 259) 2047 rfl rfl HT_ (by kernel_rfl) (.inl ⟨by rfl, ?_⟩) ?_ ?_; rotate_left 2; (· intro w'; go_simp; with_reducible rfl); (· simp only [nrm]; rfl)
  refine pu_ (v := ?_) (a' := ?_) 11 (some 260) 4095 rfl rfl HT_ (by kernel_rfl) (.inl ⟨by rfl, ?_⟩) ?_ ?_; rotate_left 2; (· intro w'; go_simp; with_reducible rfl); (· simp only [nrm]; rfl)
  refine tk_ (v := ?_) (a' := ?_) 12 (some 261) 8191 rfl rfl HT_ HW_ (by kernel_rfl) (.inl ⟨by rfl, ?_⟩) hHeld ?_ ?_; rotate_left 2; (· rintro w' ⟨_, _, _, _, _⟩; go_simp; with_reducible rfl); (· simp only [nrm]; rfl)
  refine pu_ (v := ?_) (a' := ?_) 13 (some 262) 16383 rfl rfl HT_ (by kernel_rfl) (.inl ⟨by rfl, ?_⟩) ?_ ?_; rotate_left 2; (· intro w'; go_simp; with_reducible rfl); (· simp only [nrm]; rfl)
  refine on_ 14 (some 263) 32767 rfl rfl HT_ (by kernel_rfl) (by decide) (fun K hK => ?_)
  refine goes_ Tryd.func85 (by kernel_rfl) rfl #[.agg #[.int .i64 x.pp, .int .i64 x.pt, .int .i64 x.pr], .int .i64 (wrap64 (x.page + x.tail))] (by rfl) rfl rfl (by (try simp only [List.map_toArray, List.map_cons, List.map_nil]); first | done | rfl) ?_
  refine (layout_Plan_Entry.calls _ _ _ _ _ _ HE.out).mono ?_
  rintro e w2 ⟨rfl, hb⟩
  replace H := Aside.mk (H.out.step hb)
  clear hb
  refine ⟨_, rfl, ?_⟩
  refine hK.out _ _ ⟨(H.out.pick 4 rfl).cell 0, (H.out.pick 4 rfl).cell 1, (H.out.pick 4 rfl).cell 2, (H.out.pick 4 rfl).cell 5, (H.out.pick 4 rfl).cell 15⟩ (fun hHeld => ?_)
  clear hK K
  refine norm_ (a' := ?_) ?_ ?_
  rotate_left
  · show Act.put _ (some 263) _ = _
    simp only [nrm]
    rfl
  refine on_ 15 (some 264) 65535 rfl rfl HT_ (by kernel_rfl) (by decide) (fun K hK => ?_)
  refine goes_ Tryd.func77 (by kernel_rfl) rfl #[.pointer (some ⟨p, 0, none⟩), .int .i64 i, .int .u64 0] (by rfl) rfl rfl (by (try simp only [List.map_toArray, List.map_cons, List.map_nil]); first | done | rfl) ?_
  refine (hstore.out _ H.out).mono ?_
  rintro e w3 ⟨lv1, rfl, h1⟩
  replace H := Aside.mk h1
  clear h1
  refine ⟨_, rfl, ?_⟩
  refine hK.out _ _ ⟨(H.out.pick 4 rfl).cell 0, (H.out.pick 4 rfl).cell 1, (H.out.pick 4 rfl).cell 2, (H.out.pick 4 rfl).cell 5, (H.out.pick 4 rfl).cell 15⟩ (fun hHeld => ?_)
  clear hK K
  refine norm_ (a' := ?_) ?_ ?_
  rotate_left
  · show Act.put _ (some 264) _ = _
    simp only [nrm]
    rfl
  refine done_ (done_of HT_.out (by kernel_rfl)) ?_
  clear HT_ HW_ hHeld
  have z6 := (H.out.pick 4 rfl).cell 6
  have f6 := (H.out.pick 4 rfl).frozen 6
  have z15 : w3.cell? ⟨s, 15, none⟩ = some (.int .i64 x.tail) := (H.out.pick 4 rfl).cell 15
  have f15 := (H.out.pick 4 rfl).frozen 15
  replace z6 : w3.cell? ⟨s, 6, none⟩ = some (.int .i64 x.at_) := z6
  rw [HAT.out] at z6
  go_wp2
  go_ret
  refine ⟨lv1, rfl, ?_⟩
  have H9 := back_ (L := Are p a gC who false (X.set i 0) lv1 (l ++ [⟨who, 2, i, 0, 0, X.getD i 0, 0⟩]) (cn + 1) fl) (R := F) ((H.out.pick 4 rfl).put 15 (.int .i64 (x.tail - 1)) rfl)
  exact H9
end Go.Proofs.YtelfiegocdjnoaaDoor.Ar
