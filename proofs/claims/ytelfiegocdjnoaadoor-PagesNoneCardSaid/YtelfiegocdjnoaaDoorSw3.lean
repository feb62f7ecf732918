/- A sweep's steps: the second one: the page is taken, or was taken by somebody else. Conditions: the arena's port has a grant; the plan is right; the page is one of its pages. -/
import Derived.Test.YtelfiegocdjnoaaDoorSw2
import Derived.Test.YtelfiegocdjnoaaDoorHe
import Derived.Test.YtelfiegocdjnoaaDoorMrF0
namespace Go.Proofs.YtelfiegocdjnoaaDoor.Ar
open Go Go.RowKit Go.Proofs.YtelfiegocdjnoaaDoor.Sep Go.Proofs.YtelfiegocdjnoaaDoor.Pg Go.Proofs.YtelfiegocdjnoaaDoorW.PrintWords Go.Proofs.YtelfiegocdjnoaaDoorW.PrintLast Go.Proofs.YtelfiegocdjnoaaDoorW.PrintMore Go.Proofs.YtelfiegocdjnoaaDoor.Q
set_option linter.unusedVariables false
set_option linter.unusedSimpArgs false
set_option maxHeartbeats 8000000
set_option maxRecDepth 100000
variable {w0 w : World} {F : List HP} {a gC p s : Nat} {lv : Value} {l : List Acc} {cn fl who : Int} {X : List Int} {x : Sw}
def sw.T14 : Bool × List (List Nat × List Nat) := (true, [([], []), ([0], [0]), ([1], [1]), ([2], [2]), ([], []), ([4], [4]), ([5], [5]), ([6], [6]), ([3, 7], [3, 7]), ([8], [8]), ([9], [9]), ([9], [9]), ([], []), ([12, 10, 8, 0, 1, 2, 3, 4, 5, 6, 7, 8, 9, 10, 12], [10, 12]), ([11, 13, 0, 1, 2, 3, 4, 5, 6, 7, 8, 9, 10, 11, 12, 13], [11])])
def sw.B14 : List Nat := [0, 1, 3, 7, 0, 16, 48, 112, 255, 511, 1023, 1023, 0, 6143, 16383]
theorem sw.tab14 : rtab .any (opsOf Tryd.f112 14) = sw.T14 := by kernel_rfl
theorem sw.bits14 : waitsOk sw.T14.2 sw.B14 = true := by kernel_rfl
def sw.T16 : Bool × List (List Nat × List Nat) := (true, [([], []), ([], []), ([1], [1]), ([2], [2]), ([3], [3]), ([], []), ([5], [5]), ([6], [6]), ([7], [7]), ([4, 8], [4, 8]), ([], []), ([10], [10]), ([11], [11]), ([12], [12]), ([], []), ([14, 9], [14]), ([0, 9, 13, 15, 15], [0, 9, 13, 15]), ([16], [16])])
def sw.B16 : List Nat := [0, 0, 2, 6, 14, 0, 32, 96, 224, 510, 0, 1024, 3072, 7168, 0, 17406, 65535, 131071]
theorem sw.tab16 : rtab .any (opsOf Tryd.f112 16) = sw.T16 := by kernel_rfl
theorem sw.bits16 : waitsOk sw.T16.2 sw.B16 = true := by kernel_rfl
theorem coded_ {k c s o y : Int} (h1 : isE k c s o y = true) : pages_coded.f 7 k c s o y = some (wordOf k c s o y) := by
  unfold pages_coded.f
  rw [encH 0, Option.bind_some, if_pos h1]
theorem step1a {P T page : Nat} (hp : Pl P T page x) (hat : x.at_ = 1) (hX : X.length = 128 + 64 * P) (hl : l.length ≤ 100000) (hc0 : 0 ≤ cn) (hc1 : cn ≤ 100000) (he : isE x.k x.c x.st x.o x.y = true) (hb : isE x.k x.c 2 x.who x.y = true) (hw : x.was = X.getD (adr P T 0 page) 0) (h : St w0 w (Are p a gC who true X lv l cn fl ++ swB s x :: F)) :
    Calls Tryd.prog 112 #[swP s, .pointer (some ⟨p, 0, none⟩)] w fun e w' => ∃ lv', e = .returned (.bool false) ∧ St w0 w' (Are p a gC who false (X.set (adr P T 0 page) (wordOf x.k x.c 2 x.who x.y)) lv' (l ++ [⟨who, 4, adr P T 0 page, x.was, wordOf x.k x.c 2 x.who x.y, X.getD (adr P T 0 page) 0, wordOf x.k x.c 2 x.who x.y⟩]) (cn + 1) fl ++ swB s { x with at_ := 2 } :: F) := by
  have HTK := Aside.mk (fun w => taken_c he hb w)
  have HCD := Aside.mk (coded_ hb)
  have hE := ent_ hp page hp.hi
  rw [← hp.pg] at hE
  have HE := Aside.mk hE
  have hi : adr P T 0 page < X.length := by rw [hX]; exact adr_lt hp.hP hp.hT hp.hi (by decide)
  generalize hi0 : adr P T 0 page = i at HE hi hw ⊢
  have HX := Aside.mk (show X.length ≤ 4096 by have := hp.hP; omega)
  have HL := Aside.mk (show l.length ≤ 1000000 by omega)
  have HC := Aside.mk (show cn ≤ 1000000 by omega)
  have HI := Aside.mk hi
  have H0 := Aside.mk hc0
  have x0 : w.cell? ⟨s, 0, none⟩ = some (.int .i64 x.pp) := (h.pick 4 rfl).cell 0
  have x1 : w.cell? ⟨s, 1, none⟩ = some (.int .i64 x.pt) := (h.pick 4 rfl).cell 1
  have x2 : w.cell? ⟨s, 2, none⟩ = some (.int .i64 x.pr) := (h.pick 4 rfl).cell 2
  have x3 : w.cell? ⟨s, 3, none⟩ = some (.int .i64 x.who) := (h.pick 4 rfl).cell 3
  have x5 : w.cell? ⟨s, 5, none⟩ = some (.int .i64 x.page) := (h.pick 4 rfl).cell 5
  have x6 : w.cell? ⟨s, 6, none⟩ = some (.int .i64 x.at_) := (h.pick 4 rfl).cell 6
  have x7 : w.cell? ⟨s, 7, none⟩ = some (.int .i64 x.k) := (h.pick 4 rfl).cell 7
  have x8 : w.cell? ⟨s, 8, none⟩ = some (.int .i64 x.c) := (h.pick 4 rfl).cell 8
  have x9 : w.cell? ⟨s, 9, none⟩ = some (.int .i64 x.st) := (h.pick 4 rfl).cell 9
  have x10 : w.cell? ⟨s, 10, none⟩ = some (.int .i64 x.o) := (h.pick 4 rfl).cell 10
  have x11 : w.cell? ⟨s, 11, none⟩ = some (.int .i64 x.y) := (h.pick 4 rfl).cell 11
  have x12 : w.cell? ⟨s, 12, none⟩ = some (.int .u64 x.was) := (h.pick 4 rfl).cell 12
  rw [hat] at x6
  have H := Aside.mk h
  have HW := Aside.mk hw
  clear hw
  clear h hp hat hi0 hi hX hl hc0 hc1 he hb hE
  go_enter Tryd.func112, Tryd.ntmps112
  go_wp2_with (go_at_call 76; refine (open_ H.out).mono ?_; rintro e w1 ⟨rfl, rfl⟩)
  replace H := Aside.mk H.out.drew
  refine start_ (n := 15) (S := fun w' => w'.cell? ⟨s, 3, none⟩ = some (.int .i64 x.who) ∧ w'.cell? ⟨s, 7, none⟩ = some (.int .i64 x.k) ∧ w'.cell? ⟨s, 8, none⟩ = some (.int .i64 x.c) ∧ w'.cell? ⟨s, 9, none⟩ = some (.int .i64 x.st) ∧ w'.cell? ⟨s, 10, none⟩ = some (.int .i64 x.o) ∧ w'.cell? ⟨s, 11, none⟩ = some (.int .i64 x.y)) (ds := []) (flg 15 0) (by kernel_rfl) rfl rfl (⟨(H.out.pick 4 rfl).cell 3, (H.out.pick 4 rfl).cell 7, (H.out.pick 4 rfl).cell 8, (H.out.pick 4 rfl).cell 9, (H.out.pick 4 rfl).cell 10, (H.out.pick 4 rfl).cell 11⟩) (fun hHeld => ?_)
  refine with_tabW sw.tab14 sw.bits14 (fun HT_ HW_ => ?_)
  refine pu_ (v := ?_) (a' := ?_) 0 (some 89) 1 rfl rfl HT_ (by kernel_rfl) (.inl ⟨by rfl, ?_⟩) ?_ ?_; rotate_left 2; (· intro w'; go_simp; with_reducible rfl); (· simp only [nrm]; rfl)
  refine pu_ (v := ?_) (a' := ?_) 1 (some 90) 3 rfl rfl HT_ (by kernel_rfl) (.inl ⟨by rfl, ?_⟩) ?_ ?_; rotate_left 2; (· intro w'; go_simp; with_reducible rfl); (· simp only [nrm]; rfl)
  refine pu_ (v := ?_) (a' := ?_) 2 (some 91) 7 rfl rfl HT_ (by kernel_rfl) (.inl ⟨by rfl, ?_⟩) ?_ ?_; rotate_left 2; (· intro w'; go_simp; with_reducible rfl); (· simp only [nrm]; rfl)
  refine tk_ (v := ?_) (a' := ?_) 3 (some 92) 15 rfl rfl HT_ HW_ (by kernel_rfl) (.inl ⟨by rfl, ?_⟩) hHeld ?_ ?_; rotate_left 2; (· rintro w' ⟨_, _, _, _, _, _⟩; go_simp; with_reducible rfl); (· simp only [nrm]; rfl)
  refine pu_ (v := ?_) (a' := ?_) 4 (some 93) 31 rfl rfl HT_ (by kernel_rfl) (.inl ⟨by rfl, ?_⟩) ?_ ?_; rotate_left 2; (· intro w'; go_simp; with_reducible rfl); (· simp only [nrm]; rfl)
  refine pu_ (v := ?_) (a' := ?_) 5 (some 94) 63 rfl rfl HT_ (by kernel_rfl) (.inl ⟨by rfl, ?_⟩) ?_ ?_; rotate_left 2; (· intro w'; go_simp; with_reducible rfl); (· simp only [nrm]; rfl)
  refine pu_ (v := ?_) (a' := ?_) 6 (some 95) 127 rfl rfl HT_ (by kernel_rfl) (.inl ⟨by rfl, ?_⟩) ?_ ?_; rotate_left 2; (· intro w'; go_simp; with_reducible rfl); (· simp only [nrm]; rfl)
  refine tk_ (v := ?_) (a' := ?_) 7 (some 96) 255 rfl rfl HT_ HW_ (by kernel_rfl) (.inl ⟨by rfl, ?_⟩) hHeld ?_ ?_; rotate_left 2; (· rintro w' ⟨_, _, _, _, _, _⟩; go_simp; with_reducible rfl); (· simp only [nrm]; rfl)
  refine join_ (σ := Nat) 2 (flg 15 8191) (fun g_ => [(97, .tuple #[.agg #[.int .i64 x.k, .int .i64 x.c, .int .i64 2, .int .i64 x.who, .int .i64 x.y], .int .i64 0]), (88, .tuple #[.agg #[.int .i64 x.k, .int .i64 x.c, .int .i64 2, .int .i64 x.who, .int .i64 x.y], .int .i64 0]), (98, .agg #[.int .i64 x.k, .int .i64 x.c, .int .i64 2, .int .i64 x.who, .int .i64 x.y]), (99, .int .i64 0), (7, .pointer (some ⟨g_, 0, none⟩))]) (fun g_ w' => (w'.cell? ⟨s, 3, none⟩ = some (.int .i64 x.who) ∧ w'.cell? ⟨s, 7, none⟩ = some (.int .i64 x.k) ∧ w'.cell? ⟨s, 8, none⟩ = some (.int .i64 x.c) ∧ w'.cell? ⟨s, 9, none⟩ = some (.int .i64 x.st) ∧ w'.cell? ⟨s, 10, none⟩ = some (.int .i64 x.o) ∧ w'.cell? ⟨s, 11, none⟩ = some (.int .i64 x.y)) ∧ St w0 w' (blk g_ #[.int .i64 0, .int .i64 0, .int .i64 0, .int .i64 0, .int .i64 0] 168 :: (Are p a gC who true X lv l cn fl ++ swB s x :: F))) ?_ ?_
  rotate_left
  · intro hjoin
    simp only [putAll, nrm] at hjoin
    refine two_ (i := 8) (j := 12) (Ni := some 97) (Nj := some 7) (flg 15 511) (flg 15 4351) rfl rfl rfl rfl (two_of HT_.out (by kernel_rfl)) (by decide) (by decide) (fun K hK => ?_) (fun K hK => ?_)
    · refine goes_ Tryd.func155 (by kernel_rfl) rfl #[.agg #[.int .i64 x.k, .int .i64 x.c, .int .i64 x.st, .int .i64 x.o, .int .i64 x.y], .int .i64 2, .int .i64 x.who] (by rfl) rfl rfl (by (try simp only [List.map_toArray, List.map_cons, List.map_nil]); first | done | rfl) ?_
      refine (HTK.out _).mono ?_
      rintro e w2 ⟨rfl, hb⟩
      replace H := Aside.mk (H.out.step hb)
      clear hb
      refine ⟨_, rfl, ?_⟩
      refine hK.out _ _ ⟨(H.out.pick 4 rfl).cell 3, (H.out.pick 4 rfl).cell 7, (H.out.pick 4 rfl).cell 8, (H.out.pick 4 rfl).cell 9, (H.out.pick 4 rfl).cell 10, (H.out.pick 4 rfl).cell 11⟩ (fun hHeld => ?_)
      clear hK K
      refine norm_ (a' := ?_) ?_ ?_
      rotate_left
      · show Act.put _ (some 97) _ = _
        simp only [nrm]
        rfl
      refine pu_ (v := ?_) (a' := ?_) 9 (some 88) 1023 rfl rfl HT_ (by kernel_rfl) (.inl ⟨by rfl, ?_⟩) ?_ ?_; rotate_left 2; (· intro w'; go_simp; with_reducible rfl); (· simp only [nrm]; rfl)
      refine pu_ (v := ?_) (a' := ?_) 10 (some 98) 2047 rfl rfl HT_ (by kernel_rfl) (.inl ⟨by rfl, ?_⟩) ?_ ?_; rotate_left 2; (· intro w'; go_simp; with_reducible rfl); (· simp only [nrm]; rfl)
      refine pu_ (v := ?_) (a' := ?_) 11 (some 99) 4095 rfl rfl HT_ (by kernel_rfl) (.inl ⟨by rfl, ?_⟩) ?_ ?_; rotate_left 2; (· intro w'; go_simp; with_reducible rfl); (· simp only [nrm]; rfl)
      refine on_ 12 (some 7) 8191 rfl rfl HT_ (by kernel_rfl) (by decide) (fun K hK => ?_)
      refine value_ (w1 := ?_) (v := ?_) (by rfl) rfl ?_ ?_
      rotate_left 2
      · go_simp
        constructor
        · rfl
        · rfl
      replace H := Aside.mk (H.out.alloc #[.int .i64 0, .int .i64 0, .int .i64 0, .int .i64 0, .int .i64 0] 168)
      refine hK.out _ _ ⟨(H.out.pick 5 rfl).cell 3, (H.out.pick 5 rfl).cell 7, (H.out.pick 5 rfl).cell 8, (H.out.pick 5 rfl).cell 9, (H.out.pick 5 rfl).cell 10, (H.out.pick 5 rfl).cell 11⟩ (fun hHeld => ?_)
      clear hK K
      refine norm_ (a' := ?_) ?_ ?_
      rotate_left
      · show Act.put _ (some 7) _ = _
        simp only [nrm]
        rfl
      exact hjoin _ _ ⟨hHeld, H.out⟩
    · refine value_ (w1 := ?_) (v := ?_) (by rfl) rfl ?_ ?_
      rotate_left 2
      · go_simp
        constructor
        · rfl
        · rfl
      replace H := Aside.mk (H.out.alloc #[.int .i64 0, .int .i64 0, .int .i64 0, .int .i64 0, .int .i64 0] 168)
      refine hK.out _ _ ⟨(H.out.pick 5 rfl).cell 3, (H.out.pick 5 rfl).cell 7, (H.out.pick 5 rfl).cell 8, (H.out.pick 5 rfl).cell 9, (H.out.pick 5 rfl).cell 10, (H.out.pick 5 rfl).cell 11⟩ (fun hHeld => ?_)
      clear hK K
      refine norm_ (a' := ?_) ?_ ?_
      rotate_left
      · show Act.put _ (some 7) _ = _
        simp only [nrm]
        rfl
      refine on_ 8 (some 97) 4607 rfl rfl HT_ (by kernel_rfl) (by decide) (fun K hK => ?_)
      refine goes_ Tryd.func155 (by kernel_rfl) rfl #[.agg #[.int .i64 x.k, .int .i64 x.c, .int .i64 x.st, .int .i64 x.o, .int .i64 x.y], .int .i64 2, .int .i64 x.who] (by rfl) rfl rfl (by (try simp only [List.map_toArray, List.map_cons, List.map_nil]); first | done | rfl) ?_
      refine (HTK.out _).mono ?_
      rintro e w2 ⟨rfl, hb⟩
      replace H := Aside.mk (H.out.step hb)
      clear hb
      refine ⟨_, rfl, ?_⟩
      refine hK.out _ _ ⟨(H.out.pick 5 rfl).cell 3, (H.out.pick 5 rfl).cell 7, (H.out.pick 5 rfl).cell 8, (H.out.pick 5 rfl).cell 9, (H.out.pick 5 rfl).cell 10, (H.out.pick 5 rfl).cell 11⟩ (fun hHeld => ?_)
      clear hK K
      refine norm_ (a' := ?_) ?_ ?_
      rotate_left
      · show Act.put _ (some 97) _ = _
        simp only [nrm]
        rfl
      refine pu_ (v := ?_) (a' := ?_) 9 (some 88) 5119 rfl rfl HT_ (by kernel_rfl) (.inl ⟨by rfl, ?_⟩) ?_ ?_; rotate_left 2; (· intro w'; go_simp; with_reducible rfl); (· simp only [nrm]; rfl)
      refine pu_ (v := ?_) (a' := ?_) 10 (some 98) 6143 rfl rfl HT_ (by kernel_rfl) (.inl ⟨by rfl, ?_⟩) ?_ ?_; rotate_left 2; (· intro w'; go_simp; with_reducible rfl); (· simp only [nrm]; rfl)
      refine pu_ (v := ?_) (a' := ?_) 11 (some 99) 8191 rfl rfl HT_ (by kernel_rfl) (.inl ⟨by rfl, ?_⟩) ?_ ?_; rotate_left 2; (· intro w'; go_simp; with_reducible rfl); (· simp only [nrm]; rfl)
      exact hjoin _ _ ⟨hHeld, H.out⟩
  rintro g_ w4 ⟨hHeld, hst⟩
  replace H := Aside.mk hst
  clear hst
  refine norm_ (a' := ?_) ?_ ?_
  rotate_left
  · simp only [putAll, nrm]
    rfl
  refine on_ 13 (none) 16383 rfl rfl HT_ (by kernel_rfl) (by decide) (fun K hK => ?_)
  refine skip_ (by rfl) rfl (st_run_store (seg := [.int .i64 x.k, .int .i64 x.c, .int .i64 2, .int .i64 x.who, .int .i64 x.y]) rfl rfl rfl rfl (Nat.le_of_ble_eq_true rfl) (by simp [Value.oneCell']) H.out) ?_
  have h8 := H.out.setCells 0 [.int .i64 x.k, .int .i64 x.c, .int .i64 2, .int .i64 x.who, .int .i64 x.y] (Nat.le_of_ble_eq_true rfl)
  generalize World.setCells _ _ _ _ = w5 at h8 ⊢
  replace H : Aside (St w0 w5 (blk g_ #[.int .i64 x.k, .int .i64 x.c, .int .i64 2, .int .i64 x.who, .int .i64 x.y] 168 :: (Are p a gC who true X lv l cn fl ++ swB s x :: F))) := Aside.mk h8
  clear h8
  refine hK.out _ _ ⟨(H.out.pick 5 rfl).cell 3, (H.out.pick 5 rfl).cell 7, (H.out.pick 5 rfl).cell 8, (H.out.pick 5 rfl).cell 9, (H.out.pick 5 rfl).cell 10, (H.out.pick 5 rfl).cell 11⟩ (fun hHeld => ?_)
  clear hK K
  refine pu_ (v := ?_) (a' := ?_) 14 (some 8) 32767 rfl rfl HT_ (by kernel_rfl) (.inl ⟨by rfl, ?_⟩) ?_ ?_; rotate_left 2; (· intro w'; go_simp; with_reducible rfl); (· simp only [nrm]; rfl)
  refine done_ (done_of HT_.out (by kernel_rfl)) ?_
  clear HT_ HW_ hHeld
  have z6 := (H.out.pick 5 rfl).cell 6
  have f6 := (H.out.pick 5 rfl).frozen 6
  go_wp2_with (with_reducible refine stop_at (.store 3 (.tmp 102) (.const (.int .i64 2))) rfl ?_)
  refine ⟨?_⟩
  refine st_store rfl rfl rfl [.int .i64 2] ({ x with at_ := 2 } : Sw).cells rfl rfl rfl (Nat.le_of_ble_eq_true rfl) (by simp [Value.oneCell']) (H.out.pick 5 rfl) rfl ?_
  intro w6 h6
  replace H : Aside (St w0 w6 (blk g_ #[.int .i64 x.k, .int .i64 x.c, .int .i64 2, .int .i64 x.who, .int .i64 x.y] 168 :: (Are p a gC who true X lv l cn fl ++ swB s ({ x with at_ := 2 } : Sw) :: F))) := Aside.mk (back_ (L := blk g_ #[.int .i64 x.k, .int .i64 x.c, .int .i64 2, .int .i64 x.who, .int .i64 x.y] 168 :: Are p a gC who true X lv l cn fl) h6)
  clear h6 z6 f6
  go_wp2_with fail
  replace H := Aside.mk H.out.drew
  have hcas := fun (w : World) (h : St w0 w (Are p a gC who true X lv l cn fl ++ blk g_ #[.int .i64 x.k, .int .i64 x.c, .int .i64 2, .int .i64 x.who, .int .i64 x.y] 168 :: swB s ({ x with at_ := 2 } : Sw) :: F)) => cas_yes (F := blk g_ #[.int .i64 x.k, .int .i64 x.c, .int .i64 2, .int .i64 x.who, .int .i64 x.y] 168 :: swB s ({ x with at_ := 2 } : Sw) :: F) i (wordOf x.k x.c 2 x.who x.y) HI.out HX.out HL.out H0.out HC.out h
  rw [← HW.out] at hcas
  replace hcas := Aside.mk hcas
  refine start_ (n := 18) (S := fun w' => w'.cell? ⟨s, 0, none⟩ = some (.int .i64 x.pp) ∧ w'.cell? ⟨s, 1, none⟩ = some (.int .i64 x.pt) ∧ w'.cell? ⟨s, 2, none⟩ = some (.int .i64 x.pr) ∧ w'.cell? ⟨s, 5, none⟩ = some (.int .i64 x.page) ∧ w'.cell? ⟨s, 12, none⟩ = some (.int .u64 x.was) ∧ w'.cell? ⟨g_, 0, none⟩ = some (.int .i64 x.k) ∧ w'.cell? ⟨g_, 1, none⟩ = some (.int .i64 x.c) ∧ w'.cell? ⟨g_, 2, none⟩ = some (.int .i64 2) ∧ w'.cell? ⟨g_, 3, none⟩ = some (.int .i64 x.who) ∧ w'.cell? ⟨g_, 4, none⟩ = some (.int .i64 x.y)) (ds := []) (flg 18 0) (by kernel_rfl) rfl rfl (⟨(H.out.pick 5 rfl).cell 0, (H.out.pick 5 rfl).cell 1, (H.out.pick 5 rfl).cell 2, (H.out.pick 5 rfl).cell 5, (H.out.pick 5 rfl).cell 12, H.out.cell 0, H.out.cell 1, H.out.cell 2, H.out.cell 3, H.out.cell 4⟩) (fun hHeld => ?_)
  refine with_tabW sw.tab16 sw.bits16 (fun HT_ HW_ => ?_)
  refine pu_ (v := ?_) (a' := ?_) 0 (some 103) 1 rfl rfl HT_ (by kernel_rfl) (.inl ⟨by rfl, ?_⟩) ?_ ?_; rotate_left 2; (· intro w'; go_simp; with_reducible rfl); (· simp only [nrm]; rfl)
  refine pu_ (v := ?_) (a' := ?_) 1 (some 104) 3 rfl rfl HT_ (by kernel_rfl) (.inl ⟨by rfl, ?_⟩) ?_ ?_; rotate_left 2; (· intro w'; go_simp; with_reducible rfl); (· simp only [nrm]; rfl)
  refine pu_ (v := ?_) (a' := ?_) 2 (some 105) 7 rfl rfl HT_ (by kernel_rfl) (.inl ⟨by rfl, ?_⟩) ?_ ?_; rotate_left 2; (· intro w'; go_simp; with_reducible rfl); (· simp only [nrm]; rfl)
  refine pu_ (v := ?_) (a' := ?_) 3 (some 106) 15 rfl rfl HT_ (by kernel_rfl) (.inl ⟨by rfl, ?_⟩) ?_ ?_; rotate_left 2; (· intro w'; go_simp; with_reducible rfl); (· simp only [nrm]; rfl)
  refine tk_ (v := ?_) (a' := ?_) 4 (some 107) 31 rfl rfl HT_ HW_ (by kernel_rfl) (.inl ⟨by rfl, ?_⟩) hHeld ?_ ?_; rotate_left 2; (· rintro w' ⟨_, _, _, _, _, _, _, _, _, _⟩; go_simp; with_reducible rfl); (· simp only [nrm]; rfl)
  refine pu_ (v := ?_) (a' := ?_) 5 (some 108) 63 rfl rfl HT_ (by kernel_rfl) (.inl ⟨by rfl, ?_⟩) ?_ ?_; rotate_left 2; (· intro w'; go_simp; with_reducible rfl); (· simp only [nrm]; rfl)
  refine pu_ (v := ?_) (a' := ?_) 6 (some 109) 127 rfl rfl HT_ (by kernel_rfl) (.inl ⟨by rfl, ?_⟩) ?_ ?_; rotate_left 2; (· intro w'; go_simp; with_reducible rfl); (· simp only [nrm]; rfl)
  refine pu_ (v := ?_) (a' := ?_) 7 (some 110) 255 rfl rfl HT_ (by kernel_rfl) (.inl ⟨by rfl, ?_⟩) ?_ ?_; rotate_left 2; (· intro w'; go_simp; with_reducible rfl); (· simp only [nrm]; rfl)
  refine tk_ (v := ?_) (a' := ?_) 8 (some 111) 511 rfl rfl HT_ HW_ (by kernel_rfl) (.inl ⟨by rfl, ?_⟩) hHeld ?_ ?_; rotate_left 2; (· rintro w' ⟨_, _, _, _, _, _, _, _, _, _⟩; go_simp; with_reducible rfl); (· simp only [nrm]; rfl)
  refine pu_ (v := ?_) (a' := ?_) 10 (some 113) 1535 rfl rfl HT_ (by kernel_rfl) (.inl ⟨by rfl, ?_⟩) ?_ ?_; rotate_left 2; (· intro w'; go_simp; with_reducible rfl); (· simp only [nrm]; rfl)
  refine pu_ (v := ?_) (a' := ?_) 11 (some 114) 3583 rfl rfl HT_ (by kernel_rfl) (.inl ⟨by rfl, ?_⟩) ?_ ?_; rotate_left 2; (· intro w'; go_simp; with_reducible rfl); (· simp only [nrm]; rfl)
  refine pu_ (v := ?_) (a' := ?_) 12 (some 115) 7679 rfl rfl HT_ (by kernel_rfl) (.inl ⟨by rfl, ?_⟩) ?_ ?_; rotate_left 2; (· intro w'; go_simp; with_reducible rfl); (· simp only [nrm]; rfl)
  refine tk_ (v := ?_) (a' := ?_) 13 (some 116) 15871 rfl rfl HT_ HW_ (by kernel_rfl) (.inl ⟨by rfl, ?_⟩) hHeld ?_ ?_; rotate_left 2; (· rintro w' ⟨_, _, _, _, _, _, _, _, _, _⟩; go_simp; with_reducible rfl); (· simp only [nrm]; rfl)
  refine tk_ (v := ?_) (a' := ?_) 14 (some 117) 32255 rfl rfl HT_ HW_ (by kernel_rfl) (.inl ⟨by rfl, ?_⟩) hHeld ?_ ?_; rotate_left 2; (· rintro w' ⟨_, _, _, _, _, _, _, _, _, _⟩; go_simp; with_reducible rfl); (· simp only [nrm]; rfl)
  refine on_ 9 (some 112) 32767 rfl rfl HT_ (by kernel_rfl) (by decide) (fun K hK => ?_)
  refine goes_ Tryd.func85 (by kernel_rfl) rfl #[.agg #[.int .i64 x.pp, .int .i64 x.pt, .int .i64 x.pr], .int .i64 x.page] (by rfl) rfl rfl (by (try simp only [List.map_toArray, List.map_cons, List.map_nil]); first | done | rfl) ?_
  refine (layout_Plan_Entry.calls _ _ _ _ _ _ HE.out).mono ?_
  rintro e w7 ⟨rfl, hb⟩
  replace H := Aside.mk (H.out.step hb)
  clear hb
  refine ⟨_, rfl, ?_⟩
  refine hK.out _ _ ⟨(H.out.pick 5 rfl).cell 0, (H.out.pick 5 rfl).cell 1, (H.out.pick 5 rfl).cell 2, (H.out.pick 5 rfl).cell 5, (H.out.pick 5 rfl).cell 12, H.out.cell 0, H.out.cell 1, H.out.cell 2, H.out.cell 3, H.out.cell 4⟩ (fun hHeld => ?_)
  clear hK K
  refine norm_ (a' := ?_) ?_ ?_
  rotate_left
  · show Act.put _ (some 112) _ = _
    simp only [nrm]
    rfl
  refine on_ 15 (some 118) 65535 rfl rfl HT_ (by kernel_rfl) (by decide) (fun K hK => ?_)
  refine goes_ Tryd.func125 (by kernel_rfl) rfl #[.agg #[.int .i64 x.k, .int .i64 x.c, .int .i64 2, .int .i64 x.who, .int .i64 x.y]] (by rfl) rfl rfl (by (try simp only [List.map_toArray, List.map_cons, List.map_nil]); first | done | rfl) ?_
  refine (pages_coded.calls _ _ _ _ _ _ _ _ HCD.out).mono ?_
  rintro e w8 ⟨rfl, hb⟩
  replace H := Aside.mk (H.out.step hb)
  clear hb
  refine ⟨_, rfl, ?_⟩
  refine hK.out _ _ ⟨(H.out.pick 5 rfl).cell 0, (H.out.pick 5 rfl).cell 1, (H.out.pick 5 rfl).cell 2, (H.out.pick 5 rfl).cell 5, (H.out.pick 5 rfl).cell 12, H.out.cell 0, H.out.cell 1, H.out.cell 2, H.out.cell 3, H.out.cell 4⟩ (fun hHeld => ?_)
  clear hK K
  refine norm_ (a' := ?_) ?_ ?_
  rotate_left
  · show Act.put _ (some 118) _ = _
    simp only [nrm]
    rfl
  refine on_ 16 (some 119) 131071 rfl rfl HT_ (by kernel_rfl) (by decide) (fun K hK => ?_)
  refine goes_ Tryd.func119 (by kernel_rfl) rfl #[.pointer (some ⟨p, 0, none⟩), .int .i64 i, .int .u64 x.was, .int .u64 (wordOf x.k x.c 2 x.who x.y)] (by rfl) rfl rfl (by (try simp only [List.map_toArray, List.map_cons, List.map_nil]); first | done | rfl) ?_
  refine (hcas.out _ (back_ (P := blk g_ #[.int .i64 x.k, .int .i64 x.c, .int .i64 2, .int .i64 x.who, .int .i64 x.y] 168) (L := Are p a gC who true X lv l cn fl) H.out)).mono ?_
  rintro e w9 ⟨lv1, rfl, h1⟩
  replace H := Aside.mk (h1.pick 4 rfl)
  clear h1
  refine ⟨_, rfl, ?_⟩
  refine hK.out _ _ ⟨(H.out.pick 5 rfl).cell 0, (H.out.pick 5 rfl).cell 1, (H.out.pick 5 rfl).cell 2, (H.out.pick 5 rfl).cell 5, (H.out.pick 5 rfl).cell 12, H.out.cell 0, H.out.cell 1, H.out.cell 2, H.out.cell 3, H.out.cell 4⟩ (fun hHeld => ?_)
  clear hK K
  refine norm_ (a' := ?_) ?_ ?_
  rotate_left
  · show Act.put _ (some 119) _ = _
    simp only [nrm]
    rfl
  refine pu_ (v := ?_) (a' := ?_) 17 (some 120) 262143 rfl rfl HT_ (by kernel_rfl) (.inl ⟨by rfl, ?_⟩) ?_ ?_; rotate_left 2; (· intro w'; go_simp; with_reducible rfl); (· simp only [nrm]; rfl)
  refine done_ (done_of HT_.out (by kernel_rfl)) ?_
  clear HT_ HW_ hHeld
  have z6 := (H.out.pick 5 rfl).cell 6
  go_wp2
  go_ret
  rw [← HW.out]
  exact ⟨lv1, rfl, H.out.rest⟩
theorem step1b {P T page : Nat} (hp : Pl P T page x) (hat : x.at_ = 1) (hX : X.length = 128 + 64 * P) (hl : l.length ≤ 100000) (hc0 : 0 ≤ cn) (hc1 : cn ≤ 100000) (he : isE x.k x.c x.st x.o x.y = true) (hb : isE x.k x.c 2 x.who x.y = true) (hw : x.was ≠ X.getD (adr P T 0 page) 0) (h : St w0 w (Are p a gC who true X lv l cn fl ++ swB s x :: F)) :
    Calls Tryd.prog 112 #[swP s, .pointer (some ⟨p, 0, none⟩)] w fun e w' => ∃ lv', e = .returned (.bool true) ∧ St w0 w' (Are p a gC who false X lv' (l ++ [⟨who, 4, adr P T 0 page, x.was, wordOf x.k x.c 2 x.who x.y, X.getD (adr P T 0 page) 0, X.getD (adr P T 0 page) 0⟩]) (cn + 1) fl ++ swB s { x with block := true, at_ := 8 } :: F) := by
  have HTK := Aside.mk (fun w => taken_c he hb w)
  have HCD := Aside.mk (coded_ hb)
  have hE := ent_ hp page hp.hi
  rw [← hp.pg] at hE
  have HE := Aside.mk hE
  have hi : adr P T 0 page < X.length := by rw [hX]; exact adr_lt hp.hP hp.hT hp.hi (by decide)
  generalize hi0 : adr P T 0 page = i at HE hi hw ⊢
  have HX := Aside.mk (show X.length ≤ 4096 by have := hp.hP; omega)
  have HL := Aside.mk (show l.length ≤ 1000000 by omega)
  have HC := Aside.mk (show cn ≤ 1000000 by omega)
  have HI := Aside.mk hi
  have H0 := Aside.mk hc0
  have x0 : w.cell? ⟨s, 0, none⟩ = some (.int .i64 x.pp) := (h.pick 4 rfl).cell 0
  have x1 : w.cell? ⟨s, 1, none⟩ = some (.int .i64 x.pt) := (h.pick 4 rfl).cell 1
  have x2 : w.cell? ⟨s, 2, none⟩ = some (.int .i64 x.pr) := (h.pick 4 rfl).cell 2
  have x3 : w.cell? ⟨s, 3, none⟩ = some (.int .i64 x.who) := (h.pick 4 rfl).cell 3
  have x5 : w.cell? ⟨s, 5, none⟩ = some (.int .i64 x.page) := (h.pick 4 rfl).cell 5
  have x6 : w.cell? ⟨s, 6, none⟩ = some (.int .i64 x.at_) := (h.pick 4 rfl).cell 6
  have x7 : w.cell? ⟨s, 7, none⟩ = some (.int .i64 x.k) := (h.pick 4 rfl).cell 7
  have x8 : w.cell? ⟨s, 8, none⟩ = some (.int .i64 x.c) := (h.pick 4 rfl).cell 8
  have x9 : w.cell? ⟨s, 9, none⟩ = some (.int .i64 x.st) := (h.pick 4 rfl).cell 9
  have x10 : w.cell? ⟨s, 10, none⟩ = some (.int .i64 x.o) := (h.pick 4 rfl).cell 10
  have x11 : w.cell? ⟨s, 11, none⟩ = some (.int .i64 x.y) := (h.pick 4 rfl).cell 11
  have x12 : w.cell? ⟨s, 12, none⟩ = some (.int .u64 x.was) := (h.pick 4 rfl).cell 12
  rw [hat] at x6
  have H := Aside.mk h
  have HW := Aside.mk hw
  clear hw
  clear h hp hat hi0 hi hX hl hc0 hc1 he hb hE
  go_enter Tryd.func112, Tryd.ntmps112
  go_wp2_with (go_at_call 76; refine (open_ H.out).mono ?_; rintro e w1 ⟨rfl, rfl⟩)
  replace H := Aside.mk H.out.drew
  refine start_ (n := 15) (S := fun w' => w'.cell? ⟨s, 3, none⟩ = some (.int .i64 x.who) ∧ w'.cell? ⟨s, 7, none⟩ = some (.int .i64 x.k) ∧ w'.cell? ⟨s, 8, none⟩ = some (.int .i64 x.c) ∧ w'.cell? ⟨s, 9, none⟩ = some (.int .i64 x.st) ∧ w'.cell? ⟨s, 10, none⟩ = some (.int .i64 x.o) ∧ w'.cell? ⟨s, 11, none⟩ = some (.int .i64 x.y)) (ds := []) (flg 15 0) (by kernel_rfl) rfl rfl (⟨(H.out.pick 4 rfl).cell 3, (H.out.pick 4 rfl).cell 7, (H.out.pick 4 rfl).cell 8, (H.out.pick 4 rfl).cell 9, (H.out.pick 4 rfl).cell 10, (H.out.pick 4 rfl).cell 11⟩) (fun hHeld => ?_)
  refine with_tabW sw.tab14 sw.bits14 (fun HT_ HW_ => ?_)
  refine pu_ (v := ?_) (a' := ?_) 0 (some 89) 1 rfl rfl HT_ (by kernel_rfl) (.inl ⟨by rfl, ?_⟩) ?_ ?_; rotate_left 2; (· intro w'; go_simp; with_reducible rfl); (· simp only [nrm]; rfl)
  refine pu_ (v := ?_) (a' := ?_) 1 (some 90) 3 rfl rfl HT_ (by kernel_rfl) (.inl ⟨by rfl, ?_⟩) ?_ ?_; rotate_left 2; (· intro w'; go_simp; with_reducible rfl); (· simp only [nrm]; rfl)
  refine pu_ (v := ?_) (a' := ?_) 2 (some 91) 7 rfl rfl HT_ (by kernel_rfl) (.inl ⟨by rfl, ?_⟩) ?_ ?_; rotate_left 2; (· intro w'; go_simp; with_reducible rfl); (· simp only [nrm]; rfl)
  refine tk_ (v := ?_) (a' := ?_) 3 (some 92) 15 rfl rfl HT_ HW_ (by kernel_rfl) (.inl ⟨by rfl, ?_⟩) hHeld ?_ ?_; rotate_left 2; (· rintro w' ⟨_, _, _, _, _, _⟩; go_simp; with_reducible rfl); (· simp only [nrm]; rfl)
  refine pu_ (v := ?_) (a' := ?_) 4 (some 93) 31 rfl rfl HT_ (by kernel_rfl) (.inl ⟨by rfl, ?_⟩) ?_ ?_; rotate_left 2; (· intro w'; go_simp; with_reducible rfl); (· simp only [nrm]; rfl)
  refine pu_ (v := ?_) (a' := ?_) 5 (some 94) 63 rfl rfl HT_ (by kernel_rfl) (.inl ⟨by rfl, ?_⟩) ?_ ?_; rotate_left 2; (· intro w'; go_simp; with_reducible rfl); (· simp only [nrm]; rfl)
  refine pu_ (v := ?_) (a' := ?_) 6 (some 95) 127 rfl rfl HT_ (by kernel_rfl) (.inl ⟨by rfl, ?_⟩) ?_ ?_; rotate_left 2; (· intro w'; go_simp; with_reducible rfl); (· simp only [nrm]; rfl)
  refine tk_ (v := ?_) (a' := ?_) 7 (some 96) 255 rfl rfl HT_ HW_ (by kernel_rfl) (.inl ⟨by rfl, ?_⟩) hHeld ?_ ?_; rotate_left 2; (· rintro w' ⟨_, _, _, _, _, _⟩; go_simp; with_reducible rfl); (· simp only [nrm]; rfl)
  refine join_ (σ := Nat) 2 (flg 15 8191) (fun g_ => [(97, .tuple #[.agg #[.int .i64 x.k, .int .i64 x.c, .int .i64 2, .int .i64 x.who, .int .i64 x.y], .int .i64 0]), (88, .tuple #[.agg #[.int .i64 x.k, .int .i64 x.c, .int .i64 2, .int .i64 x.who, .int .i64 x.y], .int .i64 0]), (98, .agg #[.int .i64 x.k, .int .i64 x.c, .int .i64 2, .int .i64 x.who, .int .i64 x.y]), (99, .int .i64 0), (7, .pointer (some ⟨g_, 0, none⟩))]) (fun g_ w' => (w'.cell? ⟨s, 3, none⟩ = some (.int .i64 x.who) ∧ w'.cell? ⟨s, 7, none⟩ = some (.int .i64 x.k) ∧ w'.cell? ⟨s, 8, none⟩ = some (.int .i64 x.c) ∧ w'.cell? ⟨s, 9, none⟩ = some (.int .i64 x.st) ∧ w'.cell? ⟨s, 10, none⟩ = some (.int .i64 x.o) ∧ w'.cell? ⟨s, 11, none⟩ = some (.int .i64 x.y)) ∧ St w0 w' (blk g_ #[.int .i64 0, .int .i64 0, .int .i64 0, .int .i64 0, .int .i64 0] 168 :: (Are p a gC who true X lv l cn fl ++ swB s x :: F))) ?_ ?_
  rotate_left
  · intro hjoin
    simp only [putAll, nrm] at hjoin
    refine two_ (i := 8) (j := 12) (Ni := some 97) (Nj := some 7) (flg 15 511) (flg 15 4351) rfl rfl rfl rfl (two_of HT_.out (by kernel_rfl)) (by decide) (by decide) (fun K hK => ?_) (fun K hK => ?_)
    · refine goes_ Tryd.func155 (by kernel_rfl) rfl #[.agg #[.int .i64 x.k, .int .i64 x.c, .int .i64 x.st, .int .i64 x.o, .int .i64 x.y], .int .i64 2, .int .i64 x.who] (by rfl) rfl rfl (by (try simp only [List.map_toArray, List.map_cons, List.map_nil]); first | done | rfl) ?_
      refine (HTK.out _).mono ?_
      rintro e w2 ⟨rfl, hb⟩
      replace H := Aside.mk (H.out.step hb)
      clear hb
      refine ⟨_, rfl, ?_⟩
      refine hK.out _ _ ⟨(H.out.pick 4 rfl).cell 3, (H.out.pick 4 rfl).cell 7, (H.out.pick 4 rfl).cell 8, (H.out.pick 4 rfl).cell 9, (H.out.pick 4 rfl).cell 10, (H.out.pick 4 rfl).cell 11⟩ (fun hHeld => ?_)
      clear hK K
      refine norm_ (a' := ?_) ?_ ?_
      rotate_left
      · show Act.put _ (some 97) _ = _
        simp only [nrm]
        rfl
      refine pu_ (v := ?_) (a' := ?_) 9 (some 88) 1023 rfl rfl HT_ (by kernel_rfl) (.inl ⟨by rfl, ?_⟩) ?_ ?_; rotate_left 2; (· intro w'; go_simp; with_reducible rfl); (· simp only [nrm]; rfl)
      refine pu_ (v := ?_) (a' := ?_) 10 (some 98) 2047 rfl rfl HT_ (by kernel_rfl) (.inl ⟨by rfl, ?_⟩) ?_ ?_; rotate_left 2; (· intro w'; go_simp; with_reducible rfl); (· simp only [nrm]; rfl)
      refine pu_ (v := ?_) (a' := ?_) 11 (some 99) 4095 rfl rfl HT_ (by kernel_rfl) (.inl ⟨by rfl, ?_⟩) ?_ ?_; rotate_left 2; (· intro w'; go_simp; with_reducible rfl); (· simp only [nrm]; rfl)
      refine on_ 12 (some 7) 8191 rfl rfl HT_ (by kernel_rfl) (by decide) (fun K hK => ?_)
      refine value_ (w1 := ?_) (v := ?_) (by rfl) rfl ?_ ?_
      rotate_left 2
      · go_simp
        constructor
        · rfl
        · rfl
      replace H := Aside.mk (H.out.alloc #[.int .i64 0, .int .i64 0, .int .i64 0, .int .i64 0, .int .i64 0] 168)
      refine hK.out _ _ ⟨(H.out.pick 5 rfl).cell 3, (H.out.pick 5 rfl).cell 7, (H.out.pick 5 rfl).cell 8, (H.out.pick 5 rfl).cell 9, (H.out.pick 5 rfl).cell 10, (H.out.pick 5 rfl).cell 11⟩ (fun hHeld => ?_)
      clear hK K
      refine norm_ (a' := ?_) ?_ ?_
      rotate_left
      · show Act.put _ (some 7) _ = _
        simp only [nrm]
        rfl
      exact hjoin _ _ ⟨hHeld, H.out⟩
    · refine value_ (w1 := ?_) (v := ?_) (by rfl) rfl ?_ ?_
      rotate_left 2
      · go_simp
        constructor
        · rfl
        · rfl
      replace H := Aside.mk (H.out.alloc #[.int .i64 0, .int .i64 0, .int .i64 0, .int .i64 0, .int .i64 0] 168)
      refine hK.out _ _ ⟨(H.out.pick 5 rfl).cell 3, (H.out.pick 5 rfl).cell 7, (H.out.pick 5 rfl).cell 8, (H.out.pick 5 rfl).cell 9, (H.out.pick 5 rfl).cell 10, (H.out.pick 5 rfl).cell 11⟩ (fun hHeld => ?_)
      clear hK K
      refine norm_ (a' := ?_) ?_ ?_
      rotate_left
      · show Act.put _ (some 7) _ = _
        simp only [nrm]
        rfl
      refine on_ 8 (some 97) 4607 rfl rfl HT_ (by kernel_rfl) (by decide) (fun K hK => ?_)
      refine goes_ Tryd.func155 (by kernel_rfl) rfl #[.agg #[.int .i64 x.k, .int .i64 x.c, .int .i64 x.st, .int .i64 x.o, .int .i64 x.y], .int .i64 2, .int .i64 x.who] (by rfl) rfl rfl (by (try simp only [List.map_toArray, List.map_cons, List.map_nil]); first | done | rfl) ?_
      refine (HTK.out _).mono ?_
      rintro e w2 ⟨rfl, hb⟩
      replace H := Aside.mk (H.out.step hb)
      clear hb
      refine ⟨_, rfl, ?_⟩
      refine hK.out _ _ ⟨(H.out.pick 5 rfl).cell 3, (H.out.pick 5 rfl).cell 7, (H.out.pick 5 rfl).cell 8, (H.out.pick 5 rfl).cell 9, (H.out.pick 5 rfl).cell 10, (H.out.pick 5 rfl).cell 11⟩ (fun hHeld => ?_)
      clear hK K
      refine norm_ (a' := ?_) ?_ ?_
      rotate_left
      · show Act.put _ (some 97) _ = _
        simp only [nrm]
        rfl
      refine pu_ (v := ?_) (a' := ?_) 9 (some 88) 5119 rfl rfl HT_ (by kernel_rfl) (.inl ⟨by rfl, ?_⟩) ?_ ?_; rotate_left 2; (· intro w'; go_simp; with_reducible rfl); (· simp only [nrm]; rfl)
      refine pu_ (v := ?_) (a' := ?_) 10 (some 98) 6143 rfl rfl HT_ (by kernel_rfl) (.inl ⟨by rfl, ?_⟩) ?_ ?_; rotate_left 2; (· intro w'; go_simp; with_reducible rfl); (· simp only [nrm]; rfl)
      refine pu_ (v := ?_) (a' := ?_) 11 (some 99) 8191 rfl rfl HT_ (by kernel_rfl) (.inl ⟨by rfl, ?_⟩) ?_ ?_; rotate_left 2; (· intro w'; go_simp; with_reducible rfl); (· simp only [nrm]; rfl)
      exact hjoin _ _ ⟨hHeld, H.out⟩
  rintro g_ w4 ⟨hHeld, hst⟩
  replace H := Aside.mk hst
  clear hst
  refine norm_ (a' := ?_) ?_ ?_
  rotate_left
  · simp only [putAll, nrm]
    rfl
  refine on_ 13 (none) 16383 rfl rfl HT_ (by kernel_rfl) (by decide) (fun K hK => ?_)
  refine skip_ (by rfl) rfl (st_run_store (seg := [.int .i64 x.k, .int .i64 x.c, .int .i64 2, .int .i64 x.who, .int .i64 x.y]) rfl rfl rfl rfl (Nat.le_of_ble_eq_true rfl) (by simp [Value.oneCell']) H.out) ?_
  have h8 := H.out.setCells 0 [.int .i64 x.k, .int .i64 x.c, .int .i64 2, .int .i64 x.who, .int .i64 x.y] (Nat.le_of_ble_eq_true rfl)
  generalize World.setCells _ _ _ _ = w5 at h8 ⊢
  replace H : Aside (St w0 w5 (blk g_ #[.int .i64 x.k, .int .i64 x.c, .int .i64 2, .int .i64 x.who, .int .i64 x.y] 168 :: (Are p a gC who true X lv l cn fl ++ swB s x :: F))) := Aside.mk h8
  clear h8
  refine hK.out _ _ ⟨(H.out.pick 5 rfl).cell 3, (H.out.pick 5 rfl).cell 7, (H.out.pick 5 rfl).cell 8, (H.out.pick 5 rfl).cell 9, (H.out.pick 5 rfl).cell 10, (H.out.pick 5 rfl).cell 11⟩ (fun hHeld => ?_)
  clear hK K
  refine pu_ (v := ?_) (a' := ?_) 14 (some 8) 32767 rfl rfl HT_ (by kernel_rfl) (.inl ⟨by rfl, ?_⟩) ?_ ?_; rotate_left 2; (· intro w'; go_simp; with_reducible rfl); (· simp only [nrm]; rfl)
  refine done_ (done_of HT_.out (by kernel_rfl)) ?_
  clear HT_ HW_ hHeld
  have z6 := (H.out.pick 5 rfl).cell 6
  have f6 := (H.out.pick 5 rfl).frozen 6
  go_wp2_with (with_reducible refine stop_at (.store 3 (.tmp 102) (.const (.int .i64 2))) rfl ?_)
  refine ⟨?_⟩
  refine st_store rfl rfl rfl [.int .i64 2] ({ x with at_ := 2 } : Sw).cells rfl rfl rfl (Nat.le_of_ble_eq_true rfl) (by simp [Value.oneCell']) (H.out.pick 5 rfl) rfl ?_
  intro w6 h6
  replace H : Aside (St w0 w6 (blk g_ #[.int .i64 x.k, .int .i64 x.c, .int .i64 2, .int .i64 x.who, .int .i64 x.y] 168 :: (Are p a gC who true X lv l cn fl ++ swB s ({ x with at_ := 2 } : Sw) :: F))) := Aside.mk (back_ (L := blk g_ #[.int .i64 x.k, .int .i64 x.c, .int .i64 2, .int .i64 x.who, .int .i64 x.y] 168 :: Are p a gC who true X lv l cn fl) h6)
  clear h6 z6 f6
  go_wp2_with fail
  replace H := Aside.mk H.out.drew
  have hcas := fun (w : World) (h : St w0 w (Are p a gC who true X lv l cn fl ++ blk g_ #[.int .i64 x.k, .int .i64 x.c, .int .i64 2, .int .i64 x.who, .int .i64 x.y] 168 :: swB s ({ x with at_ := 2 } : Sw) :: F)) => cas_no (F := blk g_ #[.int .i64 x.k, .int .i64 x.c, .int .i64 2, .int .i64 x.who, .int .i64 x.y] 168 :: swB s ({ x with at_ := 2 } : Sw) :: F) i x.was (wordOf x.k x.c 2 x.who x.y) HW.out HI.out HX.out HL.out H0.out HC.out h
  replace hcas := Aside.mk hcas
  refine start_ (n := 18) (S := fun w' => w'.cell? ⟨s, 0, none⟩ = some (.int .i64 x.pp) ∧ w'.cell? ⟨s, 1, none⟩ = some (.int .i64 x.pt) ∧ w'.cell? ⟨s, 2, none⟩ = some (.int .i64 x.pr) ∧ w'.cell? ⟨s, 5, none⟩ = some (.int .i64 x.page) ∧ w'.cell? ⟨s, 12, none⟩ = some (.int .u64 x.was) ∧ w'.cell? ⟨g_, 0, none⟩ = some (.int .i64 x.k) ∧ w'.cell? ⟨g_, 1, none⟩ = some (.int .i64 x.c) ∧ w'.cell? ⟨g_, 2, none⟩ = some (.int .i64 2) ∧ w'.cell? ⟨g_, 3, none⟩ = some (.int .i64 x.who) ∧ w'.cell? ⟨g_, 4, none⟩ = some (.int .i64 x.y)) (ds := []) (flg 18 0) (by kernel_rfl) rfl rfl (⟨(H.out.pick 5 rfl).cell 0, (H.out.pick 5 rfl).cell 1, (H.out.pick 5 rfl).cell 2, (H.out.pick 5 rfl).cell 5, (H.out.pick 5 rfl).cell 12, H.out.cell 0, H.out.cell 1, H.out.cell 2, H.out.cell 3, H.out.cell 4⟩) (fun hHeld => ?_)
  refine with_tabW sw.tab16 sw.bits16 (fun HT_ HW_ => ?_)
  refine pu_ (v := ?_) (a' := ?_) 0 (some 103) 1 rfl rfl HT_ (by kernel_rfl) (.inl ⟨by rfl, ?_⟩) ?_ ?_; rotate_left 2; (· intro w'; go_simp; with_reducible rfl); (· simp only [nrm]; rfl)
  refine pu_ (v := ?_) (a' := ?_) 1 (some 104) 3 rfl rfl HT_ (by kernel_rfl) (.inl ⟨by rfl, ?_⟩) ?_ ?_; rotate_left 2; (· intro w'; go_simp; with_reducible rfl); (· simp only [nrm]; rfl)
  refine pu_ (v := ?_) (a' := ?_) 2 (some 105) 7 rfl rfl HT_ (by kernel_rfl) (.inl ⟨by rfl, ?_⟩) ?_ ?_; rotate_left 2; (· intro w'; go_simp; with_reducible rfl); (· simp only [nrm]; rfl)
  refine pu_ (v := ?_) (a' := ?_) 3 (some 106) 15 rfl rfl HT_ (by kernel_rfl) (.inl ⟨by rfl, ?_⟩) ?_ ?_; rotate_left 2; (· intro w'; go_simp; with_reducible rfl); (· simp only [nrm]; rfl)
  refine tk_ (v := ?_) (a' := ?_) 4 (some 107) 31 rfl rfl HT_ HW_ (by kernel_rfl) (.inl ⟨by rfl, ?_⟩) hHeld ?_ ?_; rotate_left 2; (· rintro w' ⟨_, _, _, _, _, _, _, _, _, _⟩; go_simp; with_reducible rfl); (· simp only [nrm]; rfl)
  refine pu_ (v := ?_) (a' := ?_) 5 (some 108) 63 rfl rfl HT_ (by kernel_rfl) (.inl ⟨by rfl, ?_⟩) ?_ ?_; rotate_left 2; (· intro w'; go_simp; with_reducible rfl); (· simp only [nrm]; rfl)
  refine pu_ (v := ?_) (a' := ?_) 6 (some 109) 127 rfl rfl HT_ (by kernel_rfl) (.inl ⟨by rfl, ?_⟩) ?_ ?_; rotate_left 2; (· intro w'; go_simp; with_reducible rfl); (· simp only [nrm]; rfl)
  refine pu_ (v := ?_) (a' := ?_) 7 (some 110) 255 rfl rfl HT_ (by kernel_rfl) (.inl ⟨by rfl, ?_⟩) ?_ ?_; rotate_left 2; (· intro w'; go_simp; with_reducible rfl); (· simp only [nrm]; rfl)
  refine tk_ (v := ?_) (a' := ?_) 8 (some 111) 511 rfl rfl HT_ HW_ (by kernel_rfl) (.inl ⟨by rfl, ?_⟩) hHeld ?_ ?_; rotate_left 2; (· rintro w' ⟨_, _, _, _, _, _, _, _, _, _⟩; go_simp; with_reducible rfl); (· simp only [nrm]; rfl)
  refine pu_ (v := ?_) (a' := ?_) 10 (some 113) 1535 rfl rfl HT_ (by kernel_rfl) (.inl ⟨by rfl, ?_⟩) ?_ ?_; rotate_left 2; (· intro w'; go_simp; with_reducible rfl); (· simp only [nrm]; rfl)
  refine pu_ (v := ?_) (a' := ?_) 11 (some 114) 3583 rfl rfl HT_ (by kernel_rfl) (.inl ⟨by rfl, ?_⟩) ?_ ?_; rotate_left 2; (· intro w'; go_simp; with_reducible rfl); (· simp only [nrm]; rfl)
  refine pu_ (v := ?_) (a' := ?_) 12 (some 115) 7679 rfl rfl HT_ (by kernel_rfl) (.inl ⟨by rfl, ?_⟩) ?_ ?_; rotate_left 2; (· intro w'; go_simp; with_reducible rfl); (· simp only [nrm]; rfl)
  refine tk_ (v := ?_) (a' := ?_) 13 (some 116) 15871 rfl rfl HT_ HW_ (by kernel_rfl) (.inl ⟨by rfl, ?_⟩) hHeld ?_ ?_; rotate_left 2; (· rintro w' ⟨_, _, _, _, _, _, _, _, _, _⟩; go_simp; with_reducible rfl); (· simp only [nrm]; rfl)
  refine tk_ (v := ?_) (a' := ?_) 14 (some 117) 32255 rfl rfl HT_ HW_ (by kernel_rfl) (.inl ⟨by rfl, ?_⟩) hHeld ?_ ?_; rotate_left 2; (· rintro w' ⟨_, _, _, _, _, _, _, _, _, _⟩; go_simp; with_reducible rfl); (· simp only [nrm]; rfl)
  refine on_ 9 (some 112) 32767 rfl rfl HT_ (by kernel_rfl) (by decide) (fun K hK => ?_)
  refine goes_ Tryd.func85 (by kernel_rfl) rfl #[.agg #[.int .i64 x.pp, .int .i64 x.pt, .int .i64 x.pr], .int .i64 x.page] (by rfl) rfl rfl (by (try simp only [List.map_toArray, List.map_cons, List.map_nil]); first | done | rfl) ?_
  refine (layout_Plan_Entry.calls _ _ _ _ _ _ HE.out).mono ?_
  rintro e w7 ⟨rfl, hb⟩
  replace H := Aside.mk (H.out.step hb)
  clear hb
  refine ⟨_, rfl, ?_⟩
  refine hK.out _ _ ⟨(H.out.pick 5 rfl).cell 0, (H.out.pick 5 rfl).cell 1, (H.out.pick 5 rfl).cell 2, (H.out.pick 5 rfl).cell 5, (H.out.pick 5 rfl).cell 12, H.out.cell 0, H.out.cell 1, H.out.cell 2, H.out.cell 3, H.out.cell 4⟩ (fun hHeld => ?_)
  clear hK K
  refine norm_ (a' := ?_) ?_ ?_
  rotate_left
  · show Act.put _ (some 112) _ = _
    simp only [nrm]
    rfl
  refine on_ 15 (some 118) 65535 rfl rfl HT_ (by kernel_rfl) (by decide) (fun K hK => ?_)
  refine goes_ Tryd.func125 (by kernel_rfl) rfl #[.agg #[.int .i64 x.k, .int .i64 x.c, .int .i64 2, .int .i64 x.who, .int .i64 x.y]] (by rfl) rfl rfl (by (try simp only [List.map_toArray, List.map_cons, List.map_nil]); first | done | rfl) ?_
  refine (pages_coded.calls _ _ _ _ _ _ _ _ HCD.out).mono ?_
  rintro e w8 ⟨rfl, hb⟩
  replace H := Aside.mk (H.out.step hb)
  clear hb
  refine ⟨_, rfl, ?_⟩
  refine hK.out _ _ ⟨(H.out.pick 5 rfl).cell 0, (H.out.pick 5 rfl).cell 1, (H.out.pick 5 rfl).cell 2, (H.out.pick 5 rfl).cell 5, (H.out.pick 5 rfl).cell 12, H.out.cell 0, H.out.cell 1, H.out.cell 2, H.out.cell 3, H.out.cell 4⟩ (fun hHeld => ?_)
  clear hK K
  refine norm_ (a' := ?_) ?_ ?_
  rotate_left
  · show Act.put _ (some 118) _ = _
    simp only [nrm]
    rfl
  refine on_ 16 (some 119) 131071 rfl rfl HT_ (by kernel_rfl) (by decide) (fun K hK => ?_)
  refine goes_ Tryd.func119 (by kernel_rfl) rfl #[.pointer (some ⟨p, 0, none⟩), .int .i64 i, .int .u64 x.was, .int .u64 (wordOf x.k x.c 2 x.who x.y)] (by rfl) rfl rfl (by (try simp only [List.map_toArray, List.map_cons, List.map_nil]); first | done | rfl) ?_
  refine (hcas.out _ (back_ (P := blk g_ #[.int .i64 x.k, .int .i64 x.c, .int .i64 2, .int .i64 x.who, .int .i64 x.y] 168) (L := Are p a gC who true X lv l cn fl) H.out)).mono ?_
  rintro e w9 ⟨lv1, rfl, h1⟩
  replace H := Aside.mk (h1.pick 4 rfl)
  clear h1
  refine ⟨_, rfl, ?_⟩
  refine hK.out _ _ ⟨(H.out.pick 5 rfl).cell 0, (H.out.pick 5 rfl).cell 1, (H.out.pick 5 rfl).cell 2, (H.out.pick 5 rfl).cell 5, (H.out.pick 5 rfl).cell 12, H.out.cell 0, H.out.cell 1, H.out.cell 2, H.out.cell 3, H.out.cell 4⟩ (fun hHeld => ?_)
  clear hK K
  refine norm_ (a' := ?_) ?_ ?_
  rotate_left
  · show Act.put _ (some 119) _ = _
    simp only [nrm]
    rfl
  refine pu_ (v := ?_) (a' := ?_) 17 (some 120) 262143 rfl rfl HT_ (by kernel_rfl) (.inl ⟨by rfl, ?_⟩) ?_ ?_; rotate_left 2; (· intro w'; go_simp; with_reducible rfl); (· simp only [nrm]; rfl)
  refine done_ (done_of HT_.out (by kernel_rfl)) ?_
  clear HT_ HW_ hHeld
  go_wp2_with (with_reducible refine stop_at (.store 4 (.tmp 124) (.const (.bool true))) rfl ?_)
  refine ⟨?_⟩
  refine st_store rfl rfl rfl [.bool true] ({ x with at_ := 2, block := true } : Sw).cells rfl rfl rfl (Nat.le_of_ble_eq_true rfl) (by simp [Value.oneCell']) (H.out.pick 5 rfl) rfl ?_
  intro w10 h10
  have z6 := h10.cell 6
  have f6 := h10.frozen 6
  have H10 := Aside.mk h10
  clear h10
  go_wp2
  go_ret
  refine ⟨lv1, rfl, ?_⟩
  exact back_ (L := Are p a gC who false X lv1 (l ++ [⟨who, 4, i, x.was, wordOf x.k x.c 2 x.who x.y, X.getD i 0, X.getD i 0⟩]) (cn + 1) fl) ((H10.out.put 6 (.int .i64 8) rfl).pick 1 rfl).rest
def gv.T2 : Bool × List (List Nat × List Nat) := (true, [([], []), ([0], [0]), ([1], [1]), ([2], [2]), ([], []), ([4], [4]), ([5], [5]), ([6], [6]), ([3, 7], [3, 7]), ([8], [8]), ([9], [9]), ([9], [9]), ([], []), ([12, 10, 8, 0, 1, 2, 3, 4, 5, 6, 7, 8, 9, 10, 12], [10, 12]), ([11, 13, 0, 1, 2, 3, 4, 5, 6, 7, 8, 9, 10, 11, 12, 13], [11])])
def gv.B2 : List Nat := [0, 1, 3, 7, 0, 16, 48, 112, 255, 511, 1023, 1023, 0, 6143, 16383]
theorem gv.tab2 : rtab .any (opsOf Tryd.f158 2) = gv.T2 := by kernel_rfl
theorem gv.bits2 : waitsOk gv.T2.2 gv.B2 = true := by kernel_rfl
def gv.T4 : Bool × List (List Nat × List Nat) := (true, [([], []), ([], []), ([1], [1]), ([2], [2]), ([3], [3]), ([], []), ([5], [5]), ([6], [6]), ([7], [7]), ([4, 8], [4, 8]), ([], []), ([0, 9, 10, 9], [0, 9, 10])])
def gv.B4 : List Nat := [0, 0, 2, 6, 14, 0, 32, 96, 224, 510, 0, 2047]
theorem gv.tab4 : rtab .any (opsOf Tryd.f158 4) = gv.T4 := by kernel_rfl
theorem gv.bits4 : waitsOk gv.T4.2 gv.B4 = true := by kernel_rfl
theorem give_e {P T page : Nat} (hp : Pl P T page x) (hX : X.length = 128 + 64 * P) (hl : l.length ≤ 100000) (hc0 : 0 ≤ cn) (hc1 : cn ≤ 100000) (hem : x.empty = true) (h : St w0 w (Are p a gC who true X lv l cn fl ++ swB s x :: F)) :
    Calls Tryd.prog 158 #[swP s, .pointer (some ⟨p, 0, none⟩)] w fun e w' => ∃ lv', e = .returned (.tuple #[]) ∧ St w0 w' (Are p a gC who false (X.set (adr P T 0 page) (0)) lv' (l ++ [⟨who, 2, adr P T 0 page, 0, 0, X.getD (adr P T 0 page) 0, 0⟩]) (cn + 1) fl ++ swB s { x with swept := true, at_ := 8 } :: F) := by
  have hE := ent_ hp page hp.hi
  rw [← hp.pg] at hE
  have HE := Aside.mk hE
  have hi : adr P T 0 page < X.length := by rw [hX]; exact adr_lt hp.hP hp.hT hp.hi (by decide)
  generalize hi0 : adr P T 0 page = i at HE hi ⊢
  have HX := Aside.mk (show X.length ≤ 4096 by have := hp.hP; omega)
  have HL := Aside.mk (show l.length ≤ 1000000 by omega)
  have HC := Aside.mk (show cn ≤ 1000000 by omega)
  have HI := Aside.mk hi
  have H0 := Aside.mk hc0
  have x18 : w.cell? ⟨s, 18, none⟩ = some (.bool x.empty) := (h.pick 4 rfl).cell 18
  have H := Aside.mk h
  clear h hp hi0 hi hX hl hc0 hc1 hE
  go_enter Tryd.func158, Tryd.ntmps158
  rw [hem] at x18
  go_wp2_with fail
  replace H := Aside.mk H.out.drew
  refine start_ (n := 12) (S := fun w' => w'.cell? ⟨s, 0, none⟩ = some (.int .i64 x.pp) ∧ w'.cell? ⟨s, 1, none⟩ = some (.int .i64 x.pt) ∧ w'.cell? ⟨s, 2, none⟩ = some (.int .i64 x.pr) ∧ w'.cell? ⟨s, 5, none⟩ = some (.int .i64 x.page)) (ds := []) (flg 12 0) (by kernel_rfl) rfl rfl (⟨(H.out.pick 4 rfl).cell 0, (H.out.pick 4 rfl).cell 1, (H.out.pick 4 rfl).cell 2, (H.out.pick 4 rfl).cell 5⟩) (fun hHeld => ?_)
  refine with_tabW gv.tab4 gv.bits4 (fun HT_ HW_ => ?_)
  refine pu_ (v := ?_) (a' := ?_) 0 (some 26) 1 rfl rfl HT_ (by kernel_rfl) (.inl ⟨by rfl, ?_⟩) ?_ ?_; rotate_left 2; (· intro w'; go_simp; with_reducible rfl); (· simp only [nrm]; rfl)
  refine pu_ (v := ?_) (a' := ?_) 1 (some 27) 3 rfl rfl HT_ (by kernel_rfl) (.inl ⟨by rfl, ?_⟩) ?_ ?_; rotate_left 2; (· intro w'; go_simp; with_reducible rfl); (· simp only [nrm]; rfl)
  refine pu_ (v := ?_) (a' := ?_) 2 (some 28) 7 rfl rfl HT_ (by kernel_rfl) (.inl ⟨by rfl, ?_⟩) ?_ ?_; rotate_left 2; (· intro w'; go_simp; with_reducible rfl); (· simp only [nrm]; rfl)
  refine pu_ (v := ?_) (a' := ?_) 3 (some 29) 15 rfl rfl HT_ (by kernel_rfl) (.inl ⟨by rfl, ?_⟩) ?_ ?_; rotate_left 2; (· intro w'; go_simp; with_reducible rfl); (· simp only [nrm]; rfl)
  refine tk_ (v := ?_) (a' := ?_) 4 (some 30) 31 rfl rfl HT_ HW_ (by kernel_rfl) (.inl ⟨by rfl, ?_⟩) hHeld ?_ ?_; rotate_left 2; (· rintro w' ⟨_, _, _, _⟩; go_simp; with_reducible rfl); (· simp only [nrm]; rfl)
  refine pu_ (v := ?_) (a' := ?_) 5 (some 31) 63 rfl rfl HT_ (by kernel_rfl) (.inl ⟨by rfl, ?_⟩) ?_ ?_; rotate_left 2; (· intro w'; go_simp; with_reducible rfl); (· simp only [nrm]; rfl)
  refine pu_ (v := ?_) (a' := ?_) 6 (some 32) 127 rfl rfl HT_ (by kernel_rfl) (.inl ⟨by rfl, ?_⟩) ?_ ?_; rotate_left 2; (· intro w'; go_simp; with_reducible rfl); (· simp only [nrm]; rfl)
  refine pu_ (v := ?_) (a' := ?_) 7 (some 33) 255 rfl rfl HT_ (by kernel_rfl) (.inl ⟨by rfl, ?_⟩) ?_ ?_; rotate_left 2; (· intro w'; go_simp; with_reducible rfl); (· simp only [nrm]; rfl)
  refine tk_ (v := ?_) (a' := ?_) 8 (some 34) 511 rfl rfl HT_ HW_ (by kernel_rfl) (.inl ⟨by rfl, ?_⟩) hHeld ?_ ?_; rotate_left 2; (· rintro w' ⟨_, _, _, _⟩; go_simp; with_reducible rfl); (· simp only [nrm]; rfl)
  refine pu_ (v := ?_) (a' := ?_) 10 (some 36) 1535 rfl rfl HT_ (by kernel_rfl) (.inl ⟨by rfl, ?_⟩) ?_ ?_; rotate_left 2; (· intro w'; go_simp; with_reducible rfl); (· simp only [nrm]; rfl)
  refine on_ 9 (some 35) 2047 rfl rfl HT_ (by kernel_rfl) (by decide) (fun K hK => ?_)
  refine goes_ Tryd.func85 (by kernel_rfl) rfl #[.agg #[.int .i64 x.pp, .int .i64 x.pt, .int .i64 x.pr], .int .i64 x.page] (by rfl) rfl rfl (by (try simp only [List.map_toArray, List.map_cons, List.map_nil]); first | done | rfl) ?_
  refine (layout_Plan_Entry.calls _ _ _ _ _ _ HE.out).mono ?_
  rintro e w7 ⟨rfl, hb⟩
  replace H := Aside.mk (H.out.step hb)
  clear hb
  refine ⟨_, rfl, ?_⟩
  refine hK.out _ _ ⟨(H.out.pick 4 rfl).cell 0, (H.out.pick 4 rfl).cell 1, (H.out.pick 4 rfl).cell 2, (H.out.pick 4 rfl).cell 5⟩ (fun hHeld => ?_)
  clear hK K
  refine norm_ (a' := ?_) ?_ ?_
  rotate_left
  · show Act.put _ (some 35) _ = _
    simp only [nrm]
    rfl
  refine on_ 11 (some 37) 4095 rfl rfl HT_ (by kernel_rfl) (by decide) (fun K hK => ?_)
  refine goes_ Tryd.func77 (by kernel_rfl) rfl #[.pointer (some ⟨p, 0, none⟩), .int .i64 i, .int .u64 (0)] (by rfl) rfl rfl (by (try simp only [List.map_toArray, List.map_cons, List.map_nil]); first | done | rfl) ?_
  refine (store_ i (0) HI.out HX.out HL.out H0.out HC.out H.out).mono ?_
  rintro e w9 ⟨lv1, rfl, h1⟩
  replace H := Aside.mk h1
  clear h1
  refine ⟨_, rfl, ?_⟩
  refine hK.out _ _ ⟨(H.out.pick 4 rfl).cell 0, (H.out.pick 4 rfl).cell 1, (H.out.pick 4 rfl).cell 2, (H.out.pick 4 rfl).cell 5⟩ (fun hHeld => ?_)
  clear hK K
  refine norm_ (a' := ?_) ?_ ?_
  rotate_left
  · show Act.put _ (some 37) _ = _
    simp only [nrm]
    rfl
  refine done_ (done_of HT_.out (by kernel_rfl)) ?_
  clear HT_ HW_ hHeld
  have z6 := (H.out.pick 4 rfl).cell 6
  have f6 := (H.out.pick 4 rfl).frozen 6
  have z16 := (H.out.pick 4 rfl).cell 16
  have f16 := (H.out.pick 4 rfl).frozen 16
  go_wp2
  go_end0
  refine ⟨lv1, rfl, ?_⟩
  exact back_ (L := Are p a gC who false (X.set i (0)) lv1 (l ++ [⟨who, 2, i, 0, 0, X.getD i 0, 0⟩]) (cn + 1) fl) (((H.out.pick 4 rfl).put 16 (.bool true) rfl).put 6 (.int .i64 8) rfl)
theorem give_n {P T page : Nat} (hp : Pl P T page x) (hX : X.length = 128 + 64 * P) (hl : l.length ≤ 100000) (hc0 : 0 ≤ cn) (hc1 : cn ≤ 100000) (hem : x.empty = false) (he : isE x.k x.c x.st x.o x.y = true) (hk : x.k = 1 ∨ x.k = 2) (hb : isE x.k x.c 0 0 x.cyc = true) (h : St w0 w (Are p a gC who true X lv l cn fl ++ swB s x :: F)) :
    Calls Tryd.prog 158 #[swP s, .pointer (some ⟨p, 0, none⟩)] w fun e w' => ∃ lv', e = .returned (.tuple #[]) ∧ St w0 w' (Are p a gC who false (X.set (adr P T 0 page) (wordOf x.k x.c 0 0 x.cyc)) lv' (l ++ [⟨who, 2, adr P T 0 page, 0, wordOf x.k x.c 0 0 x.cyc, X.getD (adr P T 0 page) 0, wordOf x.k x.c 0 0 x.cyc⟩]) (cn + 1) fl ++ swB s { x with swept := true, at_ := 8 } :: F) := by
  have HGV := Aside.mk (fun w => given_c he hk hb w)
  have HCD := Aside.mk (coded_ hb)
  clear he hk hb
  have hE := ent_ hp page hp.hi
  rw [← hp.pg] at hE
  have HE := Aside.mk hE
  have hi : adr P T 0 page < X.length := by rw [hX]; exact adr_lt hp.hP hp.hT hp.hi (by decide)
  generalize hi0 : adr P T 0 page = i at HE hi ⊢
  have HX := Aside.mk (show X.length ≤ 4096 by have := hp.hP; omega)
  have HL := Aside.mk (show l.length ≤ 1000000 by omega)
  have HC := Aside.mk (show cn ≤ 1000000 by omega)
  have HI := Aside.mk hi
  have H0 := Aside.mk hc0
  have x18 : w.cell? ⟨s, 18, none⟩ = some (.bool x.empty) := (h.pick 4 rfl).cell 18
  have H := Aside.mk h
  clear h hp hi0 hi hX hl hc0 hc1 hE
  go_enter Tryd.func158, Tryd.ntmps158
  rw [hem] at x18
  go_wp2_with fail
  replace H := Aside.mk H.out.drew
  refine start_ (n := 15) (S := fun w' => w'.cell? ⟨s, 4, none⟩ = some (.int .i64 x.cyc) ∧ w'.cell? ⟨s, 7, none⟩ = some (.int .i64 x.k) ∧ w'.cell? ⟨s, 8, none⟩ = some (.int .i64 x.c) ∧ w'.cell? ⟨s, 9, none⟩ = some (.int .i64 x.st) ∧ w'.cell? ⟨s, 10, none⟩ = some (.int .i64 x.o) ∧ w'.cell? ⟨s, 11, none⟩ = some (.int .i64 x.y)) (ds := []) (flg 15 0) (by kernel_rfl) rfl rfl (⟨(H.out.pick 4 rfl).cell 4, (H.out.pick 4 rfl).cell 7, (H.out.pick 4 rfl).cell 8, (H.out.pick 4 rfl).cell 9, (H.out.pick 4 rfl).cell 10, (H.out.pick 4 rfl).cell 11⟩) (fun hHeld => ?_)
  refine with_tabW gv.tab2 gv.bits2 (fun HT_ HW_ => ?_)
  refine pu_ (v := ?_) (a' := ?_) 0 (some 13) 1 rfl rfl HT_ (by kernel_rfl) (.inl ⟨by rfl, ?_⟩) ?_ ?_; rotate_left 2; (· intro w'; go_simp; with_reducible rfl); (· simp only [nrm]; rfl)
  refine pu_ (v := ?_) (a' := ?_) 1 (some 14) 3 rfl rfl HT_ (by kernel_rfl) (.inl ⟨by rfl, ?_⟩) ?_ ?_; rotate_left 2; (· intro w'; go_simp; with_reducible rfl); (· simp only [nrm]; rfl)
  refine pu_ (v := ?_) (a' := ?_) 2 (some 15) 7 rfl rfl HT_ (by kernel_rfl) (.inl ⟨by rfl, ?_⟩) ?_ ?_; rotate_left 2; (· intro w'; go_simp; with_reducible rfl); (· simp only [nrm]; rfl)
  refine tk_ (v := ?_) (a' := ?_) 3 (some 16) 15 rfl rfl HT_ HW_ (by kernel_rfl) (.inl ⟨by rfl, ?_⟩) hHeld ?_ ?_; rotate_left 2; (· rintro w' ⟨_, _, _, _, _, _⟩; go_simp; with_reducible rfl); (· simp only [nrm]; rfl)
  refine pu_ (v := ?_) (a' := ?_) 4 (some 17) 31 rfl rfl HT_ (by kernel_rfl) (.inl ⟨by rfl, ?_⟩) ?_ ?_; rotate_left 2; (· intro w'; go_simp; with_reducible rfl); (· simp only [nrm]; rfl)
  refine pu_ (v := ?_) (a' := ?_) 5 (some 18) 63 rfl rfl HT_ (by kernel_rfl) (.inl ⟨by rfl, ?_⟩) ?_ ?_; rotate_left 2; (· intro w'; go_simp; with_reducible rfl); (· simp only [nrm]; rfl)
  refine pu_ (v := ?_) (a' := ?_) 6 (some 19) 127 rfl rfl HT_ (by kernel_rfl) (.inl ⟨by rfl, ?_⟩) ?_ ?_; rotate_left 2; (· intro w'; go_simp; with_reducible rfl); (· simp only [nrm]; rfl)
  refine tk_ (v := ?_) (a' := ?_) 7 (some 20) 255 rfl rfl HT_ HW_ (by kernel_rfl) (.inl ⟨by rfl, ?_⟩) hHeld ?_ ?_; rotate_left 2; (· rintro w' ⟨_, _, _, _, _, _⟩; go_simp; with_reducible rfl); (· simp only [nrm]; rfl)
  refine join_ (σ := Nat) 2 (flg 15 8191) (fun g_ => [(21, .tuple #[.agg #[.int .i64 x.k, .int .i64 x.c, .int .i64 0, .int .i64 0, .int .i64 x.cyc], .int .i64 0]), (12, .tuple #[.agg #[.int .i64 x.k, .int .i64 x.c, .int .i64 0, .int .i64 0, .int .i64 x.cyc], .int .i64 0]), (22, .agg #[.int .i64 x.k, .int .i64 x.c, .int .i64 0, .int .i64 0, .int .i64 x.cyc]), (23, .int .i64 0), (5, .pointer (some ⟨g_, 0, none⟩))]) (fun g_ w' => (w'.cell? ⟨s, 4, none⟩ = some (.int .i64 x.cyc) ∧ w'.cell? ⟨s, 7, none⟩ = some (.int .i64 x.k) ∧ w'.cell? ⟨s, 8, none⟩ = some (.int .i64 x.c) ∧ w'.cell? ⟨s, 9, none⟩ = some (.int .i64 x.st) ∧ w'.cell? ⟨s, 10, none⟩ = some (.int .i64 x.o) ∧ w'.cell? ⟨s, 11, none⟩ = some (.int .i64 x.y)) ∧ St w0 w' (blk g_ #[.int .i64 0, .int .i64 0, .int .i64 0, .int .i64 0, .int .i64 0] 168 :: (Are p a gC who true X lv l cn fl ++ swB s x :: F))) ?_ ?_
  rotate_left
  · intro hjoin
    simp only [putAll, nrm] at hjoin
    refine two_ (i := 8) (j := 12) (Ni := some 21) (Nj := some 5) (flg 15 511) (flg 15 4351) rfl rfl rfl rfl (two_of HT_.out (by kernel_rfl)) (by decide) (by decide) (fun K hK => ?_) (fun K hK => ?_)
    · refine goes_ Tryd.func124 (by kernel_rfl) rfl #[.agg #[.int .i64 x.k, .int .i64 x.c, .int .i64 x.st, .int .i64 x.o, .int .i64 x.y], .int .i64 x.cyc] (by rfl) rfl rfl (by (try simp only [List.map_toArray, List.map_cons, List.map_nil]); first | done | rfl) ?_
      refine (HGV.out _).mono ?_
      rintro e w2 ⟨rfl, hb⟩
      replace H := Aside.mk (H.out.step hb)
      clear hb
      refine ⟨_, rfl, ?_⟩
      refine hK.out _ _ ⟨(H.out.pick 4 rfl).cell 4, (H.out.pick 4 rfl).cell 7, (H.out.pick 4 rfl).cell 8, (H.out.pick 4 rfl).cell 9, (H.out.pick 4 rfl).cell 10, (H.out.pick 4 rfl).cell 11⟩ (fun hHeld => ?_)
      clear hK K
      refine norm_ (a' := ?_) ?_ ?_
      rotate_left
      · show Act.put _ (some 21) _ = _
        simp only [nrm]
        rfl
      refine pu_ (v := ?_) (a' := ?_) 9 (some 12) 1023 rfl rfl HT_ (by kernel_rfl) (.inl ⟨by rfl, ?_⟩) ?_ ?_; rotate_left 2; (· intro w'; go_simp; with_reducible rfl); (· simp only [nrm]; rfl)
      refine pu_ (v := ?_) (a' := ?_) 10 (some 22) 2047 rfl rfl HT_ (by kernel_rfl) (.inl ⟨by rfl, ?_⟩) ?_ ?_; rotate_left 2; (· intro w'; go_simp; with_reducible rfl); (· simp only [nrm]; rfl)
      refine pu_ (v := ?_) (a' := ?_) 11 (some 23) 4095 rfl rfl HT_ (by kernel_rfl) (.inl ⟨by rfl, ?_⟩) ?_ ?_; rotate_left 2; (· intro w'; go_simp; with_reducible rfl); (· simp only [nrm]; rfl)
      refine on_ 12 (some 5) 8191 rfl rfl HT_ (by kernel_rfl) (by decide) (fun K hK => ?_)
      refine value_ (w1 := ?_) (v := ?_) (by rfl) rfl ?_ ?_
      rotate_left 2
      · go_simp
        constructor
        · rfl
        · rfl
      replace H := Aside.mk (H.out.alloc #[.int .i64 0, .int .i64 0, .int .i64 0, .int .i64 0, .int .i64 0] 168)
      refine hK.out _ _ ⟨(H.out.pick 5 rfl).cell 4, (H.out.pick 5 rfl).cell 7, (H.out.pick 5 rfl).cell 8, (H.out.pick 5 rfl).cell 9, (H.out.pick 5 rfl).cell 10, (H.out.pick 5 rfl).cell 11⟩ (fun hHeld => ?_)
      clear hK K
      refine norm_ (a' := ?_) ?_ ?_
      rotate_left
      · show Act.put _ (some 5) _ = _
        simp only [nrm]
        rfl
      exact hjoin _ _ ⟨hHeld, H.out⟩
    · refine value_ (w1 := ?_) (v := ?_) (by rfl) rfl ?_ ?_
      rotate_left 2
      · go_simp
        constructor
        · rfl
        · rfl
      replace H := Aside.mk (H.out.alloc #[.int .i64 0, .int .i64 0, .int .i64 0, .int .i64 0, .int .i64 0] 168)
      refine hK.out _ _ ⟨(H.out.pick 5 rfl).cell 4, (H.out.pick 5 rfl).cell 7, (H.out.pick 5 rfl).cell 8, (H.out.pick 5 rfl).cell 9, (H.out.pick 5 rfl).cell 10, (H.out.pick 5 rfl).cell 11⟩ (fun hHeld => ?_)
      clear hK K
      refine norm_ (a' := ?_) ?_ ?_
      rotate_left
      · show Act.put _ (some 5) _ = _
        simp only [nrm]
        rfl
      refine on_ 8 (some 21) 4607 rfl rfl HT_ (by kernel_rfl) (by decide) (fun K hK => ?_)
      refine goes_ Tryd.func124 (by kernel_rfl) rfl #[.agg #[.int .i64 x.k, .int .i64 x.c, .int .i64 x.st, .int .i64 x.o, .int .i64 x.y], .int .i64 x.cyc] (by rfl) rfl rfl (by (try simp only [List.map_toArray, List.map_cons, List.map_nil]); first | done | rfl) ?_
      refine (HGV.out _).mono ?_
      rintro e w2 ⟨rfl, hb⟩
      replace H := Aside.mk (H.out.step hb)
      clear hb
      refine ⟨_, rfl, ?_⟩
      refine hK.out _ _ ⟨(H.out.pick 5 rfl).cell 4, (H.out.pick 5 rfl).cell 7, (H.out.pick 5 rfl).cell 8, (H.out.pick 5 rfl).cell 9, (H.out.pick 5 rfl).cell 10, (H.out.pick 5 rfl).cell 11⟩ (fun hHeld => ?_)
      clear hK K
      refine norm_ (a' := ?_) ?_ ?_
      rotate_left
      · show Act.put _ (some 21) _ = _
        simp only [nrm]
        rfl
      refine pu_ (v := ?_) (a' := ?_) 9 (some 12) 5119 rfl rfl HT_ (by kernel_rfl) (.inl ⟨by rfl, ?_⟩) ?_ ?_; rotate_left 2; (· intro w'; go_simp; with_reducible rfl); (· simp only [nrm]; rfl)
      refine pu_ (v := ?_) (a' := ?_) 10 (some 22) 6143 rfl rfl HT_ (by kernel_rfl) (.inl ⟨by rfl, ?_⟩) ?_ ?_; rotate_left 2; (· intro w'; go_simp; with_reducible rfl); (· simp only [nrm]; rfl)
      refine pu_ (v := ?_) (a' := ?_) 11 (some 23) 8191 rfl rfl HT_ (by kernel_rfl) (.inl ⟨by rfl, ?_⟩) ?_ ?_; rotate_left 2; (· intro w'; go_simp; with_reducible rfl); (· simp only [nrm]; rfl)
      exact hjoin _ _ ⟨hHeld, H.out⟩
  rintro g_ w4 ⟨hHeld, hst⟩
  replace H := Aside.mk hst
  clear hst
  refine norm_ (a' := ?_) ?_ ?_
  rotate_left
  · simp only [putAll, nrm]
    rfl
  refine on_ 13 (none) 16383 rfl rfl HT_ (by kernel_rfl) (by decide) (fun K hK => ?_)
  refine skip_ (by rfl) rfl (st_run_store (seg := [.int .i64 x.k, .int .i64 x.c, .int .i64 0, .int .i64 0, .int .i64 x.cyc]) rfl rfl rfl rfl (Nat.le_of_ble_eq_true rfl) (by simp [Value.oneCell']) H.out) ?_
  have h8 := H.out.setCells 0 [.int .i64 x.k, .int .i64 x.c, .int .i64 0, .int .i64 0, .int .i64 x.cyc] (Nat.le_of_ble_eq_true rfl)
  generalize World.setCells _ _ _ _ = w5 at h8 ⊢
  replace H : Aside (St w0 w5 (blk g_ #[.int .i64 x.k, .int .i64 x.c, .int .i64 0, .int .i64 0, .int .i64 x.cyc] 168 :: (Are p a gC who true X lv l cn fl ++ swB s x :: F))) := Aside.mk h8
  clear h8
  refine hK.out _ _ ⟨(H.out.pick 5 rfl).cell 4, (H.out.pick 5 rfl).cell 7, (H.out.pick 5 rfl).cell 8, (H.out.pick 5 rfl).cell 9, (H.out.pick 5 rfl).cell 10, (H.out.pick 5 rfl).cell 11⟩ (fun hHeld => ?_)
  clear hK K
  refine pu_ (v := ?_) (a' := ?_) 14 (some 6) 32767 rfl rfl HT_ (by kernel_rfl) (.inl ⟨by rfl, ?_⟩) ?_ ?_; rotate_left 2; (· intro w'; go_simp; with_reducible rfl); (· simp only [nrm]; rfl)
  refine done_ (done_of HT_.out (by kernel_rfl)) ?_
  clear HT_ HW_ hHeld
  have y0 : w5.cell? ⟨g_, 0, none⟩ = some (.int .i64 x.k) := H.out.cell 0
  have y1 : w5.cell? ⟨g_, 1, none⟩ = some (.int .i64 x.c) := H.out.cell 1
  have y2 : w5.cell? ⟨g_, 2, none⟩ = some (.int .i64 0) := H.out.cell 2
  have y3 : w5.cell? ⟨g_, 3, none⟩ = some (.int .i64 0) := H.out.cell 3
  have y4 : w5.cell? ⟨g_, 4, none⟩ = some (.int .i64 x.cyc) := H.out.cell 4
  go_wp2_with (go_at_call 125; refine (pages_coded.calls _ _ _ _ _ _ _ _ HCD.out).mono ?_; rintro e w6 ⟨rfl, hb⟩; replace H := Aside.mk (H.out.step hb).rest; clear hb y0 y1 y2 y3 y4)
  replace H := Aside.mk H.out.drew
  refine start_ (n := 12) (S := fun w' => w'.cell? ⟨s, 0, none⟩ = some (.int .i64 x.pp) ∧ w'.cell? ⟨s, 1, none⟩ = some (.int .i64 x.pt) ∧ w'.cell? ⟨s, 2, none⟩ = some (.int .i64 x.pr) ∧ w'.cell? ⟨s, 5, none⟩ = some (.int .i64 x.page)) (ds := []) (flg 12 0) (by kernel_rfl) rfl rfl (⟨(H.out.pick 4 rfl).cell 0, (H.out.pick 4 rfl).cell 1, (H.out.pick 4 rfl).cell 2, (H.out.pick 4 rfl).cell 5⟩) (fun hHeld => ?_)
  refine with_tabW gv.tab4 gv.bits4 (fun HT_ HW_ => ?_)
  refine pu_ (v := ?_) (a' := ?_) 0 (some 26) 1 rfl rfl HT_ (by kernel_rfl) (.inl ⟨by rfl, ?_⟩) ?_ ?_; rotate_left 2; (· intro w'; go_simp; with_reducible rfl); (· simp only [nrm]; rfl)
  refine pu_ (v := ?_) (a' := ?_) 1 (some 27) 3 rfl rfl HT_ (by kernel_rfl) (.inl ⟨by rfl, ?_⟩) ?_ ?_; rotate_left 2; (· intro w'; go_simp; with_reducible rfl); (· simp only [nrm]; rfl)
  refine pu_ (v := ?_) (a' := ?_) 2 (some 28) 7 rfl rfl HT_ (by kernel_rfl) (.inl ⟨by rfl, ?_⟩) ?_ ?_; rotate_left 2; (· intro w'; go_simp; with_reducible rfl); (· simp only [nrm]; rfl)
  refine pu_ (v := ?_) (a' := ?_) 3 (some 29) 15 rfl rfl HT_ (by kernel_rfl) (.inl ⟨by rfl, ?_⟩) ?_ ?_; rotate_left 2; (· intro w'; go_simp; with_reducible rfl); (· simp only [nrm]; rfl)
  refine tk_ (v := ?_) (a' := ?_) 4 (some 30) 31 rfl rfl HT_ HW_ (by kernel_rfl) (.inl ⟨by rfl, ?_⟩) hHeld ?_ ?_; rotate_left 2; (· rintro w' ⟨_, _, _, _⟩; go_simp; with_reducible rfl); (· simp only [nrm]; rfl)
  refine pu_ (v := ?_) (a' := ?_) 5 (some 31) 63 rfl rfl HT_ (by kernel_rfl) (.inl ⟨by rfl, ?_⟩) ?_ ?_; rotate_left 2; (· intro w'; go_simp; with_reducible rfl); (· simp only [nrm]; rfl)
  refine pu_ (v := ?_) (a' := ?_) 6 (some 32) 127 rfl rfl HT_ (by kernel_rfl) (.inl ⟨by rfl, ?_⟩) ?_ ?_; rotate_left 2; (· intro w'; go_simp; with_reducible rfl); (· simp only [nrm]; rfl)
  refine pu_ (v := ?_) (a' := ?_) 7 (some 33) 255 rfl rfl HT_ (by kernel_rfl) (.inl ⟨by rfl, ?_⟩) ?_ ?_; rotate_left 2; (· intro w'; go_simp; with_reducible rfl); (· simp only [nrm]; rfl)
  refine tk_ (v := ?_) (a' := ?_) 8 (some 34) 511 rfl rfl HT_ HW_ (by kernel_rfl) (.inl ⟨by rfl, ?_⟩) hHeld ?_ ?_; rotate_left 2; (· rintro w' ⟨_, _, _, _⟩; go_simp; with_reducible rfl); (· simp only [nrm]; rfl)
  refine pu_ (v := ?_) (a' := ?_) 10 (some 36) 1535 rfl rfl HT_ (by kernel_rfl) (.inl ⟨by rfl, ?_⟩) ?_ ?_; rotate_left 2; (· intro w'; go_simp; with_reducible rfl); (· simp only [nrm]; rfl)
  refine on_ 9 (some 35) 2047 rfl rfl HT_ (by kernel_rfl) (by decide) (fun K hK => ?_)
  refine goes_ Tryd.func85 (by kernel_rfl) rfl #[.agg #[.int .i64 x.pp, .int .i64 x.pt, .int .i64 x.pr], .int .i64 x.page] (by rfl) rfl rfl (by (try simp only [List.map_toArray, List.map_cons, List.map_nil]); first | done | rfl) ?_
  refine (layout_Plan_Entry.calls _ _ _ _ _ _ HE.out).mono ?_
  rintro e w7 ⟨rfl, hb⟩
  replace H := Aside.mk (H.out.step hb)
  clear hb
  refine ⟨_, rfl, ?_⟩
  refine hK.out _ _ ⟨(H.out.pick 4 rfl).cell 0, (H.out.pick 4 rfl).cell 1, (H.out.pick 4 rfl).cell 2, (H.out.pick 4 rfl).cell 5⟩ (fun hHeld => ?_)
  clear hK K
  refine norm_ (a' := ?_) ?_ ?_
  rotate_left
  · show Act.put _ (some 35) _ = _
    simp only [nrm]
    rfl
  refine on_ 11 (some 37) 4095 rfl rfl HT_ (by kernel_rfl) (by decide) (fun K hK => ?_)
  refine goes_ Tryd.func77 (by kernel_rfl) rfl #[.pointer (some ⟨p, 0, none⟩), .int .i64 i, .int .u64 (wordOf x.k x.c 0 0 x.cyc)] (by rfl) rfl rfl (by (try simp only [List.map_toArray, List.map_cons, List.map_nil]); first | done | rfl) ?_
  refine (store_ i (wordOf x.k x.c 0 0 x.cyc) HI.out HX.out HL.out H0.out HC.out H.out).mono ?_
  rintro e w9 ⟨lv1, rfl, h1⟩
  replace H := Aside.mk h1
  clear h1
  refine ⟨_, rfl, ?_⟩
  refine hK.out _ _ ⟨(H.out.pick 4 rfl).cell 0, (H.out.pick 4 rfl).cell 1, (H.out.pick 4 rfl).cell 2, (H.out.pick 4 rfl).cell 5⟩ (fun hHeld => ?_)
  clear hK K
  refine norm_ (a' := ?_) ?_ ?_
  rotate_left
  · show Act.put _ (some 37) _ = _
    simp only [nrm]
    rfl
  refine done_ (done_of HT_.out (by kernel_rfl)) ?_
  clear HT_ HW_ hHeld
  have z6 := (H.out.pick 4 rfl).cell 6
  have f6 := (H.out.pick 4 rfl).frozen 6
  have z16 := (H.out.pick 4 rfl).cell 16
  have f16 := (H.out.pick 4 rfl).frozen 16
  go_wp2
  go_end0
  refine ⟨lv1, rfl, ?_⟩
  exact back_ (L := Are p a gC who false (X.set i (wordOf x.k x.c 0 0 x.cyc)) lv1 (l ++ [⟨who, 2, i, 0, wordOf x.k x.c 0 0 x.cyc, X.getD i 0, wordOf x.k x.c 0 0 x.cyc⟩]) (cn + 1) fl) (((H.out.pick 4 rfl).put 16 (.bool true) rfl).put 6 (.int .i64 8) rfl)
theorem step7e {P T page : Nat} (hp : Pl P T page x) (hat : x.at_ = 7) (hX : X.length = 128 + 64 * P) (hl : l.length ≤ 100000) (hc0 : 0 ≤ cn) (hc1 : cn ≤ 100000) (hem : x.empty = true) (h : St w0 w (Are p a gC who true X lv l cn fl ++ swB s x :: F)) :
    Calls Tryd.prog 112 #[swP s, .pointer (some ⟨p, 0, none⟩)] w fun e w' => ∃ lv', e = .returned (.bool true) ∧ St w0 w' (Are p a gC who false (X.set (adr P T 0 page) (0)) lv' (l ++ [⟨who, 2, adr P T 0 page, 0, 0, X.getD (adr P T 0 page) 0, 0⟩]) (cn + 1) fl ++ swB s { x with swept := true, at_ := 8 } :: F) := by
  have HG := Aside.mk (fun (w : World) (h : St w0 w (Are p a gC who true X lv l cn fl ++ swB s x :: F)) => give_e hp hX hl hc0 hc1 hem h)
  have x6 : w.cell? ⟨s, 6, none⟩ = some (.int .i64 x.at_) := (h.pick 4 rfl).cell 6
  rw [hat] at x6
  have H := Aside.mk h
  generalize adr P T 0 page = i at HG ⊢
  clear h hp hat hX hl hc0 hc1
  go_enter Tryd.func112, Tryd.ntmps112
  go_wp2_with (first
    | (go_at_call 76; refine (open_ H.out).mono ?_; rintro e w1 ⟨rfl, rfl⟩)
    | (go_at_call 158; refine (HG.out _ H.out).mono ?_; rintro e w2 ⟨lv1, rfl, h1⟩; replace H := Aside.mk h1; have z6 := (h1.pick 4 rfl).cell 6; clear h1 HG x6))
  go_ret
  exact ⟨lv1, rfl, H.out⟩
theorem step7n {P T page : Nat} (hp : Pl P T page x) (hat : x.at_ = 7) (hX : X.length = 128 + 64 * P) (hl : l.length ≤ 100000) (hc0 : 0 ≤ cn) (hc1 : cn ≤ 100000) (hem : x.empty = false) (he : isE x.k x.c x.st x.o x.y = true) (hk : x.k = 1 ∨ x.k = 2) (hb : isE x.k x.c 0 0 x.cyc = true) (h : St w0 w (Are p a gC who true X lv l cn fl ++ swB s x :: F)) :
    Calls Tryd.prog 112 #[swP s, .pointer (some ⟨p, 0, none⟩)] w fun e w' => ∃ lv', e = .returned (.bool true) ∧ St w0 w' (Are p a gC who false (X.set (adr P T 0 page) (wordOf x.k x.c 0 0 x.cyc)) lv' (l ++ [⟨who, 2, adr P T 0 page, 0, wordOf x.k x.c 0 0 x.cyc, X.getD (adr P T 0 page) 0, wordOf x.k x.c 0 0 x.cyc⟩]) (cn + 1) fl ++ swB s { x with swept := true, at_ := 8 } :: F) := by
  have HG := Aside.mk (fun (w : World) (h : St w0 w (Are p a gC who true X lv l cn fl ++ swB s x :: F)) => give_n hp hX hl hc0 hc1 hem he hk hb h)
  have x6 : w.cell? ⟨s, 6, none⟩ = some (.int .i64 x.at_) := (h.pick 4 rfl).cell 6
  rw [hat] at x6
  have H := Aside.mk h
  generalize adr P T 0 page = i at HG ⊢
  clear h hp hat hX hl hc0 hc1 hem he hk hb
  go_enter Tryd.func112, Tryd.ntmps112
  go_wp2_with (first
    | (go_at_call 76; refine (open_ H.out).mono ?_; rintro e w1 ⟨rfl, rfl⟩)
    | (go_at_call 158; refine (HG.out _ H.out).mono ?_; rintro e w2 ⟨lv1, rfl, h1⟩; replace H := Aside.mk h1; have z6 := (h1.pick 4 rfl).cell 6; clear h1 HG x6))
  go_ret
  exact ⟨lv1, rfl, H.out⟩
end Go.Proofs.YtelfiegocdjnoaaDoor.Ar
