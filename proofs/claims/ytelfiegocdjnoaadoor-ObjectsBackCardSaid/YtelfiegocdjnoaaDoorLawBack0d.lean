/- The walk of ObjectsBack, its first part: where the object is to lie. Conditions: the package array of sizes reads as it was laid. -/
import Derived.Test.YtelfiegocdjnoaaDoorBb0
import Derived.Test.YtelfiegocdjnoaaDoorCn2
import Derived.Deep.CutBlock
import Derived.Test.YtelfiegocdjnoaaDoorMrF0
import Derived.Test.YtelfiegocdjnoaaDoorMrF1
import Derived.Test.YtelfiegocdjnoaaDoorMrF2
namespace Go.Proofs.YtelfiegocdjnoaaDoor.Ar
open Go Go.RowKit Go.Proofs.YtelfiegocdjnoaaDoor.Sep Go.Proofs.YtelfiegocdjnoaaDoor.Pg Go.Proofs.YtelfiegocdjnoaaDoorW.PrintWords Go.Proofs.YtelfiegocdjnoaaDoorW.PrintLast Go.Proofs.YtelfiegocdjnoaaDoorW.PrintMore Go.Proofs.YtelfiegocdjnoaaDoor.Q
set_option linter.unusedVariables false
set_option linter.unusedSimpArgs false
set_option maxHeartbeats 8000000
set_option maxRecDepth 100000
def bk.T1 : Bool × List (List Nat × List Nat) := (true, [([], []), ([0], [0]), ([], []), ([2], [2]), ([], []), ([4], [4]), ([], []), ([6], [6]), ([], []), ([8], [8]), ([], []), ([10], [10]), ([1, 0, 1], [1]), ([3, 12, 0, 1, 2, 3, 12], [3]), ([5, 13, 0, 1, 2, 3, 4, 5, 12, 13], [5]), ([7, 14, 0, 1, 2, 3, 4, 5, 6, 7, 12, 13, 14], [7]), ([9, 15, 0, 1, 2, 3, 4, 5, 6, 7, 8, 9, 12, 13, 14, 15], [9]), ([11, 16, 0, 1, 2, 3, 4, 5, 6, 7, 8, 9, 10, 11, 12, 13, 14, 15, 16], [11])])
def bk.B1 : List Nat := [0, 1, 0, 4, 0, 16, 0, 64, 0, 256, 0, 1024, 3, 4111, 12351, 28927, 62463, 131071]
theorem bk.tab1 : rtab .any (opsOf Tryd.f6 1) = bk.T1 := by kernel_rfl
theorem bk.bits1 : waitsOk bk.T1.2 bk.B1 = true := by kernel_rfl
def bk.T20 : Bool × List (List Nat × List Nat) := (true, [([], []), ([0], [0]), ([], []), ([2], [2]), ([1, 3], [1, 3]), ([], []), ([], []), ([6], [6]), ([], []), ([8], [8]), ([9], [9]), ([7, 10], [7, 10]), ([11], [11]), ([5, 12], [5, 12]), ([13], [13]), ([4, 14], [4, 14]), ([15, 0, 1, 2, 3, 4, 5, 6, 7, 8, 9, 10, 11, 12, 13, 14, 15], [15])])
def bk.B20 : List Nat := [0, 1, 0, 4, 15, 0, 0, 64, 0, 256, 768, 1984, 4032, 8160, 16352, 32767, 65535]
theorem bk.tab20 : rtab .any (opsOf Tryd.f6 20) = bk.T20 := by kernel_rfl
theorem bk.bits20 : waitsOk bk.T20.2 bk.B20 = true := by kernel_rfl
def bk.T22 : Bool × List (List Nat × List Nat) := (true, [([], []), ([], []), ([], []), ([], []), ([3], [3]), ([4], [4]), ([2, 5], [2, 5]), ([1, 6], [1, 6]), ([], []), ([], []), ([8, 9, 7], [8, 9]), ([], []), ([10, 11], [10, 11]), ([12], [12]), ([7, 13, 10], [7, 13]), ([0, 14, 14], [0, 14]), ([15], [15]), ([16], [16]), ([16], [16]), ([16], [16]), ([17, 15, 0, 1, 2, 3, 4, 5, 6, 7, 8, 9, 10, 11, 12, 13, 14, 15, 16, 17], [17]), ([18, 20, 0, 1, 2, 3, 4, 5, 6, 7, 8, 9, 10, 11, 12, 13, 14, 15, 16, 17, 18, 20], [18]), ([19, 21, 0, 1, 2, 3, 4, 5, 6, 7, 8, 9, 10, 11, 12, 13, 14, 15, 16, 17, 18, 19, 20, 21], [19])])
def bk.B22 : List Nat := [0, 0, 0, 0, 8, 24, 60, 126, 0, 0, 1022, 0, 4094, 8190, 16382, 32767, 65535, 131071, 131071, 131071, 262143, 1572863, 4194303]
theorem bk.tab22 : rtab .any (opsOf Tryd.f6 22) = bk.T22 := by kernel_rfl
theorem bk.bits22 : waitsOk bk.T22.2 bk.B22 = true := by kernel_rfl
def bk.T26 : Bool × List (List Nat × List Nat) := (true, [([], []), ([0], [0]), ([], []), ([], []), ([3, 1], [3]), ([1, 2, 4, 4], [1, 2, 4]), ([5], [5]), ([6], [6]), ([6], [6]), ([7, 5, 0, 1, 2, 3, 4, 5, 6, 7], [7]), ([8, 9, 0, 1, 2, 3, 4, 5, 6, 7, 8, 9], [8])])
def bk.B26 : List Nat := [0, 1, 0, 0, 11, 31, 63, 127, 127, 255, 1023]
theorem bk.tab26 : rtab .any (opsOf Tryd.f6 26) = bk.T26 := by kernel_rfl
theorem bk.bits26 : waitsOk bk.T26.2 bk.B26 = true := by kernel_rfl
def bk.T43 : Bool × List (List Nat × List Nat) := (true, [([], []), ([], []), ([0, 1], [0, 1]), ([2], [2]), ([3], [3]), ([3], [3]), ([3], [3]), ([5, 6, 3], [3, 5, 6]), ([4, 7, 3], [3, 4, 7]), ([3, 8], [3, 8]), ([9, 3], [9]), ([10], [10]), ([10], [10]), ([11, 12, 10], [10, 11, 12]), ([13, 10], [10, 13]), ([10], [10]), ([10], [10]), ([15, 16, 10], [10, 15, 16]), ([17, 10], [10, 17]), ([14, 18, 10], [10, 14, 18]), ([10, 19], [10, 19])])
def bk.B43 : List Nat := [0, 0, 3, 7, 15, 15, 15, 111, 255, 511, 1023, 2047, 2047, 8191, 16383, 2047, 2047, 100351, 231423, 524287, 1048575]
theorem bk.tab43 : rtab .any (opsOf Tryd.f6 43) = bk.T43 := by kernel_rfl
theorem bk.bits43 : waitsOk bk.T43.2 bk.B43 = true := by kernel_rfl
def bk.T46 : Bool × List (List Nat × List Nat) := (true, [([], []), ([], []), ([], []), ([1, 2], [1, 2]), ([], []), ([], []), ([], []), ([6], [6]), ([5, 7], [5, 7]), ([8], [8]), ([9], [9]), ([4, 10], [4, 10]), ([0, 3, 11, 3], [0, 3, 11])])
def bk.B46 : List Nat := [0, 0, 0, 6, 0, 0, 0, 64, 224, 480, 992, 2032, 4095]
theorem bk.tab46 : rtab .any (opsOf Tryd.f6 46) = bk.T46 := by kernel_rfl
theorem bk.bits46 : waitsOk bk.T46.2 bk.B46 = true := by kernel_rfl
def bk.T56 : Bool × List (List Nat × List Nat) := (true, [([], []), ([0], [0]), ([], []), ([2], [2]), ([], []), ([3, 4], [3, 4]), ([1, 5], [1, 5]), ([6, 1, 0, 1, 2, 3, 4, 5, 6], [6])])
def bk.B56 : List Nat := [0, 1, 0, 4, 0, 28, 63, 127]
theorem bk.tab56 : rtab .any (opsOf Tryd.f6 56) = bk.T56 := by kernel_rfl
theorem bk.bits56 : waitsOk bk.T56.2 bk.B56 = true := by kernel_rfl
theorem mod_k (x : Int) (m : Nat) (h : 1 ≤ m) (hm : m ≤ 1000) : ∃ k : Nat, k < m ∧ wrap64 (Int.tmod (IntKind.u64.wrap x) (m : Int)) = k := by
  refine ⟨posN m x, posN_lt m x h, ?_⟩
  rw [posN_is m x h]
  have := posN_lt m x h
  unfold wrap64
  omega
theorem St_of_R3 {w w' : World} {v : Value} {l : List Int} (h : Kd.R (Kd.int .i64) 3 w' w.heap.size (fun _ => True) v l) (hb : Below w.heap.size w w') : St w w' [row 3 1 v l.length (I64 l)] := by
  obtain ⟨_, inner, ho, hr⟩ := h
  have e : inner = I64 l := by
    have hr1 := hr.1
    refine List.ext_getElem? fun j => ?_
    by_cases hj : j < l.length
    · have h2 := hr.2 j l[j] (List.getElem?_eq_getElem hj)
      have h2 : (inner.drop (j * 1)).take 1 = [.int .i64 l[j]] := h2
      have h3 : ((inner.drop (j * 1)).take 1)[0]? = inner[j]? := by simp [List.getElem?_take, List.getElem?_drop]
      rw [← h3, h2]
      simp [I64, hj]
    · have h3 : (Kd.int .i64).sz = 1 := rfl
      rw [h3] at hr1
      rw [List.getElem?_eq_none (by omega), List.getElem?_eq_none (by simp [I64]; omega)]
  subst e
  refine ⟨hb, fun k => v.ownBlock = some k, fun k hk => own_base ho k hk, fun k => v.ownBlock = some k, fun _ => False, fun k => by simp, fun _ _ h => h, ⟨fun k => Iff.rfl, .inl (own_weaken ho (Nat.zero_le _))⟩, fun k h => h⟩
theorem begins_w {c : Int} {bl : List Int} {w : World} (h : windrowref05_Begins.f 40 c = some bl) : Calls Tryd.prog 31 #[.int .i64 c] w fun e w' => ∃ V, e = .returned V ∧ St w w' [row 3 1 V bl.length (I64 bl)] := by
  refine (windrowref05_Begins.calls 40 c bl w h).mono ?_
  rintro e w' ⟨V, rfl, hR, hb⟩
  exact ⟨V, rfl, St_of_R3 hR hb⟩
theorem bk_a {P p : Nat} (hP : P < 5) (hp : p < P + 1) : wrap64 (64 * (p : Int)) = ((64 * p : Nat) : Int) := by unfold wrap64; push_cast; omega
theorem bk_d {P p j : Nat} (hP : P < 5) (hp : p < P + 1) (hj : j < 64) : wrap64 (wrap64 (64 + wrap64 (64 * (p : Int))) + (j : Int)) = ((64 + 64 * p + j : Nat) : Int) := by unfold wrap64; push_cast; omega
theorem bk_ok {P p j nn cl : Nat} (hP : P < 5) (hp : p < P + 1) (hj : j < 64) (hn : nn < 256) (hcl : cl < 8) (hc : cellI (cl : Int) (j : Int) = (j : Int)) (hs : (nn : Int) + 1 ≤ szI (cl : Int)) (h32 : nn + 1 ≤ 32) : BkOk P p (64 + 64 * p + j) j nn 1 cl 1 := ⟨hP, by omega, hj, rfl, by omega, .inl ⟨rfl, rfl, ⟨by omega, by omega⟩, hc, hs, h32⟩⟩
theorem begins_wn {c : Int} {bl : List Int} {bn : Nat} {w : World} (h : windrowref05_Begins.f 40 c = some bl) (hn : bl.length = bn) : Calls Tryd.prog 31 #[.int .i64 c] w fun e w' => ∃ V, e = .returned V ∧ St w w' [row 3 1 V bn (I64 bl)] := by subst hn; exact begins_w h
theorem law_back (pgs pg0 ce0 n0 : Int) (refs : Bool) (A : Option Addr) (cc : Nat) (L : List (Int × Int)) (w0 : World) (hL : ∀ i, i < L.length → ∃ ad, A = some ad ∧ w0.cell? (ad.add (i * 2)) = some (.int .i64 (L.getD i (0, 0)).1) ∧ w0.cell? ⟨(ad.add (i * 2)).block, (ad.add (i * 2)).off + 1, none⟩ = some (.int .u64 (L.getD i (0, 0)).2))
    (hLr : ∀ p ∈ L, 0 ≤ p.2 ∧ p.2 < 18446744073709551616) (hLc : L.length ≤ cc) (hT : Tab w0) :
    Calls Tryd.prog 6 #[.agg #[.int .i64 pgs, .int .i64 pg0, .int .i64 ce0, .int .i64 n0, .bool refs, .slice A L.length cc]] w0 fun e w' => e = .returned (.bool true) ∧ Below w0.heap.size w0 w' := by
  obtain ⟨b, hb, em⟩ := mod_k pgs 2 (by decide) (by decide)
  obtain ⟨P, hP⟩ : ∃ P, P = 3 + b := ⟨_, rfl⟩
  have hP5 : P < 5 := by omega
  have eP : wrap64 (4 + (b : Int)) = (P : Int) + 1 := by unfold wrap64; omega
  obtain ⟨nn, hnn, en⟩ := mod_k n0 256 (by decide) (by decide)
  obtain ⟨p1, hp1, ep⟩ := mod_k pg0 (P + 1) (by omega) (by omega)
  rw [show ((2 : Nat) : Int) = 2 from rfl] at em
  rw [show ((256 : Nat) : Int) = 256 from rfl] at en
  have ep' : wrap64 (Int.tmod (IntKind.u64.wrap pg0) ((P : Int) + 1)) = p1 := by rw [← ep]; push_cast; rfl
  have HPp := Aside.mk hP5
  have HNN := Aside.mk hnn
  have HP1 := Aside.mk hp1
  have EP := Aside.mk ep'
  have HP3 : Aside (3 ≤ P) := ⟨by omega⟩
  have P2 : Aside (windrowref06_Draw.f 1000 ((P : Int) + 1) 1 1 = some ((P : Int) + 1, 1, 1, 64, 22, 128 + 64 * (P : Int))) := ⟨pl_draw ⟨P, hP5⟩⟩
  have P3 := Aside.mk (rpages2_ 10 (Nat.le_refl _) ((nn : Int) + 1) (by omega) (by omega))
  have E3 : Aside (IntKind.u64.wrap ((P : Int) + 1) = (P : Int) + 1) := ⟨by rw [wu _ (by omega) (by omega)]⟩
  have E4 : Aside (((P : Int) + 1 == 0) = false) := ⟨by simp; omega⟩
  have E5 : Aside (wrap64 ((nn : Int) + 1) = (nn : Int) + 1) := ⟨by unfold wrap64; omega⟩
  obtain ⟨cnt, hcnt⟩ : ∃ cnt, pgI ((nn : Int) + 1) = cnt := ⟨_, rfl⟩
  rw [hcnt] at P3
  have HCN := Aside.mk hcnt
  have HTS : Aside (∀ (w : World) (L : List HP), St w0 w L → Tab w) := ⟨fun _ _ hh => hT.st hh⟩
  have H : Aside (St w0 _ [blk w0.heap.size #[.int .i64 pgs, .int .i64 pg0, .int .i64 ce0, .int .i64 n0, .bool refs, .slice A L.length cc] 72]) := Aside.mk ((St.start w0).alloc #[.int .i64 pgs, .int .i64 pg0, .int .i64 ce0, .int .i64 n0, .bool refs, .slice A L.length cc] 72)
  have HL := Aside.mk hL
  have HLR := Aside.mk hLr
  have HLC := Aside.mk hLc
  have HT0 := Aside.mk hT
  clear hb hP hP5 hnn hp1 ep ep' hT hcnt hL hLr hLc
  go_enter Tryd.func6, Tryd.ntmps6
  go_wp2_with fail
  replace H := Aside.mk H.out.drew
  refine start_ (n := 18) (S := fun w' => w'.cell? ⟨w0.heap.size, 0, none⟩ = some (.int .i64 pgs) ∧ w'.cell? ⟨w0.heap.size, 1, none⟩ = some (.int .i64 pg0) ∧ w'.cell? ⟨w0.heap.size, 2, none⟩ = some (.int .i64 ce0) ∧ w'.cell? ⟨w0.heap.size, 3, none⟩ = some (.int .i64 n0) ∧ w'.cell? ⟨w0.heap.size, 4, none⟩ = some (.bool refs) ∧ w'.cell? ⟨w0.heap.size, 5, none⟩ = some (.slice A L.length cc)) (ds := []) (flg 18 0) (by kernel_rfl) rfl rfl (⟨H.out.cell 0, H.out.cell 1, H.out.cell 2, H.out.cell 3, H.out.cell 4, H.out.cell 5⟩) (fun hHeld => ?_)
  refine with_tabW bk.tab1 bk.bits1 (fun HT_ HW_ => ?_)
  refine pu_ (v := ?_) (a' := ?_) 0 (some 39) 1 rfl rfl HT_ (by kernel_rfl) (.inl ⟨by rfl, ?_⟩) ?_ ?_; rotate_left 2; (· intro w'; go_simp; with_reducible rfl); (· simp only [nrm]; rfl)
  refine tk_ (v := ?_) (a' := ?_) 1 (some 40) 3 rfl rfl HT_ HW_ (by kernel_rfl) (.inl ⟨by rfl, ?_⟩) hHeld ?_ ?_; rotate_left 2; (· rintro w' ⟨_, _, _, _, _, _⟩; go_simp; with_reducible rfl); (· simp only [nrm]; rfl)
  refine pu_ (v := ?_) (a' := ?_) 2 (some 41) 7 rfl rfl HT_ (by kernel_rfl) (.inl ⟨by rfl, ?_⟩) ?_ ?_; rotate_left 2; (· intro w'; go_simp; with_reducible rfl); (· simp only [nrm]; rfl)
  refine tk_ (v := ?_) (a' := ?_) 3 (some 42) 15 rfl rfl HT_ HW_ (by kernel_rfl) (.inl ⟨by rfl, ?_⟩) hHeld ?_ ?_; rotate_left 2; (· rintro w' ⟨_, _, _, _, _, _⟩; go_simp; with_reducible rfl); (· simp only [nrm]; rfl)
  refine pu_ (v := ?_) (a' := ?_) 4 (some 43) 31 rfl rfl HT_ (by kernel_rfl) (.inl ⟨by rfl, ?_⟩) ?_ ?_; rotate_left 2; (· intro w'; go_simp; with_reducible rfl); (· simp only [nrm]; rfl)
  refine tk_ (v := ?_) (a' := ?_) 5 (some 44) 63 rfl rfl HT_ HW_ (by kernel_rfl) (.inl ⟨by rfl, ?_⟩) hHeld ?_ ?_; rotate_left 2; (· rintro w' ⟨_, _, _, _, _, _⟩; go_simp; with_reducible rfl); (· simp only [nrm]; rfl)
  refine pu_ (v := ?_) (a' := ?_) 6 (some 45) 127 rfl rfl HT_ (by kernel_rfl) (.inl ⟨by rfl, ?_⟩) ?_ ?_; rotate_left 2; (· intro w'; go_simp; with_reducible rfl); (· simp only [nrm]; rfl)
  refine tk_ (v := ?_) (a' := ?_) 7 (some 46) 255 rfl rfl HT_ HW_ (by kernel_rfl) (.inl ⟨by rfl, ?_⟩) hHeld ?_ ?_; rotate_left 2; (· rintro w' ⟨_, _, _, _, _, _⟩; go_simp; with_reducible rfl); (· simp only [nrm]; rfl)
  refine pu_ (v := ?_) (a' := ?_) 8 (some 47) 511 rfl rfl HT_ (by kernel_rfl) (.inl ⟨by rfl, ?_⟩) ?_ ?_; rotate_left 2; (· intro w'; go_simp; with_reducible rfl); (· simp only [nrm]; rfl)
  refine tk_ (v := ?_) (a' := ?_) 9 (some 48) 1023 rfl rfl HT_ HW_ (by kernel_rfl) (.inl ⟨by rfl, ?_⟩) hHeld ?_ ?_; rotate_left 2; (· rintro w' ⟨_, _, _, _, _, _⟩; go_simp; with_reducible rfl); (· simp only [nrm]; rfl)
  refine pu_ (v := ?_) (a' := ?_) 10 (some 49) 2047 rfl rfl HT_ (by kernel_rfl) (.inl ⟨by rfl, ?_⟩) ?_ ?_; rotate_left 2; (· intro w'; go_simp; with_reducible rfl); (· simp only [nrm]; rfl)
  refine tk_ (v := ?_) (a' := ?_) 11 (some 50) 4095 rfl rfl HT_ HW_ (by kernel_rfl) (.inl ⟨by rfl, ?_⟩) hHeld ?_ ?_; rotate_left 2; (· rintro w' ⟨_, _, _, _, _, _⟩; go_simp; with_reducible rfl); (· simp only [nrm]; rfl)
  refine pu_ (v := ?_) (a' := ?_) 12 (some 3) 8191 rfl rfl HT_ (by kernel_rfl) (.inl ⟨by rfl, ?_⟩) ?_ ?_; rotate_left 2; (· intro w'; go_simp; with_reducible rfl); (· simp only [nrm]; rfl)
  refine pu_ (v := ?_) (a' := ?_) 13 (some 4) 16383 rfl rfl HT_ (by kernel_rfl) (.inl ⟨by rfl, ?_⟩) ?_ ?_; rotate_left 2; (· intro w'; go_simp; with_reducible rfl); (· simp only [nrm]; rfl)
  refine pu_ (v := ?_) (a' := ?_) 14 (some 5) 32767 rfl rfl HT_ (by kernel_rfl) (.inl ⟨by rfl, ?_⟩) ?_ ?_; rotate_left 2; (· intro w'; go_simp; with_reducible rfl); (· simp only [nrm]; rfl)
  refine pu_ (v := ?_) (a' := ?_) 15 (some 6) 65535 rfl rfl HT_ (by kernel_rfl) (.inl ⟨by rfl, ?_⟩) ?_ ?_; rotate_left 2; (· intro w'; go_simp; with_reducible rfl); (· simp only [nrm]; rfl)
  refine pu_ (v := ?_) (a' := ?_) 16 (some 7) 131071 rfl rfl HT_ (by kernel_rfl) (.inl ⟨by rfl, ?_⟩) ?_ ?_; rotate_left 2; (· intro w'; go_simp; with_reducible rfl); (· simp only [nrm]; rfl)
  refine pu_ (v := ?_) (a' := ?_) 17 (some 8) 262143 rfl rfl HT_ (by kernel_rfl) (.inl ⟨by rfl, ?_⟩) ?_ ?_; rotate_left 2; (· intro w'; go_simp; with_reducible rfl); (· simp only [nrm]; rfl)
  refine done_ (done_of HT_.out (by kernel_rfl)) ?_
  clear HT_ HW_ hHeld
  go_wp2_with (first
    | (go_at_call 11; refine (built_ (HTS.out _ _ H.out)).mono ?_; rintro e w3 ⟨rfl, hb⟩; replace H := Aside.mk (H.out.step hb); clear hb)
    | (with_reducible refine stop_at (.store 25 (.tmp 9) (.tmp 58)) rfl ?_))
  try simp only [em, eP]
  clear eP em
  replace H := Aside.mk (H.out.alloc #[.int .i64 0, .int .i64 0, .int .i64 0] 25)
  generalize w3.heap.size = g1 at H ⊢
  refine ⟨?_⟩
  refine st_store rfl rfl rfl [.int .i64 ((P : Int) + 1), .int .i64 1, .int .i64 1] #[.int .i64 ((P : Int) + 1), .int .i64 1, .int .i64 1] rfl rfl rfl (Nat.le_of_ble_eq_true rfl) (by simp [Value.oneCell']) H.out rfl ?_
  intro w4 h_
  replace H : Aside (St w0 w4 [blk g1 #[.int .i64 ((P : Int) + 1), .int .i64 1, .int .i64 1] 25, blk w0.heap.size #[.int .i64 pgs, .int .i64 pg0, .int .i64 ce0, .int .i64 n0, .bool refs, .slice A L.length cc] 72]) := Aside.mk h_
  clear h_
  go_wp2_with (with_reducible refine stop_at (.store 73 (.tmp 10) (.tmp 64)) rfl ?_)
  try simp only [en]
  clear en
  replace H := Aside.mk (H.out.alloc #[.int .i64 0, .int .i64 0, .int .i64 0] 73)
  generalize w4.heap.size = hb at H ⊢
  refine ⟨?_⟩
  refine st_store rfl rfl rfl [.int .i64 0, .int .i64 2, .int .i64 nn] #[.int .i64 0, .int .i64 2, .int .i64 nn] rfl rfl rfl (Nat.le_of_ble_eq_true rfl) (by simp [Value.oneCell']) H.out rfl ?_
  intro w5 h_
  replace H : Aside (St w0 w5 [blk hb #[.int .i64 0, .int .i64 2, .int .i64 nn] 73, blk g1 #[.int .i64 ((P : Int) + 1), .int .i64 1, .int .i64 1] 25, blk w0.heap.size #[.int .i64 pgs, .int .i64 pg0, .int .i64 ce0, .int .i64 n0, .bool refs, .slice A L.length cc] 72]) := Aside.mk h_
  clear h_
  go_upto_if 65 with fail
  go_cut [] (fun wc => ∃ kd : Int, Aside (kd = 2 ∨ kd = 3) ∧ Aside (St w0 wc [blk hb #[.int .i64 0, .int .i64 kd, .int .i64 nn] 73, blk g1 #[.int .i64 ((P : Int) + 1), .int .i64 1, .int .i64 1] 25, blk w0.heap.size #[.int .i64 pgs, .int .i64 pg0, .int .i64 ce0, .int .i64 n0, .bool refs, .slice A L.length cc] 72]))
  case first =>
    have z1 := H.out.cell 1
    have f1 := H.out.frozen 1
    cases refs
    · go_wp2
      go_meet
      case rel => exact ⟨2, ⟨.inl rfl⟩, H⟩
    · go_wp2
      go_meet
      case rel => exact ⟨3, ⟨.inr rfl⟩, ⟨H.out.put 1 (.int .i64 3) rfl⟩⟩
  case rest =>
  clear H
  obtain ⟨kd, HKD, H⟩ := hcut
  have q0 := (H.out.pick 1 rfl).cell 0; have q1 := (H.out.pick 1 rfl).cell 1; have q2 := (H.out.pick 1 rfl).cell 2
  go_wp2_with (first
    | (go_at_call 12; refine (windrowref06_Draw.calls _ _ _ _ _ _ _ _ _ _ _ P2.out).mono ?_; rintro e w6 ⟨rfl, hb⟩; replace H := Aside.mk (H.out.step hb); clear hb q0 q1 q2)
    | (with_reducible refine stop_at (.store 27 (.tmp 11) (.tmp 68)) rfl ?_))
  replace H := Aside.mk (H.out.alloc #[.int .i64 0, .int .i64 0, .int .i64 0, .int .i64 0, .int .i64 0, .int .i64 0] 27)
  generalize w6.heap.size = dm at H ⊢
  refine ⟨?_⟩
  refine st_store rfl rfl rfl [.int .i64 ((P : Int) + 1), .int .i64 1, .int .i64 1, .int .i64 64, .int .i64 22, .int .i64 (128 + 64 * (P : Int))] #[.int .i64 ((P : Int) + 1), .int .i64 1, .int .i64 1, .int .i64 64, .int .i64 22, .int .i64 (128 + 64 * (P : Int))] rfl rfl rfl (Nat.le_of_ble_eq_true rfl) (by simp [Value.oneCell']) H.out rfl ?_
  intro w7 h_
  replace H : Aside (St w0 w7 [blk dm #[.int .i64 ((P : Int) + 1), .int .i64 1, .int .i64 1, .int .i64 64, .int .i64 22, .int .i64 (128 + 64 * (P : Int))] 27, blk hb #[.int .i64 0, .int .i64 kd, .int .i64 nn] 73, blk g1 #[.int .i64 ((P : Int) + 1), .int .i64 1, .int .i64 1] 25, blk w0.heap.size #[.int .i64 pgs, .int .i64 pg0, .int .i64 ce0, .int .i64 n0, .bool refs, .slice A L.length cc] 72]) := Aside.mk h_
  clear h_
  go_wp2_with (with_reducible refine stop_at (.store 75 (.tmp 12) (.tmp 69)) rfl ?_)
  replace H := Aside.mk (H.out.alloc #[.int .i64 0, .int .i64 0, .int .i64 0, .int .i64 0, .int .i64 0] 75)
  generalize w7.heap.size = eb at H ⊢
  refine ⟨?_⟩
  refine st_store rfl rfl rfl [.int .i64 0, .int .i64 0, .int .i64 0, .int .i64 0, .int .i64 0] #[.int .i64 0, .int .i64 0, .int .i64 0, .int .i64 0, .int .i64 0] rfl rfl rfl (Nat.le_of_ble_eq_true rfl) (by simp [Value.oneCell']) H.out rfl ?_
  intro w8 h_
  replace H : Aside (St w0 w8 [blk eb #[.int .i64 0, .int .i64 0, .int .i64 0, .int .i64 0, .int .i64 0] 75, blk dm #[.int .i64 ((P : Int) + 1), .int .i64 1, .int .i64 1, .int .i64 64, .int .i64 22, .int .i64 (128 + 64 * (P : Int))] 27, blk hb #[.int .i64 0, .int .i64 kd, .int .i64 nn] 73, blk g1 #[.int .i64 ((P : Int) + 1), .int .i64 1, .int .i64 1] 25, blk w0.heap.size #[.int .i64 pgs, .int .i64 pg0, .int .i64 ce0, .int .i64 n0, .bool refs, .slice A L.length cc] 72]) := Aside.mk h_
  clear h_
  have q0 := (H.out.pick 3 rfl).cell 0
  have e5 := E5.out
  have e3 := E3.out
  have e4 := E4.out
  have ep := EP.out
  go_upto_if 84 with (go_at_call 29; refine (windrowref05_Pages.calls _ _ _ _ _ P3.out).mono ?_; rintro e w9 ⟨rfl, nd, rfl⟩; replace H := Aside.mk (H.out.drewN nd); clear q0; have q0 := (H.out.pick 3 rfl).cell 0)
  simp only [ep]
  clear ep e3 e4
  have hcn := HCN.out
  go_cut [4, 13] (fun v4 v13 wc => ∃ (pg aN j : Nat) (ek ec es : Int), v4 = .int .i64 pg ∧ v13 = .int .i64 aN ∧ Aside (BkOk P pg aN j nn ek ec es) ∧ Aside (St w0 wc [blk eb #[.int .i64 ek, .int .i64 ec, .int .i64 es, .int .i64 0, .int .i64 0] 75, blk dm #[.int .i64 ((P : Int) + 1), .int .i64 1, .int .i64 1, .int .i64 64, .int .i64 22, .int .i64 (128 + 64 * (P : Int))] 27, blk hb #[.int .i64 0, .int .i64 kd, .int .i64 nn] 73, blk g1 #[.int .i64 ((P : Int) + 1), .int .i64 1, .int .i64 1] 25, blk w0.heap.size #[.int .i64 pgs, .int .i64 pg0, .int .i64 ce0, .int .i64 n0, .bool refs, .slice A L.length cc] 72]))
  case first =>
    as_aux_lemma =>
      by_cases hc : 0 < cnt
      · have dc : decide (0 < cnt) = true := by simp; exact hc
        have h33 : 33 ≤ nn + 1 := by unfold pgI at hcn; split at hcn <;> omega
        have hc4 : 1 ≤ cnt ∧ cnt ≤ 4 := by have := HNN.out; unfold pgI at hcn; rw [if_neg (by omega)] at hcn; omega
        obtain ⟨m, hm⟩ : ∃ m : Nat, (m : Int) = (P : Int) + 1 - cnt + 1 := ⟨((P : Int) + 1 - cnt + 1).toNat, by have := HP3.out; omega⟩
        have hm1 : 1 ≤ m := by have := HP3.out; omega
        have e6 : wrap64 ((P : Int) + 1 - cnt) = (P : Int) + 1 - cnt := by have := HPp.out; unfold wrap64; omega
        have e7 : wrap64 ((P : Int) + 1 - cnt + 1) = (m : Int) := by have := HPp.out; unfold wrap64; omega
        have e8 : ((m : Int) == 0) = false := by simp; omega
        obtain ⟨pg, hpg, ht⟩ : ∃ pg : Nat, pg < m ∧ Int.tmod (p1 : Int) (m : Int) = (pg : Int) := ⟨p1 % m, Nat.mod_lt _ (by omega), by rw [Int.tmod_eq_emod_of_nonneg (by omega)]; omega⟩
        have e9 : wrap64 (64 * (pg : Int)) = ((64 * pg : Nat) : Int) := by have := HPp.out; unfold wrap64; push_cast; omega
        have e10 : wrap64 (64 + ((64 * pg : Nat) : Int)) = ((64 + 64 * pg : Nat) : Int) := by have := HPp.out; unfold wrap64; push_cast; omega
        have HV : Aside (wrap64 (64 + 64 * (pg : Int)) = ((64 + 64 * pg : Nat) : Int)) := ⟨by have := HPp.out; unfold wrap64; push_cast; omega⟩
        have HOK : Aside (BkOk P pg (64 + 64 * pg) 0 nn 2 cnt 0) := ⟨⟨HPp.out, by omega, by decide, by omega, by have := HNN.out; omega, .inr ⟨rfl, rfl, rfl, hcn.symm, h33, by omega⟩⟩⟩
        clear hm hm1 hpg h33 hc4 hcn
        have e8u : (wrap64 (wrap64 ((P : Int) + 1 - cnt) + 1) == 0) = false := by rw [e6, e7]; exact e8
        have ht' : (p1 : Int) % (m : Int) = (pg : Int) := by rw [← ht, Int.tmod_eq_emod_of_nonneg (by omega)]
        have E6 := Aside.mk e6
        have E7 := Aside.mk e7
        have hz : ¬ (wrap64 (wrap64 ((P : Int) + 1 - cnt) + 1) = 0) := by rw [e6, e7]; intro hh; rw [hh] at e8; exact absurd e8 (by decide)
        have HT := Aside.mk ht
        have HT' := Aside.mk ht'
        have E9 := Aside.mk e9
        have E10 := Aside.mk e10
        clear e6 e7 e8 ht ht' e9 e10
        go_wp2_with (with_reducible refine stop_at (.store 75 (.tmp 12) (.tmp 93)) rfl ?_)
        refine ⟨?_⟩
        refine st_store rfl rfl rfl [.int .i64 2, .int .i64 cnt, .int .i64 0, .int .i64 0, .int .i64 0] #[.int .i64 2, .int .i64 cnt, .int .i64 0, .int .i64 0, .int .i64 0] rfl rfl rfl (Nat.le_of_ble_eq_true rfl) (by simp [Value.oneCell']) H.out rfl ?_
        intro w10 h_
        have m1 := (h_.pick 1 rfl).cell 3
        simp only [E6.out, E7.out, HT'.out]
        have e9 := E9.out
        go_wp2
        go_meet
        case rel => exact ⟨pg, 64 + 64 * pg, 0, 2, cnt, 0, rfl, congrArg (Value.int .i64) HV.out, HOK, ⟨h_⟩⟩
      · have dc : decide (0 < cnt) = false := by simp; omega
        have h32 : nn + 1 ≤ 32 := by unfold pgI at hcn; split at hcn <;> omega
        have PC : Aside (windrowref05_Class.f 12 ((nn : Int) + 1) = some ((clN (nn + 1) : Int), 0)) := ⟨cls_ ⟨nn, by omega⟩⟩
        have hcl := cls_le ⟨nn, by omega⟩
        simp only at hcl
        generalize clN (nn + 1) = cl at PC hcl
        have PB : Aside (windrowref05_Begins.f 40 (cl : Int) = some (begL cl)) := ⟨beg_ ⟨cl, hcl.1⟩⟩
        have hbl := beg_le ⟨cl, hcl.1⟩
        have hba := beg_at ⟨cl, hcl.1⟩
        simp only at hbl hba
        generalize begL cl = bl at PB hbl hba
        obtain ⟨ix, hix, ei⟩ := mod_k ce0 bl.length (by omega) (by omega)
        have hb9 := hba ⟨ix, by omega⟩ hix
        simp only at hb9
        obtain ⟨j, hj⟩ : ∃ j : Nat, bl.getD ix 0 = (j : Int) := ⟨(bl.getD ix 0).toNat, by omega⟩
        rw [hj] at hb9
        have hget : (I64 bl)[ix]? = some (.int .i64 (j : Int)) := by
          have : bl[ix]? = some (j : Int) := by rw [← hj, List.getD_eq_getElem?_getD]; simp [hix]
          simp [I64, this]
        have e6 : IntKind.u64.wrap (bl.length : Int) = (bl.length : Int) := wu _ (by omega) (by omega)
        have e8 : ((bl.length : Int) == 0) = false := by rw [beq_eq_false_iff_ne]; omega
        have hz : ¬ ((bl.length : Int) = 0) := by omega
        have hz2 : ¬ (bl.length = 0) := by omega
        have nx : (ix : Int) < (bl.length : Int) := by omega
        have dx : decide ((ix : Int) < (bl.length : Int)) = true := by simpa using nx
        have hx0 : (0 : Int) ≤ (ix : Int) := by omega
        have hp9 := HP1.out
        have hj64 : j < 64 := by exact_mod_cast hb9.2.1
        have E9 := Aside.mk (bk_a HPp.out HP1.out)
        have E11 := Aside.mk (bk_d HPp.out HP1.out hj64)
        have HOK : Aside (BkOk P p1 (64 + 64 * p1 + j) j nn 1 cl 1) := ⟨bk_ok HPp.out HP1.out hj64 HNN.out hcl.1 hb9.2.2 hcl.2 h32⟩
        have HB0 : Aside (0 < bl.length) := ⟨hbl.1⟩
        have HGT := Aside.mk hget
        clear hb9 hj hba hbl hcl hget h32 hcn hp9 hix hj64
        obtain ⟨bn, hbn⟩ : ∃ bn, bl.length = bn := ⟨_, rfl⟩
        rw [hbn] at ei e6 e8 hz hz2 nx dx HB0
        have HBN := Aside.mk hbn
        clear hbn
        go_wp2_with (first
          | (go_at_call 30; refine (windrowref05_Class.calls _ _ _ _ _ PC.out).mono ?_; rintro e w11 ⟨rfl, hb⟩; replace H := Aside.mk (H.out.step hb); clear hb)
          | (go_at_call 31; refine (begins_wn PB.out HBN.out).mono ?_; rintro e w12 ⟨V, rfl, h9⟩; replace H := Aside.mk (H.out.join h9); clear h9)
          | (with_reducible refine stop_at (.store 75 (.tmp 12) (.tmp 108)) rfl ?_))
        refine ⟨?_⟩
        refine st_store rfl rfl rfl [.int .i64 1, .int .i64 cl, .int .i64 1, .int .i64 0, .int .i64 0] #[.int .i64 1, .int .i64 cl, .int .i64 1, .int .i64 0, .int .i64 0] rfl rfl rfl (Nat.le_of_ble_eq_true rfl) (by simp [Value.oneCell']) (H.out.pick 1 rfl) rfl ?_
        intro w10 h_
        replace H : Aside (St w0 w10 (blk eb #[.int .i64 1, .int .i64 cl, .int .i64 1, .int .i64 0, .int .i64 0] 75 :: row 3 1 V bn (I64 bl) :: [blk dm #[.int .i64 ((P : Int) + 1), .int .i64 1, .int .i64 1, .int .i64 64, .int .i64 22, .int .i64 (128 + 64 * (P : Int))] 27, blk hb #[.int .i64 0, .int .i64 kd, .int .i64 nn] 73, blk g1 #[.int .i64 ((P : Int) + 1), .int .i64 1, .int .i64 1] 25, blk w0.heap.size #[.int .i64 pgs, .int .i64 pg0, .int .i64 ce0, .int .i64 n0, .bool refs, .slice A L.length cc] 72])) := Aside.mk h_
        clear h_
        obtain ⟨gB, cB, rfl, hcB, hcellB⟩ := (H.out.pick 1 rfl).row_some HB0.out
        replace hcellB := hcellB ix _ HGT.out
        have m1 := (H.out.pick 2 rfl).cell 3
        have HS20 : Aside (w10.cell? ⟨dm, 3, none⟩ = some (.int .i64 64) ∧ w10.cell? ⟨gB, ix, none⟩ = some (.int .i64 (j : Int))) := ⟨m1, hcellB⟩
        clear m1 hcellB
        go_wp2_with fail
        replace H := Aside.mk H.out.drew
        refine start_ (n := 17) (S := fun w' => w'.cell? ⟨dm, 3, none⟩ = some (.int .i64 64) ∧ w'.cell? ⟨gB, ix, none⟩ = some (.int .i64 (j : Int))) (ds := []) (flg 17 0) (by kernel_rfl) rfl rfl (HS20.out) (fun hHeld => ?_)
        refine with_tabW bk.tab20 bk.bits20 (fun HT_ HW_ => ?_)
        refine pu_ (v := ?_) (a' := ?_) 0 (some 109) 1 rfl rfl HT_ (by kernel_rfl) (.inl ⟨by rfl, ?_⟩) ?_ ?_; rotate_left 2; (· intro w'; go_simp; with_reducible rfl); (· simp only [nrm]; rfl)
        refine tk_ (v := ?_) (a' := ?_) 1 (some 110) 3 rfl rfl HT_ HW_ (by kernel_rfl) (.inl ⟨by rfl, ?_⟩) hHeld ?_ ?_; rotate_left 2; (· rintro w' ⟨_, _⟩; go_simp; with_reducible rfl); (· simp only [nrm]; rfl)
        refine pu_ (v := ?_) (a' := ?_) 2 (some 111) 7 rfl rfl HT_ (by kernel_rfl) (.inl ⟨by rfl, ?_⟩) ?_ ?_; rotate_left 2; (· intro w'; go_simp; with_reducible rfl); (· simp only [nrm]; rfl)
        refine pu_ (v := ?_) (a' := ?_) 3 (some 112) 15 rfl rfl HT_ (by kernel_rfl) (.inl ⟨by rfl, ?_⟩) ?_ ?_; rotate_left 2; (· intro w'; go_simp; with_reducible rfl); (· simp only [nrm]; rfl)
        refine pu_ (v := ?_) (a' := ?_) 4 (some 113) 31 rfl rfl HT_ (by kernel_rfl) (.inl ⟨by rfl, ?_⟩) ?_ ?_; rotate_left 2; (· intro w'; go_simp; with_reducible rfl); (· simp only [nrm]; rfl)
        refine pu_ (v := ?_) (a' := ?_) 5 (some 114) 63 rfl rfl HT_ (by kernel_rfl) (.inl ⟨by rfl, ?_⟩) ?_ ?_; rotate_left 2; (· intro w'; go_simp; with_reducible rfl); (· simp only [nrm]; rfl)
        refine pu_ (v := ?_) (a' := ?_) 6 (some 115) 127 rfl rfl HT_ (by kernel_rfl) (.inl ⟨by rfl, ?_⟩) ?_ ?_; rotate_left 2; (· intro w'; go_simp; with_reducible rfl); (· simp only [nrm]; rfl)
        refine pu_ (v := ?_) (a' := ?_) 7 (some 116) 255 rfl rfl HT_ (by kernel_rfl) (.inl ⟨by rfl, ?_⟩) ?_ ?_; rotate_left 2; (· intro w'; go_simp; with_reducible rfl); (· simp only [nrm]; rfl)
        refine pu_ (v := ?_) (a' := ?_) 8 (some 117) 511 rfl rfl HT_ (by kernel_rfl) (.inl ⟨by rfl, ?_⟩) ?_ ?_; rotate_left 2; (· intro w'; go_simp; with_reducible rfl); (· simp only [nrm]; rfl)
        refine pu_ (v := ?_) (a' := ?_) 9 (some 118) 1023 rfl rfl HT_ (by kernel_rfl) (.inl ⟨by rfl, ?_⟩) ?_ ?_; rotate_left 2; (· intro w'; go_simp; with_reducible rfl); (· simp only [nrm]; rfl)
        refine pu_ (v := ?_) (a' := ?_) 10 (some 119) 2047 rfl rfl HT_ (by kernel_rfl) (.inl ⟨by rfl, ?_⟩) ?_ ?_; rotate_left 2; (· intro w'; go_simp; with_reducible rfl); (· simp only [nrm]; rfl)
        refine pu_ (v := ?_) (a' := ?_) 11 (some 120) 4095 rfl rfl HT_ (by kernel_rfl) (.inl ⟨by rfl, ?_⟩) ?_ ?_; rotate_left 2; (· intro w'; go_simp; with_reducible rfl); (· simp only [nrm]; rfl)
        refine pu_ (v := ?_) (a' := ?_) 12 (some 121) 8191 rfl rfl HT_ (by kernel_rfl) (.inl ⟨by rfl, ?_⟩) ?_ ?_; rotate_left 2; (· intro w'; go_simp; with_reducible rfl); (· simp only [nrm]; rfl)
        refine pu_ (v := ?_) (a' := ?_) 13 (some 122) 16383 rfl rfl HT_ (by kernel_rfl) (.inl ⟨by rfl, ?_⟩) ?_ ?_; rotate_left 2; (· intro w'; go_simp; with_reducible rfl); (· simp only [nrm]; rfl)
        refine tk_ (v := ?_) (a' := ?_) 14 (some 123) 32767 rfl rfl HT_ HW_ (by kernel_rfl) (.inl ⟨by rfl, ?_⟩) hHeld ?_ ?_; rotate_left 2; (· rintro w' ⟨_, _⟩; go_simp; with_reducible rfl); (· simp only [nrm]; rfl)
        refine pu_ (v := ?_) (a' := ?_) 15 (some 124) 65535 rfl rfl HT_ (by kernel_rfl) (.inl ⟨by rfl, ?_⟩) ?_ ?_; rotate_left 2; (· intro w'; go_simp; with_reducible rfl); (· simp only [nrm]; rfl)
        refine pu_ (v := ?_) (a' := ?_) 16 (some 13) 131071 rfl rfl HT_ (by kernel_rfl) (.inl ⟨by rfl, ?_⟩) ?_ ?_; rotate_left 2; (· intro w'; go_simp; with_reducible rfl); (· simp only [nrm]; rfl)
        refine done_ (done_of HT_.out (by kernel_rfl)) ?_
        clear HT_ HW_ hHeld
        go_wp2
        go_meet
        case rel => exact ⟨p1, 64 + 64 * p1 + j, j, 1, cl, 1, rfl, congrArg (Value.int .i64) E11.out, HOK, ⟨((H.out.pick 1 rfl).rest)⟩⟩
  case rest =>
  clear H
  obtain ⟨pg, aN, j, ek, ec, es, rfl, rfl, HBK, H⟩ := hcut
  obtain ⟨wE, hwE⟩ : ∃ wE, wordOf ek ec es 0 0 = wE := ⟨_, rfl⟩
  have HWE := Aside.mk hwE
  have HENC : Aside (windrowref02_EncodeEntry.f 3 ek ec es 0 0 = some (wE, 0)) := ⟨by rw [← hwE]; have := encR 0 ek ec es 0 0; rw [HBK.out.isE, if_pos rfl] at this; exact this⟩
  have HWR : Aside (0 ≤ wE ∧ wE < 18446744073709551616) := ⟨by rw [← hwE]; have := isE_le HBK.out.isE; unfold wordOf; omega⟩
  obtain ⟨nN, hnN⟩ : ∃ nN, nN = 128 + 64 * P := ⟨_, rfl⟩
  have HNN4 : Aside (nN = 128 + 64 * P) := ⟨hnN⟩
  have HPG : Aside (22 + pg < nN) := ⟨by have := HBK.out.hpg; omega⟩
  have HPE : Aside (windrowref06_Map_PageEntry.f ((P : Int) + 1) 1 1 64 22 (128 + 64 * (P : Int)) (pg : Int) = some (22 + (pg : Int))) := ⟨by unfold windrowref06_Map_PageEntry.f; have := HBK.out.hpg; have := HPp.out; congr 1; unfold wrap64; omega⟩
  obtain ⟨kk, hkk⟩ : ∃ kk, kk = min L.length 200 := ⟨_, rfl⟩
  have HKK : Aside (kk ≤ L.length ∧ kk ≤ 200) := ⟨by omega⟩
  have hmin : (if (200 : Int) < (L.length : Int) then (200 : Int) else (L.length : Int)) = (kk : Int) := by split <;> omega
  have HMIN := Aside.mk hmin
  have HBD : Aside (kk ≤ cc) := ⟨by have := HLC.out; omega⟩
  clear hmin
  clear hwE hnN hkk
  have y0 := H.out.cell 0
  have y1 := H.out.cell 1
  have y2 := H.out.cell 2
  have y3 := H.out.cell 3
  have y4 := H.out.cell 4
  go_wp2_with (go_at_call 32; refine (windrowref02_EncodeEntry.calls _ _ _ _ _ _ _ _ _ HENC.out).mono ?_; rintro e w11 ⟨rfl, hb⟩; replace H := Aside.mk (H.out.step hb); clear hb y0 y1 y2 y3 y4)
  replace H := Aside.mk H.out.drew
  refine start_ (n := 23) (S := fun w' => w'.cell? ⟨g1, 0, none⟩ = some (.int .i64 ((P : Int) + 1)) ∧ w'.cell? ⟨g1, 1, none⟩ = some (.int .i64 1) ∧ w'.cell? ⟨g1, 2, none⟩ = some (.int .i64 1) ∧ w'.cell? ⟨dm, 0, none⟩ = some (.int .i64 ((P : Int) + 1)) ∧ w'.cell? ⟨dm, 1, none⟩ = some (.int .i64 1) ∧ w'.cell? ⟨dm, 2, none⟩ = some (.int .i64 1) ∧ w'.cell? ⟨dm, 3, none⟩ = some (.int .i64 64) ∧ w'.cell? ⟨dm, 4, none⟩ = some (.int .i64 22) ∧ w'.cell? ⟨dm, 5, none⟩ = some (.int .i64 (128 + 64 * (P : Int)))) (ds := []) (flg 23 0) (by kernel_rfl) rfl rfl (⟨(H.out.pick 3 rfl).cell 0, (H.out.pick 3 rfl).cell 1, (H.out.pick 3 rfl).cell 2, (H.out.pick 1 rfl).cell 0, (H.out.pick 1 rfl).cell 1, (H.out.pick 1 rfl).cell 2, (H.out.pick 1 rfl).cell 3, (H.out.pick 1 rfl).cell 4, (H.out.pick 1 rfl).cell 5⟩) (fun hHeld => ?_)
  refine with_tabW bk.tab22 bk.bits22 (fun HT_ HW_ => ?_)
  generalize World.drew _ = w12 at H hHeld ⊢
  refine tk_ (v := ?_) (a' := ?_) 0 (some 131) 1 rfl rfl HT_ HW_ (by kernel_rfl) (.inl ⟨by rfl, ?_⟩) hHeld ?_ ?_; rotate_left 2; (· rintro w' ⟨_, _, _, _, _, _, _, _, _⟩; go_simp; with_reducible rfl); (· simp only [nrm]; rfl)
  refine pu_ (v := ?_) (a' := ?_) 2 (some 133) 5 rfl rfl HT_ (by kernel_rfl) (.inl ⟨by rfl, ?_⟩) ?_ ?_; rotate_left 2; (· intro w'; go_simp; with_reducible rfl); (· simp only [nrm]; rfl)
  refine pu_ (v := ?_) (a' := ?_) 3 (some 134) 13 rfl rfl HT_ (by kernel_rfl) (.inl ⟨by rfl, ?_⟩) ?_ ?_; rotate_left 2; (· intro w'; go_simp; with_reducible rfl); (· simp only [nrm]; rfl)
  refine pu_ (v := ?_) (a' := ?_) 4 (some 135) 29 rfl rfl HT_ (by kernel_rfl) (.inl ⟨by rfl, ?_⟩) ?_ ?_; rotate_left 2; (· intro w'; go_simp; with_reducible rfl); (· simp only [nrm]; rfl)
  refine pu_ (v := ?_) (a' := ?_) 5 (some 136) 61 rfl rfl HT_ (by kernel_rfl) (.inl ⟨by rfl, ?_⟩) ?_ ?_; rotate_left 2; (· intro w'; go_simp; simp only [HMIN.out]; with_reducible rfl); (· simp only [nrm]; rfl)
  refine pu_ (v := ?_) (a' := ?_) 6 (some 137) 125 rfl rfl HT_ (by kernel_rfl) (.inl ⟨by rfl, ?_⟩) ?_ ?_; rotate_left 2; (· intro w'; go_simp; simp only [if_pos HBD.out]; with_reducible rfl); (· simp only [nrm]; rfl)
  refine tk_ (v := ?_) (a' := ?_) 8 (some 139) 381 rfl rfl HT_ HW_ (by kernel_rfl) (.inl ⟨by rfl, ?_⟩) hHeld ?_ ?_; rotate_left 2; (· rintro w' ⟨_, _, _, _, _, _, _, _, _⟩; go_simp; with_reducible rfl); (· simp only [nrm]; rfl)
  refine pu_ (v := ?_) (a' := ?_) 9 (some 140) 893 rfl rfl HT_ (by kernel_rfl) (.inl ⟨by rfl, ?_⟩) ?_ ?_; rotate_left 2; (· intro w'; go_simp; with_reducible rfl); (· simp only [nrm]; rfl)
  refine pu_ (v := ?_) (a' := ?_) 11 (some 142) 2941 rfl rfl HT_ (by kernel_rfl) (.inl ⟨by rfl, ?_⟩) ?_ ?_; rotate_left 2; (· intro w'; go_simp; with_reducible rfl); (· simp only [nrm]; rfl)
  refine on_ 1 (some 132) 2943 rfl rfl HT_ (by kernel_rfl) (by decide) (fun K hK => ?_)
  refine value_ (w1 := ?_) (v := ?_) (by rfl) rfl ?_ ?_
  rotate_left 2
  · go_simp
    constructor
    · rfl
    · rfl
  replace H := Aside.mk (H.out.alloc #[] 34)
  generalize World.alloc w12 _ = w12' at H ⊢
  generalize w12.heap.size = gl at H ⊢
  replace H := Aside.mk (lit_row (size := 2) H.out)
  clear hHeld
  refine hK.out _ _ ⟨(H.out.pick 4 rfl).cell 0, (H.out.pick 4 rfl).cell 1, (H.out.pick 4 rfl).cell 2, (H.out.pick 2 rfl).cell 0, (H.out.pick 2 rfl).cell 1, (H.out.pick 2 rfl).cell 2, (H.out.pick 2 rfl).cell 3, (H.out.pick 2 rfl).cell 4, (H.out.pick 2 rfl).cell 5⟩ (fun hHeld => ?_)
  clear hK K
  refine norm_ (a' := ?_) ?_ ?_
  rotate_left
  · show Act.put _ (some 132) _ = _
    simp only [nrm]
    rfl
  refine on_ 7 (some 138) 3071 rfl rfl HT_ (by kernel_rfl) (by decide) (fun K hK => ?_)
  refine append_any_step rfl (.tmp 132) (.tmp 137) 35 34 (.agg #[.int .i64 0, .int .u64 0]) 2 16 rfl Tryd.underlying35 info34 rfl (by decide) (by decide) _ 0 [] rfl A kk cc (wds (L.take kk)) rfl (by have := HKK.out; rw [wds_len, List.length_take]; omega) (wds_at0 (HL.out) H.out.below) (by have := HKK.out; intro hA; subst hA; by_cases hk0 : kk = 0; exact hk0; obtain ⟨ad, e, _⟩ := HL.out 0 (by omega); cases e) (wds_one _) H.out (by have := HKK.out; omega) ?_
  intro A1 c1 w13 hc1 h9
  rw [List.nil_append] at h9
  simp only [Nat.zero_add] at h9 ⊢
  replace H : Aside (St w0 w13 (row 34 2 (.slice A1 kk c1) kk (wds (L.take kk)) :: [blk eb #[.int .i64 ek, .int .i64 ec, .int .i64 es, .int .i64 0, .int .i64 0] 75, blk dm #[.int .i64 ((P : Int) + 1), .int .i64 1, .int .i64 1, .int .i64 64, .int .i64 22, .int .i64 (128 + 64 * (P : Int))] 27, blk hb #[.int .i64 0, .int .i64 kd, .int .i64 nn] 73, blk g1 #[.int .i64 ((P : Int) + 1), .int .i64 1, .int .i64 1] 25, blk w0.heap.size #[.int .i64 pgs, .int .i64 pg0, .int .i64 ce0, .int .i64 n0, .bool refs, .slice A L.length cc] 72])) := Aside.mk h9
  clear h9 hc1
  clear hHeld
  refine hK.out _ _ ⟨(H.out.pick 4 rfl).cell 0, (H.out.pick 4 rfl).cell 1, (H.out.pick 4 rfl).cell 2, (H.out.pick 2 rfl).cell 0, (H.out.pick 2 rfl).cell 1, (H.out.pick 2 rfl).cell 2, (H.out.pick 2 rfl).cell 3, (H.out.pick 2 rfl).cell 4, (H.out.pick 2 rfl).cell 5⟩ (fun hHeld => ?_)
  clear hK K
  refine norm_ (a' := ?_) ?_ ?_
  rotate_left
  · show Act.put _ (some 138) _ = _
    simp only [nrm]
    rfl
  refine on_ 10 (some 141) 4095 rfl rfl HT_ (by kernel_rfl) (by decide) (fun K hK => ?_)
  refine goes_ Tryd.func33 (by kernel_rfl) rfl #[.agg #[.int .i64 ((P : Int) + 1), .int .i64 1, .int .i64 1, .int .i64 64, .int .i64 22, .int .i64 (128 + 64 * (P : Int))], .int .i64 pg] (by rfl) rfl rfl (by (try simp only [List.map_toArray, List.map_cons, List.map_nil]); first | done | rfl) ?_
  refine (windrowref06_Map_PageEntry.calls _ _ _ _ _ _ _ _ _ HPE.out).mono ?_
  rintro e w14 ⟨rfl, hb⟩
  replace H := Aside.mk (H.out.step hb)
  clear hb
  refine ⟨_, rfl, ?_⟩
  clear hHeld
  refine hK.out _ _ ⟨(H.out.pick 4 rfl).cell 0, (H.out.pick 4 rfl).cell 1, (H.out.pick 4 rfl).cell 2, (H.out.pick 2 rfl).cell 0, (H.out.pick 2 rfl).cell 1, (H.out.pick 2 rfl).cell 2, (H.out.pick 2 rfl).cell 3, (H.out.pick 2 rfl).cell 4, (H.out.pick 2 rfl).cell 5⟩ (fun hHeld => ?_)
  clear hK K
  refine norm_ (a' := ?_) ?_ ?_
  rotate_left
  · show Act.put _ (some 141) _ = _
    simp only [nrm]
    rfl
  refine pu_ (v := ?_) (a' := ?_) 12 (some 143) 8191 rfl rfl HT_ (by kernel_rfl) (.inl ⟨by rfl, ?_⟩) ?_ ?_; rotate_left 2; (· intro w'; go_simp; with_reducible rfl); (· simp only [nrm]; rfl)
  refine on_ 13 (some 144) 16383 rfl rfl HT_ (by kernel_rfl) (by decide) (fun K hK => ?_)
  refine value_ (w1 := ?_) (v := ?_) (by rfl) rfl ?_ ?_
  rotate_left 2
  · go_simp
    constructor
    · rfl
    · rfl
  replace H := Aside.mk (H.out.alloc #[.int .i64 (22 + (pg : Int)), .int .u64 wE] 34)
  generalize World.alloc w14 _ = w14' at H ⊢
  generalize w14.heap.size = gk at H ⊢
  clear hHeld
  refine hK.out _ _ ⟨(H.out.pick 5 rfl).cell 0, (H.out.pick 5 rfl).cell 1, (H.out.pick 5 rfl).cell 2, (H.out.pick 3 rfl).cell 0, (H.out.pick 3 rfl).cell 1, (H.out.pick 3 rfl).cell 2, (H.out.pick 3 rfl).cell 3, (H.out.pick 3 rfl).cell 4, (H.out.pick 3 rfl).cell 5⟩ (fun hHeld => ?_)
  clear hK K
  refine norm_ (a' := ?_) ?_ ?_
  rotate_left
  · show Act.put _ (some 144) _ = _
    simp only [nrm]
    rfl
  refine on_ 14 (some 145) 32767 rfl rfl HT_ (by kernel_rfl) (by decide) (fun K hK => ?_)
  refine append_run_step rfl (.tmp 138) (.tmp 144) 35 34 (.agg #[.int .i64 0, .int .u64 0]) 2 16 rfl Tryd.underlying35 info34 rfl (by decide) (by decide) (.slice A1 kk c1) kk (wds (L.take kk)) rfl ⟨gk, 0, none⟩ 1 1 [.int .i64 (22 + (pg : Int)), .int .u64 wE] rfl rfl (blk_cells H.out) (by simp [Value.oneCell']) (H.out.pick 1 rfl) (by have := HKK.out; omega) ?_
  intro A3 c3 w15 hc3 h9
  rw [wds_snoc] at h9
  replace H : Aside (St w0 w15 (row 34 2 (.slice A3 (kk + 1) c3) (kk + 1) (wds (L.take kk ++ [((22 + (pg : Int)), wE)])) :: [blk eb #[.int .i64 ek, .int .i64 ec, .int .i64 es, .int .i64 0, .int .i64 0] 75, blk dm #[.int .i64 ((P : Int) + 1), .int .i64 1, .int .i64 1, .int .i64 64, .int .i64 22, .int .i64 (128 + 64 * (P : Int))] 27, blk hb #[.int .i64 0, .int .i64 kd, .int .i64 nn] 73, blk g1 #[.int .i64 ((P : Int) + 1), .int .i64 1, .int .i64 1] 25, blk w0.heap.size #[.int .i64 pgs, .int .i64 pg0, .int .i64 ce0, .int .i64 n0, .bool refs, .slice A L.length cc] 72])) := Aside.mk (h9.pick 1 rfl).rest
  clear h9 hc3
  clear hHeld
  refine hK.out _ _ ⟨(H.out.pick 4 rfl).cell 0, (H.out.pick 4 rfl).cell 1, (H.out.pick 4 rfl).cell 2, (H.out.pick 2 rfl).cell 0, (H.out.pick 2 rfl).cell 1, (H.out.pick 2 rfl).cell 2, (H.out.pick 2 rfl).cell 3, (H.out.pick 2 rfl).cell 4, (H.out.pick 2 rfl).cell 5⟩ (fun hHeld => ?_)
  clear hK K
  refine norm_ (a' := ?_) ?_ ?_
  rotate_left
  · show Act.put _ (some 145) _ = _
    simp only [nrm]
    rfl
  refine on_ 15 (some 146) 65535 rfl rfl HT_ (by kernel_rfl) (by decide) (fun K hK => ?_)
  refine goes_ Tryd.func13 (by kernel_rfl) rfl #[.agg #[.int .i64 ((P : Int) + 1), .int .i64 1, .int .i64 1], .slice A3 (kk + 1) c3] (by rfl) rfl rfl (by (try simp only [List.map_toArray, List.map_cons, List.map_nil]); first | done | rfl) ?_
  refine (lay_m HPp.out HNN4.out (by have := HKK.out; rw [List.length_append, List.length_take, List.length_singleton]; omega) H.out).mono ?_
  rintro e w16 ⟨a, gC, gD, rfl, h9⟩
  replace H : Aside (St w0 w16 (arB a gC nN (.slice none 0 0) true 0 0 :: ceB gC (layS nN (min 300 (L.take kk ++ [((22 + (pg : Int)), wE)]).length) (L.take kk ++ [((22 + (pg : Int)), wE)])) :: [blk eb #[.int .i64 ek, .int .i64 ec, .int .i64 es, .int .i64 0, .int .i64 0] 75, blk dm #[.int .i64 ((P : Int) + 1), .int .i64 1, .int .i64 1, .int .i64 64, .int .i64 22, .int .i64 (128 + 64 * (P : Int))] 27, blk hb #[.int .i64 0, .int .i64 kd, .int .i64 nn] 73, blk g1 #[.int .i64 ((P : Int) + 1), .int .i64 1, .int .i64 1] 25, blk w0.heap.size #[.int .i64 pgs, .int .i64 pg0, .int .i64 ce0, .int .i64 n0, .bool refs, .slice A L.length cc] 72])) := Aside.mk h9
  clear h9
  refine ⟨_, rfl, ?_⟩
  clear hHeld
  refine hK.out _ _ ⟨(H.out.pick 5 rfl).cell 0, (H.out.pick 5 rfl).cell 1, (H.out.pick 5 rfl).cell 2, (H.out.pick 3 rfl).cell 0, (H.out.pick 3 rfl).cell 1, (H.out.pick 3 rfl).cell 2, (H.out.pick 3 rfl).cell 3, (H.out.pick 3 rfl).cell 4, (H.out.pick 3 rfl).cell 5⟩ (fun hHeld => ?_)
  clear hK K
  refine norm_ (a' := ?_) ?_ ?_
  rotate_left
  · show Act.put _ (some 146) _ = _
    simp only [nrm]
    rfl
  refine pu_ (v := ?_) (a' := ?_) 16 (some 130) 131071 rfl rfl HT_ (by kernel_rfl) (.inl ⟨by rfl, ?_⟩) ?_ ?_; rotate_left 2; (· intro w'; go_simp; with_reducible rfl); (· simp only [nrm]; rfl)
  refine pu_ (v := ?_) (a' := ?_) 17 (some 147) 262143 rfl rfl HT_ (by kernel_rfl) (.inl ⟨by rfl, ?_⟩) ?_ ?_; rotate_left 2; (· intro w'; go_simp; with_reducible rfl); (· simp only [nrm]; rfl)
  refine pu_ (v := ?_) (a' := ?_) 18 (some 148) 524287 rfl rfl HT_ (by kernel_rfl) (.inl ⟨by rfl, ?_⟩) ?_ ?_; rotate_left 2; (· intro w'; go_simp; with_reducible rfl); (· simp only [nrm]; rfl)
  refine pu_ (v := ?_) (a' := ?_) 19 (some 149) 1048575 rfl rfl HT_ (by kernel_rfl) (.inl ⟨by rfl, ?_⟩) ?_ ?_; rotate_left 2; (· intro w'; go_simp; with_reducible rfl); (· simp only [nrm]; rfl)
  refine pu_ (v := ?_) (a' := ?_) 20 (some 21) 2097151 rfl rfl HT_ (by kernel_rfl) (.inl ⟨by rfl, ?_⟩) ?_ ?_; rotate_left 2; (· intro w'; go_simp; with_reducible rfl); (· simp only [nrm]; rfl)
  refine pu_ (v := ?_) (a' := ?_) 21 (some 22) 4194303 rfl rfl HT_ (by kernel_rfl) (.inl ⟨by rfl, ?_⟩) ?_ ?_; rotate_left 2; (· intro w'; go_simp; with_reducible rfl); (· simp only [nrm]; rfl)
  refine pu_ (v := ?_) (a' := ?_) 22 (some 23) 8388607 rfl rfl HT_ (by kernel_rfl) (.inl ⟨by rfl, ?_⟩) ?_ ?_; rotate_left 2; (· intro w'; go_simp; with_reducible rfl); (· simp only [nrm]; rfl)
  refine done_ (done_of HT_.out (by kernel_rfl)) ?_
  clear HT_ HW_ hHeld
  have HM : Aside ((L.take kk ++ [(22 + (pg : Int), wE)]).length = kk + 1) := ⟨by have := HKK.out; rw [List.length_append, List.length_take, List.length_singleton]; omega⟩
  obtain ⟨X0, hX0⟩ : ∃ X0, X0 = layS nN (min 300 (L.take kk ++ [(22 + (pg : Int), wE)]).length) (L.take kk ++ [(22 + (pg : Int), wE)]) := ⟨_, rfl⟩
  have HXL : Aside (X0.length = nN) := ⟨by rw [hX0, layS_len]⟩
  have HXR : Aside (∀ i, 0 ≤ X0.getD i 0 ∧ X0.getD i 0 < 18446744073709551616) := ⟨by rw [hX0]; exact layS_rng (rng_snoc HLR.out HWR.out)⟩
  have HXE : Aside (X0.getD (22 + pg) 0 = wE) := ⟨by rw [hX0]; have e := layS_last (N := nN) (L := L.take kk) (v := wE) (a := 22 + pg) (by have := HKK.out; rw [List.length_take]; omega) HPG.out (by have := HNN4.out; have := HPp.out; omega); rw [show (22 + (pg : Int)) = ((22 + pg : Nat) : Int) by push_cast; rfl]; exact e⟩
  rw [← hX0] at H
  replace H : Aside (St w0 w16 (arB a gC nN (.slice none 0 0) true 0 0 :: ceB gC X0 :: [blk dm #[.int .i64 ((P : Int) + 1), .int .i64 1, .int .i64 1, .int .i64 64, .int .i64 22, .int .i64 (128 + 64 * (P : Int))] 27, blk hb #[.int .i64 0, .int .i64 kd, .int .i64 nn] 73, blk g1 #[.int .i64 ((P : Int) + 1), .int .i64 1, .int .i64 1] 25])) := Aside.mk (H.out.order 7 [0, 1, 3, 4, 5, 2, 6] rfl rfl |>.drop 5)
  clear hX0 HM
  have HN4 : Aside (nN ≤ 4096) := ⟨by have := HNN4.out; have := HPp.out; omega⟩
  have HN0 : Aside (0 < nN) := ⟨by have := HNN4.out; omega⟩
  have P5 : Aside (windrowlaw11_plan.f ((P : Int) + 1) 1 1 = some ((P : Int) + 1, 1, 1)) := ⟨rfl⟩
  have P6 : Aside (windrowlaw11_head.f 0 kd nn = some (0, kd, (nn : Int))) := ⟨rfl⟩
  obtain ⟨hd, hhd⟩ : ∃ hd, hdW 0 kd (nn : Int) = hd := ⟨_, rfl⟩
  have HHD := Aside.mk hhd
  have HNB := Aside.mk (fun (w1 : World) (F : List HP) (h : St w0 w1 F) => nb_ok (P := P) HPp.out (HBK.out.isH HKD.out) (HBK.out.lies HKD.out) h)
  rw [hhd] at HNB
  clear hhd
  go_wp2_with (go_at_call 34; refine (imagen_ HXL.out HN0.out HN4.out H.out).mono ?_; rintro e w17 ⟨g9, c9, rfl, hc9, h9⟩; replace H := Aside.mk h9; clear h9 hc9)
  replace H : Aside (St w0 _ (row 22 1 (.slice (some ⟨g9, 0, none⟩) nN c9) nN (U X0) :: arB a gC nN (.slice none 0 0) true 0 0 :: ceB gC X0 :: [blk dm #[.int .i64 ((P : Int) + 1), .int .i64 1, .int .i64 1, .int .i64 64, .int .i64 22, .int .i64 (128 + 64 * (P : Int))] 27, blk hb #[.int .i64 0, .int .i64 kd, .int .i64 nn] 73, blk g1 #[.int .i64 ((P : Int) + 1), .int .i64 1, .int .i64 1] 25])) := Aside.mk H.out.drew
  refine start_ (n := 11) (S := fun w' => w'.cell? ⟨g1, 0, none⟩ = some (.int .i64 ((P : Int) + 1)) ∧ w'.cell? ⟨g1, 1, none⟩ = some (.int .i64 1) ∧ w'.cell? ⟨g1, 2, none⟩ = some (.int .i64 1) ∧ w'.cell? ⟨hb, 0, none⟩ = some (.int .i64 0) ∧ w'.cell? ⟨hb, 1, none⟩ = some (.int .i64 kd) ∧ w'.cell? ⟨hb, 2, none⟩ = some (.int .i64 nn)) (ds := []) (flg 11 0) (by kernel_rfl) rfl rfl (⟨(H.out.pick 5 rfl).cell 0, (H.out.pick 5 rfl).cell 1, (H.out.pick 5 rfl).cell 2, (H.out.pick 4 rfl).cell 0, (H.out.pick 4 rfl).cell 1, (H.out.pick 4 rfl).cell 2⟩) (fun hHeld => ?_)
  refine with_tabW bk.tab26 bk.bits26 (fun HT_ HW_ => ?_)
  generalize World.drew _ = w17 at H hHeld ⊢
  refine tk_ (v := ?_) (a' := ?_) 0 (some 155) 1 rfl rfl HT_ HW_ (by kernel_rfl) (.inl ⟨by rfl, ?_⟩) hHeld ?_ ?_; rotate_left 2; (· rintro w' ⟨_, _, _, _, _, _⟩; go_simp; with_reducible rfl); (· simp only [nrm]; rfl)
  refine pu_ (v := ?_) (a' := ?_) 2 (some 157) 5 rfl rfl HT_ (by kernel_rfl) (.inl ⟨by rfl, ?_⟩) ?_ ?_; rotate_left 2; (· intro w'; go_simp; with_reducible rfl); (· simp only [nrm]; rfl)
  refine tk_ (v := ?_) (a' := ?_) 3 (some 158) 13 rfl rfl HT_ HW_ (by kernel_rfl) (.inl ⟨by rfl, ?_⟩) hHeld ?_ ?_; rotate_left 2; (· rintro w' ⟨_, _, _, _, _, _⟩; go_simp; with_reducible rfl); (· simp only [nrm]; rfl)
  refine on_ 1 (some 156) 15 rfl rfl HT_ (by kernel_rfl) (by decide) (fun K hK => ?_)
  refine goes_ Tryd.func15 (by kernel_rfl) rfl #[.agg #[.int .i64 ((P : Int) + 1), .int .i64 1, .int .i64 1]] (by rfl) rfl rfl (by (try simp only [List.map_toArray, List.map_cons, List.map_nil]); first | done | rfl) ?_
  refine (windrowlaw11_plan.calls _ _ _ _ _ _ _ P5.out).mono ?_
  rintro e w18 ⟨rfl, hb⟩
  replace H := Aside.mk (H.out.step hb)
  clear hb
  refine ⟨_, rfl, ?_⟩
  clear hHeld
  refine hK.out _ _ ⟨(H.out.pick 5 rfl).cell 0, (H.out.pick 5 rfl).cell 1, (H.out.pick 5 rfl).cell 2, (H.out.pick 4 rfl).cell 0, (H.out.pick 4 rfl).cell 1, (H.out.pick 4 rfl).cell 2⟩ (fun hHeld => ?_)
  clear hK K
  refine norm_ (a' := ?_) ?_ ?_
  rotate_left
  · show Act.put _ (some 156) _ = _
    simp only [nrm]
    rfl
  refine on_ 4 (some 159) 31 rfl rfl HT_ (by kernel_rfl) (by decide) (fun K hK => ?_)
  refine goes_ Tryd.func35 (by kernel_rfl) rfl #[.agg #[.int .i64 0, .int .i64 kd, .int .i64 nn]] (by rfl) rfl rfl (by (try simp only [List.map_toArray, List.map_cons, List.map_nil]); first | done | rfl) ?_
  refine (windrowlaw11_head.calls _ _ _ _ _ _ _ P6.out).mono ?_
  rintro e w19 ⟨rfl, hb⟩
  replace H := Aside.mk (H.out.step hb)
  clear hb
  refine ⟨_, rfl, ?_⟩
  clear hHeld
  refine hK.out _ _ ⟨(H.out.pick 5 rfl).cell 0, (H.out.pick 5 rfl).cell 1, (H.out.pick 5 rfl).cell 2, (H.out.pick 4 rfl).cell 0, (H.out.pick 4 rfl).cell 1, (H.out.pick 4 rfl).cell 2⟩ (fun hHeld => ?_)
  clear hK K
  refine norm_ (a' := ?_) ?_ ?_
  rotate_left
  · show Act.put _ (some 159) _ = _
    simp only [nrm]
    rfl
  refine on_ 5 (some 160) 63 rfl rfl HT_ (by kernel_rfl) (by decide) (fun K hK => ?_)
  refine goes_ Tryd.func14 (by kernel_rfl) rfl #[.agg #[.int .i64 ((P : Int) + 1), .int .i64 1, .int .i64 1], .int .i64 aN, .agg #[.int .i64 0, .int .i64 kd, .int .i64 nn]] (by rfl) rfl rfl (by (try simp only [List.map_toArray, List.map_cons, List.map_nil]); first | done | rfl) ?_
  refine (HNB.out _ _ H.out).mono ?_
  rintro e w20 ⟨b, rfl, h9⟩
  replace H : Aside (St w0 w20 (bdB b (aN : Int) hd (nn : Int) false :: row 22 1 (.slice (some ⟨g9, 0, none⟩) nN c9) nN (U X0) :: arB a gC nN (.slice none 0 0) true 0 0 :: ceB gC X0 :: [blk dm #[.int .i64 ((P : Int) + 1), .int .i64 1, .int .i64 1, .int .i64 64, .int .i64 22, .int .i64 (128 + 64 * (P : Int))] 27, blk hb #[.int .i64 0, .int .i64 kd, .int .i64 nn] 73, blk g1 #[.int .i64 ((P : Int) + 1), .int .i64 1, .int .i64 1] 25])) := Aside.mk h9
  clear h9
  refine ⟨_, rfl, ?_⟩
  clear hHeld
  refine hK.out _ _ ⟨(H.out.pick 6 rfl).cell 0, (H.out.pick 6 rfl).cell 1, (H.out.pick 6 rfl).cell 2, (H.out.pick 5 rfl).cell 0, (H.out.pick 5 rfl).cell 1, (H.out.pick 5 rfl).cell 2⟩ (fun hHeld => ?_)
  clear hK K
  refine norm_ (a' := ?_) ?_ ?_
  rotate_left
  · show Act.put _ (some 160) _ = _
    simp only [nrm]
    rfl
  refine pu_ (v := ?_) (a' := ?_) 6 (some 154) 127 rfl rfl HT_ (by kernel_rfl) (.inl ⟨by rfl, ?_⟩) ?_ ?_; rotate_left 2; (· intro w'; go_simp; with_reducible rfl); (· simp only [nrm]; rfl)
  refine pu_ (v := ?_) (a' := ?_) 7 (some 161) 255 rfl rfl HT_ (by kernel_rfl) (.inl ⟨by rfl, ?_⟩) ?_ ?_; rotate_left 2; (· intro w'; go_simp; with_reducible rfl); (· simp only [nrm]; rfl)
  refine pu_ (v := ?_) (a' := ?_) 8 (some 162) 511 rfl rfl HT_ (by kernel_rfl) (.inl ⟨by rfl, ?_⟩) ?_ ?_; rotate_left 2; (· intro w'; go_simp; with_reducible rfl); (· simp only [nrm]; rfl)
  refine pu_ (v := ?_) (a' := ?_) 9 (some 25) 1023 rfl rfl HT_ (by kernel_rfl) (.inl ⟨by rfl, ?_⟩) ?_ ?_; rotate_left 2; (· intro w'; go_simp; with_reducible rfl); (· simp only [nrm]; rfl)
  refine pu_ (v := ?_) (a' := ?_) 10 (some 26) 2047 rfl rfl HT_ (by kernel_rfl) (.inl ⟨by rfl, ?_⟩) ?_ ?_; rotate_left 2; (· intro w'; go_simp; with_reducible rfl); (· simp only [nrm]; rfl)
  refine done_ (done_of HT_.out (by kernel_rfl)) ?_
  clear HT_ HW_ hHeld
  replace H : Aside (St w0 w20 (arB a gC nN (.slice none 0 0) true 0 0 :: ceB gC X0 :: bdB b (aN : Int) hd (nn : Int) false :: row 22 1 (.slice (some ⟨g9, 0, none⟩) nN c9) nN (U X0) :: [blk dm #[.int .i64 ((P : Int) + 1), .int .i64 1, .int .i64 1, .int .i64 64, .int .i64 22, .int .i64 (128 + 64 * (P : Int))] 27, blk hb #[.int .i64 0, .int .i64 kd, .int .i64 nn] 73, blk g1 #[.int .i64 ((P : Int) + 1), .int .i64 1, .int .i64 1] 25])) := Aside.mk (H.out.order 4 [2, 3, 0, 1] rfl rfl)
  go_upto_block 0 with (go_at_call 16; refine (port_ (who := 1) (by decide) (by decide) H.out).mono ?_; rintro e w21 ⟨p, rfl, h9⟩; replace H := Aside.mk h9; clear h9)
  replace H : Aside (St w0 w21 (poB p a 1 false :: arB a gC nN (.slice none 0 0) true ([] : List Acc).length 0 :: ceB gC X0 :: row 98 7 (.slice none 0 0) ([] : List Acc).length (accs ([] : List Acc)) :: bdB b (aN : Int) hd (nn : Int) false :: row 22 1 (.slice (some ⟨g9, 0, none⟩) nN c9) nN (U X0) :: [blk dm #[.int .i64 ((P : Int) + 1), .int .i64 1, .int .i64 1, .int .i64 64, .int .i64 22, .int .i64 (128 + 64 * (P : Int))] 27, blk hb #[.int .i64 0, .int .i64 kd, .int .i64 nn] 73, blk g1 #[.int .i64 ((P : Int) + 1), .int .i64 1, .int .i64 1] 25])) := Aside.mk ((H.out.nil_row 98 7).order 5 [1, 2, 3, 0, 4] rfl rfl)
  clear HNB P6 HENC HPE
  go_cut [29] (fun v29 wc => ∃ lv l, Aside (l.length = nn + 1) ∧ Aside (St w0 wc (poB p a 1 false :: arB a gC nN lv true l.length 0 :: ceB gC (bkX X0 aN nn hd (nn + 1)) :: row 98 7 lv l.length (accs l) :: bdB b (aN : Int) hd ((nn - (nn + 1) : Nat) : Int) true :: row 22 1 (.slice (some ⟨g9, 0, none⟩) nN c9) nN (U X0) :: [blk dm #[.int .i64 ((P : Int) + 1), .int .i64 1, .int .i64 1, .int .i64 64, .int .i64 22, .int .i64 (128 + 64 * (P : Int))] 27, blk hb #[.int .i64 0, .int .i64 kd, .int .i64 nn] 73, blk g1 #[.int .i64 ((P : Int) + 1), .int .i64 1, .int .i64 1] 25])))
  case first =>
    as_aux_lemma =>
      go_wp2_with fail
      go_loopg [29] (nn + 1) (fun m v29 w' => ∃ (i : Nat) (lv : Value) (l : List Acc), m = nn + 1 - i ∧ i ≤ nn + 1 ∧ v29 = .int .i64 i ∧ Aside (l.length = i) ∧ Aside (St w0 w' (poB p a 1 false :: arB a gC nN lv true l.length 0 :: ceB gC (bkX X0 aN nn hd i) :: row 98 7 lv l.length (accs l) :: bdB b (aN : Int) hd ((nn - i : Nat) : Int) (decide (i = nn + 1)) :: row 22 1 (.slice (some ⟨g9, 0, none⟩) nN c9) nN (U X0) :: [blk dm #[.int .i64 ((P : Int) + 1), .int .i64 1, .int .i64 1, .int .i64 64, .int .i64 22, .int .i64 (128 + 64 * (P : Int))] 27, blk hb #[.int .i64 0, .int .i64 kd, .int .i64 nn] 73, blk g1 #[.int .i64 ((P : Int) + 1), .int .i64 1, .int .i64 1] 25])))
      case atStart => exact ⟨0, _, [], rfl, Nat.zero_le _, rfl, ⟨rfl⟩, H⟩
      case round =>
        clear H
        obtain ⟨i, lv, l, rfl, hi, rfl, HLL, H⟩ := hrel
        by_cases hle : i ≤ nn
        · have d1 : decide ((i : Int) ≤ (nn : Int)) = true := by simp; omega
          have n1 : (i : Int) ≤ (nn : Int) := by omega
          obtain ⟨ob, hob⟩ : ∃ ob, ob = decide (i = nn) := ⟨_, rfl⟩
          have HOB := Aside.mk hob
          have HI := Aside.mk hle
          replace H : Aside (St w0 _ (poB p a 1 false :: arB a gC nN lv true l.length 0 :: ceB gC (bkX X0 aN nn hd i) :: row 98 7 lv l.length (accs l) :: bdB b (aN : Int) hd ((nn - i : Nat) : Int) false :: row 22 1 (.slice (some ⟨g9, 0, none⟩) nN c9) nN (U X0) :: [blk dm #[.int .i64 ((P : Int) + 1), .int .i64 1, .int .i64 1, .int .i64 64, .int .i64 22, .int .i64 (128 + 64 * (P : Int))] 27, blk hb #[.int .i64 0, .int .i64 kd, .int .i64 nn] 73, blk g1 #[.int .i64 ((P : Int) + 1), .int .i64 1, .int .i64 1] 25])) := Aside.mk (by have h9 := H.out; rw [show decide (i = nn + 1) = false by simp; omega] at h9; exact h9)
          clear hi hle hob
          go_wp2_with (first
            | (go_at_call 20; refine (over_ (H.out.pick 4 rfl)).mono ?_; rintro e w22 ⟨rfl, rfl⟩)
            | (go_at_call 17; refine (grant_ H.out).mono ?_; rintro e w23 ⟨rfl, h9⟩; replace H := Aside.mk h9; clear h9)
            | (go_at_call 18; refine (broundw_ (j := i) (nn := nn) (aN := aN) (hd := hd) (ob := ob) (by rw [bkX_len]; exact HXL.out) (by have := HBK.out.in_; have := HNN4.out; omega) HN4.out (by have := HLL.out; have := HI.out; have := HNN.out; omega) HI.out rfl rfl HOB.out H.out).mono ?_; rintro e w24 ⟨lv', l', rfl, hl', h9⟩; replace H : Aside (St w0 w24 (poB p a 1 false :: arB a gC nN lv' true l'.length 0 :: ceB gC (bkX X0 aN nn hd (i + 1)) :: row 98 7 lv' l'.length (accs l') :: bdB b (aN : Int) hd ((nn - (i + 1) : Nat) : Int) ob :: row 22 1 (.slice (some ⟨g9, 0, none⟩) nN c9) nN (U X0) :: [blk dm #[.int .i64 ((P : Int) + 1), .int .i64 1, .int .i64 1, .int .i64 64, .int .i64 22, .int .i64 (128 + 64 * (P : Int))] 27, blk hb #[.int .i64 0, .int .i64 kd, .int .i64 nn] 73, blk g1 #[.int .i64 ((P : Int) + 1), .int .i64 1, .int .i64 1] 25])) := Aside.mk h9; clear h9; replace HLL : Aside (l'.length = i + 1) := ⟨by rw [hl', HLL.out]⟩; clear hl'))
          go_roundg (nn + 1 - (i + 1))
          case measure => have := HI.out; omega
          case rel => exact ⟨i + 1, lv', l', rfl, by have := HI.out; omega, by first | rfl | (have := HI.out; have := HNN.out; simp only [Value.int.injEq, true_and]; unfold wrap64; omega), HLL, ⟨by have h9 := H.out; rw [HOB.out, show decide (i = nn) = decide (i + 1 = nn + 1) by simp] at h9; exact h9⟩⟩
        · obtain rfl : i = nn + 1 := by omega
          have d1 : decide (((nn + 1 : Nat) : Int) ≤ (nn : Int)) = false := by simp; omega
          have n1 : ¬ (((nn + 1 : Nat) : Int) ≤ (nn : Int)) := by omega
          have n2 : ¬ (nn + 1 ≤ nn) := by omega
          have n3 : ¬ (((nn : Nat) : Int) + 1 ≤ (nn : Int)) := by omega
          clear hi hle
          go_wp2
          go_meet
          case rel => exact ⟨lv, l, HLL, ⟨by have h9 := H.out; first | exact h9 | (simp only [decide_true] at h9; exact h9)⟩⟩
  case rest =>
  clear H
  obtain ⟨lv, l, HLL, H⟩ := hcut
  obtain ⟨X1, hX1⟩ : ∃ X1, X1 = bkX X0 aN nn hd (nn + 1) := ⟨_, rfl⟩
  have HIN : Aside (aN + nn < nN) := ⟨by have := HBK.out.in_; have := HNN4.out; omega⟩
  have HHR : Aside (0 ≤ hd ∧ hd < 18446744073709551616) := ⟨by rw [← HHD.out]; exact hdW_rng HBK.out.hn HKD.out⟩
  have HX1L : Aside (X1.length = nN) := ⟨by rw [hX1, bkX_len]; exact HXL.out⟩
  have HX1R : Aside (∀ i, 0 ≤ X1.getD i 0 ∧ X1.getD i 0 < 18446744073709551616) := ⟨by rw [hX1]; exact bkX_rng HXR.out HHR.out _⟩
  have HX1O : Aside (∀ m, m < aN ∨ aN + nn < m → X1.getD m 0 = X0.getD m 0) := ⟨fun m hm => by rw [hX1]; exact bkX_out X0 aN nn hd hm _⟩
  have HX1H : Aside (X1.getD aN 0 = hd) := ⟨by rw [hX1]; exact bkX_head X0 aN nn hd (by rw [HXL.out]; exact HIN.out)⟩
  have HX1Z : Aside (∀ q, 1 ≤ q → q ≤ nn → X1.getD (aN + q) 0 = 0) := ⟨fun q h1 h2 => by rw [hX1]; exact bkX_zero X0 aN nn hd (by rw [HXL.out]; exact HIN.out) h1 h2 _ (by omega)⟩
  rw [← hX1] at H
  clear hX1
  replace H : Aside (St w0 wc (arB a gC nN lv true l.length 0 :: ceB gC X1 :: bdB b (aN : Int) hd ((nn - (nn + 1) : Nat) : Int) true :: row 22 1 (.slice (some ⟨g9, 0, none⟩) nN c9) nN (U X0) :: [blk dm #[.int .i64 ((P : Int) + 1), .int .i64 1, .int .i64 1, .int .i64 64, .int .i64 22, .int .i64 (128 + 64 * (P : Int))] 27, blk hb #[.int .i64 0, .int .i64 kd, .int .i64 nn] 73, blk g1 #[.int .i64 ((P : Int) + 1), .int .i64 1, .int .i64 1] 25])) := Aside.mk ((H.out.order 6 [1, 2, 4, 5, 0, 3] rfl rfl).order 9 [0, 1, 2, 3, 6, 7, 8, 4, 5] rfl rfl |>.drop 7)
  have d2 : ((nN : Int) != (nN : Int)) = false := by simp
  go_upto_block 2 with (first
    | (go_at_call 34; refine (imagen_ HX1L.out HN0.out HN4.out H.out).mono ?_; rintro e w25 ⟨g10, c10, rfl, hc10, h9⟩; replace H := Aside.mk h9; clear h9 hc10)
    | (go_at_call 20; refine (over_ (H.out.pick 3 rfl)).mono ?_; rintro e w26 ⟨rfl, rfl⟩))
  clear d2
  replace H : Aside (St w0 _ (row 22 1 (.slice (some ⟨g10, 0, none⟩) nN c10) nN (U X1) :: row 22 1 (.slice (some ⟨g9, 0, none⟩) nN c9) nN (U X0) :: arB a gC nN lv true l.length 0 :: ceB gC X1 :: [blk dm #[.int .i64 ((P : Int) + 1), .int .i64 1, .int .i64 1, .int .i64 64, .int .i64 22, .int .i64 (128 + 64 * (P : Int))] 27, blk hb #[.int .i64 0, .int .i64 kd, .int .i64 nn] 73, blk g1 #[.int .i64 ((P : Int) + 1), .int .i64 1, .int .i64 1] 25])) := Aside.mk (H.out.order 8 [0, 4, 1, 2, 5, 6, 7, 3] rfl rfl |>.drop 7)
  go_cut [31] (fun v31 wc => Aside (St w0 wc (row 22 1 (.slice (some ⟨g10, 0, none⟩) nN c10) nN (U X1) :: row 22 1 (.slice (some ⟨g9, 0, none⟩) nN c9) nN (U X0) :: arB a gC nN lv true l.length 0 :: ceB gC X1 :: [blk dm #[.int .i64 ((P : Int) + 1), .int .i64 1, .int .i64 1, .int .i64 64, .int .i64 22, .int .i64 (128 + 64 * (P : Int))] 27, blk hb #[.int .i64 0, .int .i64 kd, .int .i64 nn] 73, blk g1 #[.int .i64 ((P : Int) + 1), .int .i64 1, .int .i64 1] 25])))
  case first =>
    as_aux_lemma =>
      go_wp2_with fail
      go_loopg [31] nN (fun m v31 w' => ∃ i : Nat, m = nN - i ∧ i ≤ nN ∧ v31 = .int .i64 i ∧ Aside (St w0 w' (row 22 1 (.slice (some ⟨g10, 0, none⟩) nN c10) nN (U X1) :: row 22 1 (.slice (some ⟨g9, 0, none⟩) nN c9) nN (U X0) :: arB a gC nN lv true l.length 0 :: ceB gC X1 :: [blk dm #[.int .i64 ((P : Int) + 1), .int .i64 1, .int .i64 1, .int .i64 64, .int .i64 22, .int .i64 (128 + 64 * (P : Int))] 27, blk hb #[.int .i64 0, .int .i64 kd, .int .i64 nn] 73, blk g1 #[.int .i64 ((P : Int) + 1), .int .i64 1, .int .i64 1] 25])))
      case atStart => exact ⟨0, rfl, Nat.zero_le _, rfl, H⟩
      case round =>
        clear H
        obtain ⟨i, rfl, hi, rfl, H⟩ := hrel
        by_cases hlt : i < nN
        · have d1 : decide ((i : Int) < (nN : Int)) = true := by simp; omega
          have n1 : (i : Int) < (nN : Int) := by omega
          have HI := Aside.mk hlt
          have HW9 : Aside (wrap64 ((aN : Int) + (nn : Int)) = ((aN + nn : Nat) : Int)) := ⟨by have := HIN.out; have := HN4.out; unfold wrap64; omega⟩
          clear hi hlt
          go_wp2_with fail
          replace H : Aside (St w0 _ (row 22 1 (.slice (some ⟨g10, 0, none⟩) nN c10) nN (U X1) :: row 22 1 (.slice (some ⟨g9, 0, none⟩) nN c9) nN (U X0) :: arB a gC nN lv true l.length 0 :: ceB gC X1 :: [blk dm #[.int .i64 ((P : Int) + 1), .int .i64 1, .int .i64 1, .int .i64 64, .int .i64 22, .int .i64 (128 + 64 * (P : Int))] 27, blk hb #[.int .i64 0, .int .i64 kd, .int .i64 nn] 73, blk g1 #[.int .i64 ((P : Int) + 1), .int .i64 1, .int .i64 1] 25])) := Aside.mk H.out.drew
          have HC1 : Aside (∀ w1, St w0 w1 (row 22 1 (.slice (some ⟨g10, 0, none⟩) nN c10) nN (U X1) :: row 22 1 (.slice (some ⟨g9, 0, none⟩) nN c9) nN (U X0) :: arB a gC nN lv true l.length 0 :: ceB gC X1 :: [blk dm #[.int .i64 ((P : Int) + 1), .int .i64 1, .int .i64 1, .int .i64 64, .int .i64 22, .int .i64 (128 + 64 * (P : Int))] 27, blk hb #[.int .i64 0, .int .i64 kd, .int .i64 nn] 73, blk g1 #[.int .i64 ((P : Int) + 1), .int .i64 1, .int .i64 1] 25]) → w1.cell? ⟨g10, i, none⟩ = some (.int .u64 (X1.getD i 0)) ∧ w1.cell? ⟨g9, i, none⟩ = some (.int .u64 (X0.getD i 0))) := ⟨fun w1 h => ⟨img_cell HX1L.out h HI.out, img_cell HXL.out (h.pick 1 rfl) HI.out⟩⟩
          have HPK : Aside (i < aN ∨ aN + nn < i ∨ (aN ≤ i ∧ i ≤ aN + nn)) := ⟨by omega⟩
          have HIX : Aside (i < nN) := HI
          rcases HPK.out with hA | hA | hA
          · have DA : Aside (decide (i < aN) = true) := ⟨by simp; omega⟩
            have DE : Aside ((X1[i]?.getD 0 != X0[i]?.getD 0) = false) := ⟨by rw [← List.getD_eq_getElem?_getD, ← List.getD_eq_getElem?_getD, HX1O.out i (.inl hA)]; simp⟩
            clear hA
            refine start_ (n := 21) (S := fun w' => w'.cell? ⟨g10, i, none⟩ = some (.int .u64 (X1.getD i 0)) ∧ w'.cell? ⟨g9, i, none⟩ = some (.int .u64 (X0.getD i 0))) (ds := []) (flg 21 0) (by kernel_rfl) rfl rfl (HC1.out _ H.out) (fun hHeld => ?_)
            refine with_tabW bk.tab43 bk.bits43 (fun HT_ HW_ => ?_)
            refine pu_ (v := ?_) (a' := ?_) 0 (some 204) 1 rfl rfl HT_ (by kernel_rfl) (.inl ⟨by rfl, ?_⟩) ?_ ?_; rotate_left 2; (· intro w'; go_simp; with_reducible rfl); (· simp only [nrm]; rfl)
            refine pu_ (v := ?_) (a' := ?_) 1 (some 205) 3 rfl rfl HT_ (by kernel_rfl) (.inl ⟨by rfl, ?_⟩) ?_ ?_; rotate_left 2; (· intro w'; go_simp; with_reducible rfl); (· simp only [nrm]; rfl)
            refine pu_ (v := ?_) (a' := ?_) 2 (some 206) 7 rfl rfl HT_ (by kernel_rfl) (.inl ⟨by rfl, ?_⟩) ?_ ?_; rotate_left 2; (· intro w'; go_simp; simp only [DA.out]; with_reducible rfl); (· simp only [nrm]; rfl)
            refine pu_ (v := ?_) (a' := ?_) 3 (some 207) 15 rfl rfl HT_ (by kernel_rfl) (.inl ⟨by rfl, ?_⟩) ?_ ?_; rotate_left 2; (· intro w'; go_simp; with_reducible rfl); (· simp only [nrm]; rfl)
            refine pure_ (i := 4) (N := some 208) (v := undef) (a' := ?_) (flg 21 31) rfl rfl (any_of HT_.out (by kernel_rfl)) (fun _ _ _ h => h) (Or.inr ⟨by rfl, rfl⟩) ?_ ?_
            rotate_left
            · simp only [nrm]
              rfl
            refine pure_ (i := 5) (N := some 209) (v := undef) (a' := ?_) (flg 21 63) rfl rfl (any_of HT_.out (by kernel_rfl)) (fun _ _ _ h => h) (Or.inr ⟨by rfl, rfl⟩) ?_ ?_
            rotate_left
            · simp only [nrm]
              rfl
            refine pure_ (i := 6) (N := some 210) (v := undef) (a' := ?_) (flg 21 127) rfl rfl (any_of HT_.out (by kernel_rfl)) (fun _ _ _ h => h) (Or.inr ⟨by rfl, rfl⟩) ?_ ?_
            rotate_left
            · simp only [nrm]
              rfl
            refine pure_ (i := 7) (N := some 211) (v := undef) (a' := ?_) (flg 21 255) rfl rfl (any_of HT_.out (by kernel_rfl)) (fun _ _ _ h => h) (Or.inr ⟨by rfl, rfl⟩) ?_ ?_
            rotate_left
            · simp only [nrm]
              rfl
            refine pure_ (i := 8) (N := some 212) (v := undef) (a' := ?_) (flg 21 511) rfl rfl (any_of HT_.out (by kernel_rfl)) (fun _ _ _ h => h) (Or.inr ⟨by rfl, rfl⟩) ?_ ?_
            rotate_left
            · simp only [nrm]
              rfl
            refine pu_ (v := ?_) (a' := ?_) 9 (some 213) 1023 rfl rfl HT_ (by kernel_rfl) (.inl ⟨by rfl, ?_⟩) ?_ ?_; rotate_left 2; (· intro w'; go_simp; with_reducible rfl); (· simp only [nrm]; rfl)
            refine pu_ (v := ?_) (a' := ?_) 10 (some 214) 2047 rfl rfl HT_ (by kernel_rfl) (.inl ⟨by rfl, ?_⟩) ?_ ?_; rotate_left 2; (· intro w'; go_simp; with_reducible rfl); (· simp only [nrm]; rfl)
            refine pu_ (v := ?_) (a' := ?_) 11 (some 215) 4095 rfl rfl HT_ (by kernel_rfl) (.inl ⟨by rfl, ?_⟩) ?_ ?_; rotate_left 2; (· intro w'; go_simp; with_reducible rfl); (· simp only [nrm]; rfl)
            refine pu_ (v := ?_) (a' := ?_) 12 (some 216) 8191 rfl rfl HT_ (by kernel_rfl) (.inl ⟨by rfl, ?_⟩) ?_ ?_; rotate_left 2; (· intro w'; go_simp; with_reducible rfl); (· simp only [nrm]; rfl)
            refine pu_ (v := ?_) (a' := ?_) 13 (some 217) 16383 rfl rfl HT_ (by kernel_rfl) (.inl ⟨by rfl, ?_⟩) ?_ ?_; rotate_left 2; (· intro w'; go_simp; with_reducible rfl); (· simp only [nrm]; rfl)
            refine tk_ (v := ?_) (a' := ?_) 14 (some 218) 32767 rfl rfl HT_ HW_ (by kernel_rfl) (.inl ⟨by rfl, ?_⟩) hHeld ?_ ?_; rotate_left 2; (· rintro w' ⟨_, _⟩; go_simp; with_reducible rfl); (· simp only [nrm]; rfl)
            refine pu_ (v := ?_) (a' := ?_) 15 (some 219) 65535 rfl rfl HT_ (by kernel_rfl) (.inl ⟨by rfl, ?_⟩) ?_ ?_; rotate_left 2; (· intro w'; go_simp; with_reducible rfl); (· simp only [nrm]; rfl)
            refine pu_ (v := ?_) (a' := ?_) 16 (some 220) 131071 rfl rfl HT_ (by kernel_rfl) (.inl ⟨by rfl, ?_⟩) ?_ ?_; rotate_left 2; (· intro w'; go_simp; with_reducible rfl); (· simp only [nrm]; rfl)
            refine pu_ (v := ?_) (a' := ?_) 17 (some 221) 262143 rfl rfl HT_ (by kernel_rfl) (.inl ⟨by rfl, ?_⟩) ?_ ?_; rotate_left 2; (· intro w'; go_simp; with_reducible rfl); (· simp only [nrm]; rfl)
            refine tk_ (v := ?_) (a' := ?_) 18 (some 222) 524287 rfl rfl HT_ HW_ (by kernel_rfl) (.inl ⟨by rfl, ?_⟩) hHeld ?_ ?_; rotate_left 2; (· rintro w' ⟨_, _⟩; go_simp; with_reducible rfl); (· simp only [nrm]; rfl)
            refine pu_ (v := ?_) (a' := ?_) 19 (some 223) 1048575 rfl rfl HT_ (by kernel_rfl) (.inl ⟨by rfl, ?_⟩) ?_ ?_; rotate_left 2; (· intro w'; go_simp; simp only [DE.out]; with_reducible rfl); (· simp only [nrm]; rfl)
            refine pu_ (v := ?_) (a' := ?_) 20 (some 224) 2097151 rfl rfl HT_ (by kernel_rfl) (.inl ⟨by rfl, ?_⟩) ?_ ?_; rotate_left 2; (· intro w'; go_simp; with_reducible rfl); (· simp only [nrm]; rfl)
            refine done_ (done_of HT_.out (by kernel_rfl)) ?_
            clear HT_ HW_ hHeld
            go_wp2
            go_roundg (nN - (i + 1))
            case measure => have := HI.out; omega
            case rel => exact ⟨i + 1, rfl, HI.out, by first | rfl | (have := HI.out; have := HN4.out; simp only [Value.int.injEq, true_and]; unfold wrap64; omega), H⟩
          · have DA : Aside (decide (i < aN) = false) := ⟨by simp; omega⟩
            have DB : Aside (decide (aN + nn < i) = true ∧ decide ((aN : Int) + (nn : Int) < (i : Int)) = true) := ⟨by simp; omega⟩
            have DE : Aside ((X1[i]?.getD 0 != X0[i]?.getD 0) = false) := ⟨by rw [← List.getD_eq_getElem?_getD, ← List.getD_eq_getElem?_getD, HX1O.out i (.inr hA)]; simp⟩
            clear hA
            refine start_ (n := 21) (S := fun w' => w'.cell? ⟨g10, i, none⟩ = some (.int .u64 (X1.getD i 0)) ∧ w'.cell? ⟨g9, i, none⟩ = some (.int .u64 (X0.getD i 0))) (ds := []) (flg 21 0) (by kernel_rfl) rfl rfl (HC1.out _ H.out) (fun hHeld => ?_)
            refine with_tabW bk.tab43 bk.bits43 (fun HT_ HW_ => ?_)
            refine pu_ (v := ?_) (a' := ?_) 0 (some 204) 1 rfl rfl HT_ (by kernel_rfl) (.inl ⟨by rfl, ?_⟩) ?_ ?_; rotate_left 2; (· intro w'; go_simp; with_reducible rfl); (· simp only [nrm]; rfl)
            refine pu_ (v := ?_) (a' := ?_) 1 (some 205) 3 rfl rfl HT_ (by kernel_rfl) (.inl ⟨by rfl, ?_⟩) ?_ ?_; rotate_left 2; (· intro w'; go_simp; with_reducible rfl); (· simp only [nrm]; rfl)
            refine pu_ (v := ?_) (a' := ?_) 2 (some 206) 7 rfl rfl HT_ (by kernel_rfl) (.inl ⟨by rfl, ?_⟩) ?_ ?_; rotate_left 2; (· intro w'; go_simp; simp only [DA.out]; with_reducible rfl); (· simp only [nrm]; rfl)
            refine pu_ (v := ?_) (a' := ?_) 3 (some 207) 15 rfl rfl HT_ (by kernel_rfl) (.inl ⟨by rfl, ?_⟩) ?_ ?_; rotate_left 2; (· intro w'; go_simp; with_reducible rfl); (· simp only [nrm]; rfl)
            refine pu_ (v := ?_) (a' := ?_) 4 (some 208) 31 rfl rfl HT_ (by kernel_rfl) (.inl ⟨by rfl, ?_⟩) ?_ ?_; rotate_left 2; (· intro w'; go_simp; with_reducible rfl); (· simp only [nrm]; rfl)
            refine pu_ (v := ?_) (a' := ?_) 5 (some 209) 63 rfl rfl HT_ (by kernel_rfl) (.inl ⟨by rfl, ?_⟩) ?_ ?_; rotate_left 2; (· intro w'; go_simp; with_reducible rfl); (· simp only [nrm]; rfl)
            refine pu_ (v := ?_) (a' := ?_) 6 (some 210) 127 rfl rfl HT_ (by kernel_rfl) (.inl ⟨by rfl, ?_⟩) ?_ ?_; rotate_left 2; (· intro w'; go_simp; with_reducible rfl); (· simp only [nrm]; rfl)
            refine pu_ (v := ?_) (a' := ?_) 7 (some 211) 255 rfl rfl HT_ (by kernel_rfl) (.inl ⟨by rfl, ?_⟩) ?_ ?_; rotate_left 2; (· intro w'; go_simp; simp only [i64_w, HW9.out]; with_reducible rfl); (· simp only [nrm]; rfl)
            refine pu_ (v := ?_) (a' := ?_) 8 (some 212) 511 rfl rfl HT_ (by kernel_rfl) (.inl ⟨by rfl, ?_⟩) ?_ ?_; rotate_left 2; (· intro w'; go_simp; simp only [DB.out.1, DB.out.2]; with_reducible rfl); (· simp only [nrm]; rfl)
            refine pu_ (v := ?_) (a' := ?_) 9 (some 213) 1023 rfl rfl HT_ (by kernel_rfl) (.inl ⟨by rfl, ?_⟩) ?_ ?_; rotate_left 2; (· intro w'; go_simp; with_reducible rfl); (· simp only [nrm]; rfl)
            refine pu_ (v := ?_) (a' := ?_) 10 (some 214) 2047 rfl rfl HT_ (by kernel_rfl) (.inl ⟨by rfl, ?_⟩) ?_ ?_; rotate_left 2; (· intro w'; go_simp; with_reducible rfl); (· simp only [nrm]; rfl)
            refine pu_ (v := ?_) (a' := ?_) 11 (some 215) 4095 rfl rfl HT_ (by kernel_rfl) (.inl ⟨by rfl, ?_⟩) ?_ ?_; rotate_left 2; (· intro w'; go_simp; with_reducible rfl); (· simp only [nrm]; rfl)
            refine pu_ (v := ?_) (a' := ?_) 12 (some 216) 8191 rfl rfl HT_ (by kernel_rfl) (.inl ⟨by rfl, ?_⟩) ?_ ?_; rotate_left 2; (· intro w'; go_simp; with_reducible rfl); (· simp only [nrm]; rfl)
            refine pu_ (v := ?_) (a' := ?_) 13 (some 217) 16383 rfl rfl HT_ (by kernel_rfl) (.inl ⟨by rfl, ?_⟩) ?_ ?_; rotate_left 2; (· intro w'; go_simp; with_reducible rfl); (· simp only [nrm]; rfl)
            refine tk_ (v := ?_) (a' := ?_) 14 (some 218) 32767 rfl rfl HT_ HW_ (by kernel_rfl) (.inl ⟨by rfl, ?_⟩) hHeld ?_ ?_; rotate_left 2; (· rintro w' ⟨_, _⟩; go_simp; with_reducible rfl); (· simp only [nrm]; rfl)
            refine pu_ (v := ?_) (a' := ?_) 15 (some 219) 65535 rfl rfl HT_ (by kernel_rfl) (.inl ⟨by rfl, ?_⟩) ?_ ?_; rotate_left 2; (· intro w'; go_simp; with_reducible rfl); (· simp only [nrm]; rfl)
            refine pu_ (v := ?_) (a' := ?_) 16 (some 220) 131071 rfl rfl HT_ (by kernel_rfl) (.inl ⟨by rfl, ?_⟩) ?_ ?_; rotate_left 2; (· intro w'; go_simp; with_reducible rfl); (· simp only [nrm]; rfl)
            refine pu_ (v := ?_) (a' := ?_) 17 (some 221) 262143 rfl rfl HT_ (by kernel_rfl) (.inl ⟨by rfl, ?_⟩) ?_ ?_; rotate_left 2; (· intro w'; go_simp; with_reducible rfl); (· simp only [nrm]; rfl)
            refine tk_ (v := ?_) (a' := ?_) 18 (some 222) 524287 rfl rfl HT_ HW_ (by kernel_rfl) (.inl ⟨by rfl, ?_⟩) hHeld ?_ ?_; rotate_left 2; (· rintro w' ⟨_, _⟩; go_simp; with_reducible rfl); (· simp only [nrm]; rfl)
            refine pu_ (v := ?_) (a' := ?_) 19 (some 223) 1048575 rfl rfl HT_ (by kernel_rfl) (.inl ⟨by rfl, ?_⟩) ?_ ?_; rotate_left 2; (· intro w'; go_simp; simp only [DE.out]; with_reducible rfl); (· simp only [nrm]; rfl)
            refine pu_ (v := ?_) (a' := ?_) 20 (some 224) 2097151 rfl rfl HT_ (by kernel_rfl) (.inl ⟨by rfl, ?_⟩) ?_ ?_; rotate_left 2; (· intro w'; go_simp; with_reducible rfl); (· simp only [nrm]; rfl)
            refine done_ (done_of HT_.out (by kernel_rfl)) ?_
            clear HT_ HW_ hHeld
            go_wp2
            go_roundg (nN - (i + 1))
            case measure => have := HI.out; omega
            case rel => exact ⟨i + 1, rfl, HI.out, by first | rfl | (have := HI.out; have := HN4.out; simp only [Value.int.injEq, true_and]; unfold wrap64; omega), H⟩
          · have DA : Aside (decide (i < aN) = false) := ⟨by simp; omega⟩
            have DB : Aside (decide (aN + nn < i) = false ∧ decide ((aN : Int) + (nn : Int) < (i : Int)) = false) := ⟨by simp; omega⟩
            clear hA
            refine start_ (n := 21) (S := fun w' => w'.cell? ⟨g10, i, none⟩ = some (.int .u64 (X1.getD i 0)) ∧ w'.cell? ⟨g9, i, none⟩ = some (.int .u64 (X0.getD i 0))) (ds := []) (flg 21 0) (by kernel_rfl) rfl rfl (HC1.out _ H.out) (fun hHeld => ?_)
            refine with_tabW bk.tab43 bk.bits43 (fun HT_ HW_ => ?_)
            refine pu_ (v := ?_) (a' := ?_) 0 (some 204) 1 rfl rfl HT_ (by kernel_rfl) (.inl ⟨by rfl, ?_⟩) ?_ ?_; rotate_left 2; (· intro w'; go_simp; with_reducible rfl); (· simp only [nrm]; rfl)
            refine pu_ (v := ?_) (a' := ?_) 1 (some 205) 3 rfl rfl HT_ (by kernel_rfl) (.inl ⟨by rfl, ?_⟩) ?_ ?_; rotate_left 2; (· intro w'; go_simp; with_reducible rfl); (· simp only [nrm]; rfl)
            refine pu_ (v := ?_) (a' := ?_) 2 (some 206) 7 rfl rfl HT_ (by kernel_rfl) (.inl ⟨by rfl, ?_⟩) ?_ ?_; rotate_left 2; (· intro w'; go_simp; simp only [DA.out]; with_reducible rfl); (· simp only [nrm]; rfl)
            refine pu_ (v := ?_) (a' := ?_) 3 (some 207) 15 rfl rfl HT_ (by kernel_rfl) (.inl ⟨by rfl, ?_⟩) ?_ ?_; rotate_left 2; (· intro w'; go_simp; with_reducible rfl); (· simp only [nrm]; rfl)
            refine pu_ (v := ?_) (a' := ?_) 4 (some 208) 31 rfl rfl HT_ (by kernel_rfl) (.inl ⟨by rfl, ?_⟩) ?_ ?_; rotate_left 2; (· intro w'; go_simp; with_reducible rfl); (· simp only [nrm]; rfl)
            refine pu_ (v := ?_) (a' := ?_) 5 (some 209) 63 rfl rfl HT_ (by kernel_rfl) (.inl ⟨by rfl, ?_⟩) ?_ ?_; rotate_left 2; (· intro w'; go_simp; with_reducible rfl); (· simp only [nrm]; rfl)
            refine pu_ (v := ?_) (a' := ?_) 6 (some 210) 127 rfl rfl HT_ (by kernel_rfl) (.inl ⟨by rfl, ?_⟩) ?_ ?_; rotate_left 2; (· intro w'; go_simp; with_reducible rfl); (· simp only [nrm]; rfl)
            refine pu_ (v := ?_) (a' := ?_) 7 (some 211) 255 rfl rfl HT_ (by kernel_rfl) (.inl ⟨by rfl, ?_⟩) ?_ ?_; rotate_left 2; (· intro w'; go_simp; simp only [i64_w, HW9.out]; with_reducible rfl); (· simp only [nrm]; rfl)
            refine pu_ (v := ?_) (a' := ?_) 8 (some 212) 511 rfl rfl HT_ (by kernel_rfl) (.inl ⟨by rfl, ?_⟩) ?_ ?_; rotate_left 2; (· intro w'; go_simp; simp only [DB.out.1, DB.out.2]; with_reducible rfl); (· simp only [nrm]; rfl)
            refine pu_ (v := ?_) (a' := ?_) 9 (some 213) 1023 rfl rfl HT_ (by kernel_rfl) (.inl ⟨by rfl, ?_⟩) ?_ ?_; rotate_left 2; (· intro w'; go_simp; with_reducible rfl); (· simp only [nrm]; rfl)
            refine pu_ (v := ?_) (a' := ?_) 10 (some 214) 2047 rfl rfl HT_ (by kernel_rfl) (.inl ⟨by rfl, ?_⟩) ?_ ?_; rotate_left 2; (· intro w'; go_simp; with_reducible rfl); (· simp only [nrm]; rfl)
            refine pure_ (i := 11) (N := some 215) (v := undef) (a' := ?_) (flg 21 4095) rfl rfl (any_of HT_.out (by kernel_rfl)) (fun _ _ _ h => h) (Or.inr ⟨by rfl, rfl⟩) ?_ ?_
            rotate_left
            · simp only [nrm]
              rfl
            refine pure_ (i := 12) (N := some 216) (v := undef) (a' := ?_) (flg 21 8191) rfl rfl (any_of HT_.out (by kernel_rfl)) (fun _ _ _ h => h) (Or.inr ⟨by rfl, rfl⟩) ?_ ?_
            rotate_left
            · simp only [nrm]
              rfl
            refine pure_ (i := 13) (N := some 217) (v := undef) (a' := ?_) (flg 21 16383) rfl rfl (any_of HT_.out (by kernel_rfl)) (fun _ _ _ h => h) (Or.inr ⟨by rfl, rfl⟩) ?_ ?_
            rotate_left
            · simp only [nrm]
              rfl
            refine pure_ (i := 14) (N := some 218) (v := undef) (a' := ?_) (flg 21 32767) rfl rfl (any_of HT_.out (by kernel_rfl)) (fun _ _ _ h => h) (Or.inr ⟨by rfl, rfl⟩) ?_ ?_
            rotate_left
            · simp only [nrm]
              rfl
            refine pure_ (i := 15) (N := some 219) (v := undef) (a' := ?_) (flg 21 65535) rfl rfl (any_of HT_.out (by kernel_rfl)) (fun _ _ _ h => h) (Or.inr ⟨by rfl, rfl⟩) ?_ ?_
            rotate_left
            · simp only [nrm]
              rfl
            refine pure_ (i := 16) (N := some 220) (v := undef) (a' := ?_) (flg 21 131071) rfl rfl (any_of HT_.out (by kernel_rfl)) (fun _ _ _ h => h) (Or.inr ⟨by rfl, rfl⟩) ?_ ?_
            rotate_left
            · simp only [nrm]
              rfl
            refine pure_ (i := 17) (N := some 221) (v := undef) (a' := ?_) (flg 21 262143) rfl rfl (any_of HT_.out (by kernel_rfl)) (fun _ _ _ h => h) (Or.inr ⟨by rfl, rfl⟩) ?_ ?_
            rotate_left
            · simp only [nrm]
              rfl
            refine pure_ (i := 18) (N := some 222) (v := undef) (a' := ?_) (flg 21 524287) rfl rfl (any_of HT_.out (by kernel_rfl)) (fun _ _ _ h => h) (Or.inr ⟨by rfl, rfl⟩) ?_ ?_
            rotate_left
            · simp only [nrm]
              rfl
            refine pure_ (i := 19) (N := some 223) (v := undef) (a' := ?_) (flg 21 1048575) rfl rfl (any_of HT_.out (by kernel_rfl)) (fun _ _ _ h => h) (Or.inr ⟨by rfl, rfl⟩) ?_ ?_
            rotate_left
            · simp only [nrm]
              rfl
            refine pu_ (v := ?_) (a' := ?_) 20 (some 224) 2097151 rfl rfl HT_ (by kernel_rfl) (.inl ⟨by rfl, ?_⟩) ?_ ?_; rotate_left 2; (· intro w'; go_simp; with_reducible rfl); (· simp only [nrm]; rfl)
            refine done_ (done_of HT_.out (by kernel_rfl)) ?_
            clear HT_ HW_ hHeld
            go_wp2
            go_roundg (nN - (i + 1))
            case measure => have := HI.out; omega
            case rel => exact ⟨i + 1, rfl, HI.out, by first | rfl | (have := HI.out; have := HN4.out; simp only [Value.int.injEq, true_and]; unfold wrap64; omega), H⟩
        · obtain rfl : i = nN := by omega
          have d1 : decide ((i : Int) < (i : Int)) = false := by simp
          have n1 : ¬ ((i : Int) < (i : Int)) := by omega
          clear hi hlt
          go_wp2
          go_meet
          case rel => exact H
  case rest =>
  clear H
  replace H : Aside (St w0 wc (arB a gC nN lv true l.length 0 :: ceB gC X1 :: [blk dm #[.int .i64 ((P : Int) + 1), .int .i64 1, .int .i64 1, .int .i64 64, .int .i64 22, .int .i64 (128 + 64 * (P : Int))] 27, blk hb #[.int .i64 0, .int .i64 kd, .int .i64 nn] 73, blk g1 #[.int .i64 ((P : Int) + 1), .int .i64 1, .int .i64 1] 25])) := Aside.mk ((hcut.out.order 4 [2, 3, 0, 1] rfl rfl).order 7 [0, 1, 4, 5, 6, 2, 3] rfl rfl |>.drop 5)
  clear hcut HXR
  obtain ⟨ia, hia⟩ : ∃ ia, ia = 22 + (P + 1) + pg := ⟨_, rfl⟩
  have HIA : Aside (ia < nN) := ⟨by have := HNN4.out; have := HBK.out.hpg; have := HPp.out; omega⟩
  have HAL : Aside (windrowref06_Map_Alloc.f ((P : Int) + 1) 1 1 64 22 (128 + 64 * (P : Int)) (pg : Int) = some (ia : Int)) := ⟨by unfold windrowref06_Map_Alloc.f; have := HBK.out.hpg; have := HPp.out; congr 1; unfold wrap64; omega⟩
  obtain ⟨al, hal⟩ : ∃ al, X1.getD ia 0 = al := ⟨_, rfl⟩
  have HALV := Aside.mk hal
  have HALR : Aside (0 ≤ al ∧ al < 18446744073709551616) := ⟨by rw [← hal]; exact HX1R.out ia⟩
  have HIAE := Aside.mk hia
  clear hal hia
  have m0 := (H.out.pick 2 rfl).cell 0
  have m1 := (H.out.pick 2 rfl).cell 1
  have m2 := (H.out.pick 2 rfl).cell 2
  have m3 := (H.out.pick 2 rfl).cell 3
  have m4 := (H.out.pick 2 rfl).cell 4
  have m5 := (H.out.pick 2 rfl).cell 5
  go_wp2_with (first
    | (go_at_call 36; refine (windrowref06_Map_Alloc.calls _ _ _ _ _ _ _ _ _ HAL.out).mono ?_; rintro e w27 ⟨rfl, hb⟩; replace H := Aside.mk (H.out.step hb); clear hb m0 m1 m2 m3 m4 m5)
    | (go_at_call 19; refine (peekn_ HX1L.out HIA.out HALV.out H.out).mono ?_; rintro e w28 ⟨rfl, rfl⟩))
  replace H : Aside (St w0 _ (arB a gC nN lv true l.length 0 :: ceB gC X1 :: [blk dm #[.int .i64 ((P : Int) + 1), .int .i64 1, .int .i64 1, .int .i64 64, .int .i64 22, .int .i64 (128 + 64 * (P : Int))] 27, blk hb #[.int .i64 0, .int .i64 kd, .int .i64 nn] 73, blk g1 #[.int .i64 ((P : Int) + 1), .int .i64 1, .int .i64 1] 25])) := Aside.mk H.out.drew
  obtain ⟨jj, hjj⟩ : ∃ jj, jj = 64 * pg + j := ⟨_, rfl⟩
  have HJ1 : Aside (wrap64 ((aN : Int) - 64) = (jj : Int)) := ⟨by have := HBK.out.ha; have := HBK.out.hpg; have := HBK.out.hj; have := HPp.out; unfold wrap64; omega⟩
  have HJ2 : Aside (Int.tmod (jj : Int) 64 = (j : Int)) := ⟨by have := HBK.out.hpg; have := HBK.out.hj; have := HPp.out; rw [Int.tmod_eq_emod_of_nonneg (by omega)]; omega⟩
  clear hjj
  obtain ⟨pj, hpj⟩ : ∃ pj : Int, pj = ((2 ^ j : Nat) : Int) := ⟨_, rfl⟩
  have HPJ := Aside.mk hpj
  have HJ3 : Aside (IntKind.u64.wrap (2 ^ min j 64) = pj) := ⟨by rw [hpj]; exact pow_wrap HBK.out.hj⟩
  clear hpj
  refine start_ (n := 13) (S := fun w' => w'.cell? ⟨dm, 0, none⟩ = some (.int .i64 ((P : Int) + 1)) ∧ w'.cell? ⟨dm, 1, none⟩ = some (.int .i64 1) ∧ w'.cell? ⟨dm, 2, none⟩ = some (.int .i64 1) ∧ w'.cell? ⟨dm, 3, none⟩ = some (.int .i64 64) ∧ w'.cell? ⟨dm, 4, none⟩ = some (.int .i64 22) ∧ w'.cell? ⟨dm, 5, none⟩ = some (.int .i64 (128 + 64 * (P : Int)))) (ds := []) (flg 13 0) (by kernel_rfl) rfl rfl (⟨(H.out.pick 2 rfl).cell 0, (H.out.pick 2 rfl).cell 1, (H.out.pick 2 rfl).cell 2, (H.out.pick 2 rfl).cell 3, (H.out.pick 2 rfl).cell 4, (H.out.pick 2 rfl).cell 5⟩) (fun hHeld => ?_)
  refine with_tabW bk.tab46 bk.bits46 (fun HT_ HW_ => ?_)
  refine pu_ (v := ?_) (a' := ?_) 0 (some 233) 1 rfl rfl HT_ (by kernel_rfl) (.inl ⟨by rfl, ?_⟩) ?_ ?_; rotate_left 2; (· intro w'; go_simp; with_reducible rfl); (· simp only [nrm]; rfl)
  refine tk_ (v := ?_) (a' := ?_) 1 (some 234) 3 rfl rfl HT_ HW_ (by kernel_rfl) (.inl ⟨by rfl, ?_⟩) hHeld ?_ ?_; rotate_left 2; (· rintro w' ⟨_, _, _, _, _, _⟩; go_simp; with_reducible rfl); (· simp only [nrm]; rfl)
  refine pu_ (v := ?_) (a' := ?_) 2 (some 235) 7 rfl rfl HT_ (by kernel_rfl) (.inl ⟨by rfl, ?_⟩) ?_ ?_; rotate_left 2; (· intro w'; go_simp; with_reducible rfl); (· simp only [nrm]; rfl)
  refine pu_ (v := ?_) (a' := ?_) 4 (some 237) 23 rfl rfl HT_ (by kernel_rfl) (.inl ⟨by rfl, ?_⟩) ?_ ?_; rotate_left 2; (· intro w'; go_simp; with_reducible rfl); (· simp only [nrm]; rfl)
  refine pu_ (v := ?_) (a' := ?_) 5 (some 238) 55 rfl rfl HT_ (by kernel_rfl) (.inl ⟨by rfl, ?_⟩) ?_ ?_; rotate_left 2; (· intro w'; go_simp; with_reducible rfl); (· simp only [nrm]; rfl)
  refine pu_ (v := ?_) (a' := ?_) 6 (some 239) 119 rfl rfl HT_ (by kernel_rfl) (.inl ⟨by rfl, ?_⟩) ?_ ?_; rotate_left 2; (· intro w'; go_simp; with_reducible rfl); (· simp only [nrm]; rfl)
  refine tk_ (v := ?_) (a' := ?_) 7 (some 240) 247 rfl rfl HT_ HW_ (by kernel_rfl) (.inl ⟨by rfl, ?_⟩) hHeld ?_ ?_; rotate_left 2; (· rintro w' ⟨_, _, _, _, _, _⟩; go_simp; with_reducible rfl); (· simp only [nrm]; rfl)
  refine pu_ (v := ?_) (a' := ?_) 8 (some 241) 503 rfl rfl HT_ (by kernel_rfl) (.inl ⟨by rfl, ?_⟩) ?_ ?_; rotate_left 2; (· intro w'; go_simp; simp only [i64_w, HJ1.out]; with_reducible rfl); (· simp only [nrm]; rfl)
  refine pu_ (v := ?_) (a' := ?_) 9 (some 242) 1015 rfl rfl HT_ (by kernel_rfl) (.inl ⟨by rfl, ?_⟩) ?_ ?_; rotate_left 2; (· intro w'; go_simp; simp only [HJ2.out]; with_reducible rfl); (· simp only [nrm]; rfl)
  refine pu_ (v := ?_) (a' := ?_) 10 (some 243) 2039 rfl rfl HT_ (by kernel_rfl) (.inl ⟨by rfl, ?_⟩) ?_ ?_; rotate_left 2; (· intro w'; go_simp; simp only [HJ3.out]; with_reducible rfl); (· simp only [nrm]; rfl)
  refine pu_ (v := ?_) (a' := ?_) 11 (some 244) 4087 rfl rfl HT_ (by kernel_rfl) (.inl ⟨by rfl, ?_⟩) ?_ ?_; rotate_left 2; (· intro w'; go_simp; with_reducible rfl); (· simp only [nrm]; rfl)
  refine on_ 3 (some 236) 4095 rfl rfl HT_ (by kernel_rfl) (by decide) (fun K hK => ?_)
  refine goes_ Tryd.func36 (by kernel_rfl) rfl #[.agg #[.int .i64 ((P : Int) + 1), .int .i64 1, .int .i64 1, .int .i64 64, .int .i64 22, .int .i64 (128 + 64 * (P : Int))], .int .i64 pg] (by rfl) rfl rfl (by (try simp only [List.map_toArray, List.map_cons, List.map_nil]); first | done | rfl) ?_
  refine (windrowref06_Map_Alloc.calls _ _ _ _ _ _ _ _ _ HAL.out).mono ?_
  rintro e w29 ⟨rfl, hb⟩
  replace H := Aside.mk (H.out.step hb)
  clear hb
  refine ⟨_, rfl, ?_⟩
  clear hHeld
  refine hK.out _ _ ⟨(H.out.pick 2 rfl).cell 0, (H.out.pick 2 rfl).cell 1, (H.out.pick 2 rfl).cell 2, (H.out.pick 2 rfl).cell 3, (H.out.pick 2 rfl).cell 4, (H.out.pick 2 rfl).cell 5⟩ (fun hHeld => ?_)
  clear hK K
  refine norm_ (a' := ?_) ?_ ?_
  rotate_left
  · show Act.put _ (some 236) _ = _
    simp only [nrm]
    rfl
  refine on_ 12 (some 245) 8191 rfl rfl HT_ (by kernel_rfl) (by decide) (fun K hK => ?_)
  refine goes_ Tryd.func37 (by kernel_rfl) rfl #[.pointer (some ⟨a, 0, none⟩), .int .i64 ia, .int .u64 (bits BinOp.or IntKind.u64 al pj)] (by rfl) rfl rfl (by (try simp only [List.map_toArray, List.map_cons, List.map_nil]); first | done | rfl) ?_
  refine (poken_ HX1L.out HIA.out H.out).mono ?_
  rintro e w30 ⟨rfl, h9⟩
  replace H : Aside (St w0 w30 (arB a gC nN lv true l.length 0 :: ceB gC (X1.set ia (bits BinOp.or IntKind.u64 al pj)) :: [blk dm #[.int .i64 ((P : Int) + 1), .int .i64 1, .int .i64 1, .int .i64 64, .int .i64 22, .int .i64 (128 + 64 * (P : Int))] 27, blk hb #[.int .i64 0, .int .i64 kd, .int .i64 nn] 73, blk g1 #[.int .i64 ((P : Int) + 1), .int .i64 1, .int .i64 1] 25])) := Aside.mk h9
  clear h9
  refine ⟨_, rfl, ?_⟩
  clear hHeld
  refine hK.out _ _ ⟨(H.out.pick 2 rfl).cell 0, (H.out.pick 2 rfl).cell 1, (H.out.pick 2 rfl).cell 2, (H.out.pick 2 rfl).cell 3, (H.out.pick 2 rfl).cell 4, (H.out.pick 2 rfl).cell 5⟩ (fun hHeld => ?_)
  clear hK K
  refine norm_ (a' := ?_) ?_ ?_
  rotate_left
  · show Act.put _ (some 245) _ = _
    simp only [nrm]
    rfl
  refine done_ (done_of HT_.out (by kernel_rfl)) ?_
  clear HT_ HW_ hHeld
  obtain ⟨nv, hnv⟩ : ∃ nv, bits BinOp.or IntKind.u64 al pj = nv := ⟨_, rfl⟩
  have HBS : Aside (0 ≤ nv ∧ nv < 18446744073709551616 ∧ nv / ((2 ^ j : Nat) : Int) % 2 = 1) := ⟨by rw [← hnv, HPJ.out]; exact bit_set al j HBK.out.hj HALR.out.1 HALR.out.2⟩
  rw [hnv] at H
  clear hnv
  obtain ⟨X2, hX2⟩ : ∃ X2, X2 = X1.set ia nv := ⟨_, rfl⟩
  rw [← hX2] at H
  have HX2L : Aside (X2.length = nN) := ⟨by rw [hX2, List.length_set]; exact HX1L.out⟩
  have HX2A : Aside (X2.getD ia 0 = nv) := ⟨by rw [hX2]; exact getD_eq (by rw [HX1L.out]; exact HIA.out)⟩
  have HX2N : Aside (∀ m, ia ≠ m → X2.getD m 0 = X1.getD m 0) := ⟨fun m hm => by rw [hX2]; exact getD_ne hm⟩
  clear hX2
  have HX2R : Aside (∀ i, 0 ≤ X2.getD i 0 ∧ X2.getD i 0 < 18446744073709551616) := ⟨rng_set HX2A.out HX2N.out HX1R.out ⟨HBS.out.1, HBS.out.2.1⟩⟩
  have HAI : Aside (22 + pg < aN ∧ ia < aN ∧ ia ≠ 22 + pg) := ⟨by have := HIAE.out; have := HBK.out.ha; have := HBK.out.hpg; have := HPp.out; omega⟩
  have HLK : Aside (lookR P X2 [] (aN : Int) = ((aN : Int), 0, kd, List.replicate nn 0, 0)) := ⟨back_look HBK.out HKD.out (X := X2) (al := nv) (by rw [HX2N.out _ HAI.out.2.2, HX1O.out _ (.inl HAI.out.1), HXE.out, HWE.out]) (by rw [← HIAE.out]; exact HX2A.out) HBS.out.1 HBS.out.2.1 HBS.out.2.2
    (by rw [HX2N.out _ (by have := HAI.out; omega), HX1H.out, HHD.out]) (fun q h1 h2 => by rw [HX2N.out _ (by have := HAI.out; omega)]; exact HX1Z.out q h1 h2)⟩
  clear HX2A HX2N HX1R HX1O HX1H HX1Z HWE HXE
  go_wp2_with (first
    | (go_at_call 22; refine (newnil_ H.out).mono ?_; rintro e w31 ⟨t, rfl, h9⟩; replace H : Aside (St w0 w31 (arB a gC nN lv true l.length 0 :: ceB gC X2 :: blk t #[.slice none 0 0, .slice none 0 0] 157 :: [blk dm #[.int .i64 ((P : Int) + 1), .int .i64 1, .int .i64 1, .int .i64 64, .int .i64 22, .int .i64 (128 + 64 * (P : Int))] 27, blk hb #[.int .i64 0, .int .i64 kd, .int .i64 nn] 73, blk g1 #[.int .i64 ((P : Int) + 1), .int .i64 1, .int .i64 1] 25])) := Aside.mk (h9.order 3 [1, 2, 0] rfl rfl); clear h9; have q0 := (H.out.pick 5 rfl).cell 0; have q1 := (H.out.pick 5 rfl).cell 1; have q2 := (H.out.pick 5 rfl).cell 2)
    | (go_at_call 15; refine (windrowlaw11_plan.calls _ _ _ _ _ _ _ P5.out).mono ?_; rintro e w32 ⟨rfl, hb⟩; replace H := Aside.mk (H.out.step hb); clear hb q0 q1 q2)
    | (go_at_call 23; refine (look0_ HPp.out HX2L.out HNN4.out HX2R.out HT0.out HLK.out H.out).mono ?_; rintro e w33 ⟨A5, c5, rfl, hc5, h9⟩; replace H := Aside.mk h9; clear h9; have HC5 := Aside.mk hc5; clear hc5)
    | (with_reducible refine stop_at (.store 60 (.tmp 37) (.tmp 258)) rfl ?_))
  replace H := Aside.mk (H.out.alloc #[.int .i64 0, .int .i64 0, .int .i64 0, .slice none 0 0] 60)
  generalize w33.heap.size = cb at H ⊢
  refine ⟨?_⟩
  refine st_store rfl rfl rfl [.int .i64 aN, .int .i64 0, .int .i64 kd, .slice A5 nn c5] #[.int .i64 aN, .int .i64 0, .int .i64 kd, .slice A5 nn c5] rfl rfl rfl (Nat.le_of_ble_eq_true rfl) (by simp [Value.oneCell']) H.out rfl ?_
  intro w34 h_
  replace H : Aside (St w0 w34 (blk cb #[.int .i64 aN, .int .i64 0, .int .i64 kd, .slice A5 nn c5] 60 :: row 2 1 (.slice A5 nn c5) nn (I64 (List.replicate nn 0)) :: [blk dm #[.int .i64 ((P : Int) + 1), .int .i64 1, .int .i64 1, .int .i64 64, .int .i64 22, .int .i64 (128 + 64 * (P : Int))] 27, blk hb #[.int .i64 0, .int .i64 kd, .int .i64 nn] 73, blk g1 #[.int .i64 ((P : Int) + 1), .int .i64 1, .int .i64 1] 25])) := Aside.mk h_
  clear h_ HLK HX2R HX2L
  have x0 := H.out.cell 0
  have x2 := H.out.cell 2
  have x3 := H.out.cell 3
  have x9 := (H.out.pick 3 rfl).cell 1
  have dz1 : ((aN : Int) != (aN : Int)) = false := by simp
  have dz2 : (kd != kd) = false := by simp
  have dz3 : ((nn : Int) != (nn : Int)) = false := by simp
  go_upto_block 4 with fail
  clear x0 x2 x3 x9 dz1 dz2 dz3
  go_cut [38] (fun v38 wc => Aside (St w0 wc (blk cb #[.int .i64 aN, .int .i64 0, .int .i64 kd, .slice A5 nn c5] 60 :: row 2 1 (.slice A5 nn c5) nn (I64 (List.replicate nn 0)) :: [blk dm #[.int .i64 ((P : Int) + 1), .int .i64 1, .int .i64 1, .int .i64 64, .int .i64 22, .int .i64 (128 + 64 * (P : Int))] 27, blk hb #[.int .i64 0, .int .i64 kd, .int .i64 nn] 73, blk g1 #[.int .i64 ((P : Int) + 1), .int .i64 1, .int .i64 1] 25])))
  case first =>
    as_aux_lemma =>
      go_wp2_with fail
      go_loopg [38] nn (fun m v38 w' => ∃ i : Nat, m = nn - i ∧ i ≤ nn ∧ v38 = .int .i64 i ∧ Aside (St w0 w' (blk cb #[.int .i64 aN, .int .i64 0, .int .i64 kd, .slice A5 nn c5] 60 :: row 2 1 (.slice A5 nn c5) nn (I64 (List.replicate nn 0)) :: [blk dm #[.int .i64 ((P : Int) + 1), .int .i64 1, .int .i64 1, .int .i64 64, .int .i64 22, .int .i64 (128 + 64 * (P : Int))] 27, blk hb #[.int .i64 0, .int .i64 kd, .int .i64 nn] 73, blk g1 #[.int .i64 ((P : Int) + 1), .int .i64 1, .int .i64 1] 25])))
      case atStart => exact ⟨0, rfl, Nat.zero_le _, rfl, H⟩
      case round =>
        clear H
        obtain ⟨i, rfl, hi, rfl, H⟩ := hrel
        by_cases hlt : i < nn
        · have d1 : decide ((i : Int) < (nn : Int)) = true := by simp; omega
          have n1 : (i : Int) < (nn : Int) := by omega
          have HI := Aside.mk hlt
          obtain ⟨gA, cA, e, _, _⟩ := (H.out.pick 1 rfl).row_some (by have := HI.out; omega)
          injection e with e1 _ e2
          subst e1 e2
          have x3 := H.out.cell 3
          have xi := zero_cell HI.out (H.out.pick 1 rfl)
          clear hi
          go_wp2_with fail
          go_roundg (nn - (i + 1))
          case measure => have := HI.out; omega
          case rel => exact ⟨i + 1, rfl, HI.out, by first | rfl | (have := HI.out; have := HNN.out; simp only [Value.int.injEq, true_and]; unfold wrap64; omega), H⟩
        · obtain rfl : i = nn := by omega
          have d1 : decide ((i : Int) < (i : Int)) = false := by simp
          have n1 : ¬ ((i : Int) < (i : Int)) := by omega
          clear hi hlt
          go_wp2
          go_meet
          case rel => exact H
  case rest =>
  clear H
  have H : Aside (St w0 wc (blk cb #[.int .i64 aN, .int .i64 0, .int .i64 kd, .slice A5 nn c5] 60 :: row 2 1 (.slice A5 nn c5) nn (I64 (List.replicate nn 0)) :: [blk dm #[.int .i64 ((P : Int) + 1), .int .i64 1, .int .i64 1, .int .i64 64, .int .i64 22, .int .i64 (128 + 64 * (P : Int))] 27, blk hb #[.int .i64 0, .int .i64 kd, .int .i64 nn] 73, blk g1 #[.int .i64 ((P : Int) + 1), .int .i64 1, .int .i64 1] 25])) := hcut
  clear hcut
  go_wp2_with fail
  replace H := Aside.mk H.out.drew
  refine start_ (n := 8) (S := fun w' => w'.cell? ⟨cb, 0, none⟩ = some (.int .i64 aN) ∧ w'.cell? ⟨cb, 1, none⟩ = some (.int .i64 0) ∧ w'.cell? ⟨cb, 2, none⟩ = some (.int .i64 kd) ∧ w'.cell? ⟨cb, 3, none⟩ = some (.slice A5 nn c5) ∧ w'.cell? ⟨hb, 1, none⟩ = some (.int .i64 kd)) (ds := []) (flg 8 0) (by kernel_rfl) rfl rfl (⟨H.out.cell 0, H.out.cell 1, H.out.cell 2, H.out.cell 3, (H.out.pick 3 rfl).cell 1⟩) (fun hHeld => ?_)
  refine with_tabW bk.tab56 bk.bits56 (fun HT_ HW_ => ?_)
  refine tk_ (v := ?_) (a' := ?_) 0 (some 293) 1 rfl rfl HT_ HW_ (by kernel_rfl) (.inl ⟨by rfl, ?_⟩) hHeld ?_ ?_; rotate_left 2; (· rintro w' ⟨_, _, _, _, _⟩; go_simp; with_reducible rfl); (· simp only [nrm]; rfl)
  refine pu_ (v := ?_) (a' := ?_) 2 (some 295) 5 rfl rfl HT_ (by kernel_rfl) (.inl ⟨by rfl, ?_⟩) ?_ ?_; rotate_left 2; (· intro w'; go_simp; with_reducible rfl); (· simp only [nrm]; rfl)
  refine tk_ (v := ?_) (a' := ?_) 3 (some 296) 13 rfl rfl HT_ HW_ (by kernel_rfl) (.inl ⟨by rfl, ?_⟩) hHeld ?_ ?_; rotate_left 2; (· rintro w' ⟨_, _, _, _, _⟩; go_simp; with_reducible rfl); (· simp only [nrm]; rfl)
  refine pu_ (v := ?_) (a' := ?_) 4 (some 297) 29 rfl rfl HT_ (by kernel_rfl) (.inl ⟨by rfl, ?_⟩) ?_ ?_; rotate_left 2; (· intro w'; go_simp; with_reducible rfl); (· simp only [nrm]; rfl)
  refine pu_ (v := ?_) (a' := ?_) 5 (some 298) 61 rfl rfl HT_ (by kernel_rfl) (.inl ⟨by rfl, ?_⟩) ?_ ?_; rotate_left 2; (· intro w'; go_simp; with_reducible rfl); (· simp only [nrm]; rfl)
  refine on_ 1 (some 294) 63 rfl rfl HT_ (by kernel_rfl) (by decide) (fun K hK => ?_)
  refine goes_ Tryd.func38 (by kernel_rfl) rfl #[.agg #[.int .i64 aN, .int .i64 0, .int .i64 kd, .slice A5 nn c5]] (by rfl) rfl rfl (by (try simp only [List.map_toArray, List.map_cons, List.map_nil]); first | done | rfl) ?_
  refine (head_n (by have := HNN.out; omega) HC5.out (H.out.pick 1 rfl)).mono ?_
  rintro e w35 ⟨rfl, hb⟩
  replace H := Aside.mk (H.out.step hb)
  clear hb
  refine ⟨_, rfl, ?_⟩
  clear hHeld
  refine hK.out _ _ ⟨H.out.cell 0, H.out.cell 1, H.out.cell 2, H.out.cell 3, (H.out.pick 3 rfl).cell 1⟩ (fun hHeld => ?_)
  clear hK K
  refine norm_ (a' := ?_) ?_ ?_
  rotate_left
  · show Act.put _ (some 294) _ = _
    simp only [nrm]
    rfl
  refine pu_ (v := ?_) (a' := ?_) 6 (some 299) 127 rfl rfl HT_ (by kernel_rfl) (.inl ⟨by rfl, ?_⟩) ?_ ?_; rotate_left 2; (· intro w'; go_simp; with_reducible rfl); (· simp only [nrm]; rfl)
  refine pu_ (v := ?_) (a' := ?_) 7 (some 2) 255 rfl rfl HT_ (by kernel_rfl) (.inl ⟨by rfl, ?_⟩) ?_ ?_; rotate_left 2; (· intro w'; go_simp; with_reducible rfl); (· simp only [nrm]; rfl)
  refine done_ (done_of HT_.out (by kernel_rfl)) ?_
  clear HT_ HW_ hHeld
  go_wp2
  go_ret
  exact ⟨by simp, H.out.below⟩
end Go.Proofs.YtelfiegocdjnoaaDoor.Ar
