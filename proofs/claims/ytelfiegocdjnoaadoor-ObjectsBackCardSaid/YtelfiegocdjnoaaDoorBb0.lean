/- Parts for the walk of ObjectsBack: an empty slice literal; what is appended to it; a build's round of whoever's port. Conditions: a plan of at most five pages. -/
import Derived.Test.YtelfiegocdjnoaaDoorBa1
import Derived.Test.YtelfiegocdjnoaaDoorLk4
import Derived.Test.YtelfiegocdjnoaaDoorCn0
import Derived.Test.YtelfiegocdjnoaaDoorIm0
import Derived.Test.YtelfiegocdjnoaaDoorOb11
import Derived.Test.YtelfiegocdjnoaaDoorOb5
import Derived.Test.YtelfiegocdjnoaaDoorMrF0
import Derived.Test.YtelfiegocdjnoaaDoorMrF1
namespace Go.Proofs.YtelfiegocdjnoaaDoor.Ar
open Go Go.RowKit Go.Proofs.YtelfiegocdjnoaaDoor.Sep Go.Proofs.YtelfiegocdjnoaaDoor.Pg Go.Proofs.YtelfiegocdjnoaaDoorW.PrintWords Go.Proofs.YtelfiegocdjnoaaDoorW.PrintLast Go.Proofs.YtelfiegocdjnoaaDoorW.PrintMore Go.Proofs.YtelfiegocdjnoaaDoor.Q
set_option linter.unusedVariables false
set_option linter.unusedSimpArgs false
set_option maxHeartbeats 8000000
set_option maxRecDepth 100000
theorem lit_row {w0 w : World} {F : List HP} {g size : Nat} {e : TypeId} (h : St w0 w (blk g #[] e :: F)) : St w0 w (row e size (.slice (some ⟨g, 0, none⟩) 0 0) 0 [] :: F) := by
  refine h.mono fun {S} hS => ⟨fun k => ?_, .inr ⟨g, #[], (0, 0), rfl, Nat.zero_le _, hS.2, by simp [maxLen], by simp, rfl⟩⟩
  rw [hS.1 k]
  simp [Value.ownBlock]
  exact eq_comm
/-- append(s, t...) to an empty one, as one step of a region that draws its order: t nil, too. -/
theorem append_any_step {P : Program} {ops : Array Oper} {o : Oper} {a : Act} {Q : Exit → Act → World → Prop} {w0 W : World} {F : List HP} {K : Act → World → Prop} {E : Prop} (hgd : o.guard = none) (s x : Operand) (t e : TypeId) (z : Value) (size bytes : Nat)
    (ho : o.op = .call { callee := .builtin .append, args := #[s, x], argTypes := #[t, t] })
    (ht : P.underlying t = some (.slice e)) (hinfo : (P.info? e).map (fun i => (i.zero, i.size, i.bytes)) = some (some z, size, bytes)) (hz : z.cells.size = size) (hsz : 0 < size) (hb0 : 0 < bytes)
    (v : Value) (n : Nat) (xs : List Value) (hs : a.eval s = v) (A : Option Addr) (m c : Nat) (ys : List Value) (hx : a.eval x = .slice A m c) (hyl : ys.length = m * size)
    (hys : ∀ ad, A = some ad → ∀ j u, ys[j]? = some u → W.cell? (ad.add j) = some u) (hA : A = none → m = 0) (h1 : ∀ u ∈ ys, u.oneCell' = true)
    (H1 : St w0 W (row e size v n xs :: F)) (hl : (n + m) * bytes ≤ 140737488355328)
    (h : ∀ A1 c1 w1, n + m ≤ c1 → St w0 w1 (row e size (.slice A1 (n + m) c1) (n + m) (xs ++ ys) :: F) → K (a.put o.dst (.slice A1 (n + m) c1)) w1) :
    if Region.wanted o (yielded ops a.tmps) = true then Oper.wp P o a W K Q else E := by
  cases A with
  | some ad => exact append_run_step hgd s x t e z size bytes ho ht hinfo hz hsz hb0 v n xs hs ad m c ys hx hyl (hys ad rfl) h1 H1 hl h
  | none =>
    obtain rfl := hA rfl
    obtain rfl : ys = [] := List.eq_nil_of_length_eq_zero (by rw [hyl]; simp)
    have hw : Region.wanted o (yielded ops a.tmps) = true := by simp [Region.wanted, hgd]
    rw [if_pos hw]
    obtain ⟨i0, hi, hzz⟩ := Option.map_eq_some_iff.1 hinfo
    obtain ⟨A1, c1, rfl, hc, _⟩ := H1.row_slice
    have hr : (Builtin.append_ #[t, t] o.type #[.slice A1 n c1, .slice none 0 c]).run P W = .ok (.slice A1 n c1) W := by
      cases A1 with
      | none => simp [Builtin.append_, run_underlying ht, sizeOf, typeInfo, hi, Builtin.lenOf, Builtin.firstCells, hc]
      | some ad => simp [Builtin.append_, run_underlying ht, sizeOf, typeInfo, hi, Builtin.lenOf, Builtin.firstCells, hc, storeCells]
    unfold Oper.wp execOp
    simp only [ho, resolve, invoke, builtin, Sem.run_bind, Sem.run_pure, Result.andThen_ok, List.map_toArray, List.map_cons, List.map_nil, hs, hx, hr]
    refine h A1 c1 W hc ?_
    rw [List.append_nil]
    exact H1
theorem _root_.Go.Proofs.YtelfiegocdjnoaaDoor.Sep.St.drop {w0 w : World} {L : List HP} (h : St w0 w L) (n : Nat) : St w0 w (L.take n) := by
  have h2 : St w0 w (L.drop n ++ L.take n) := h.perm (by have e := List.perm_append_comm (l₁ := L.take n) (l₂ := L.drop n); rw [List.take_append_drop] at e; exact e)
  generalize L.take n = B at h2 ⊢
  generalize L.drop n = A at h2
  induction A with
  | nil => exact h2
  | cons x a ih => exact ih h2.rest
theorem rng_snoc {L : List (Int × Int)} {k : Nat} {a v : Int} (h : ∀ p ∈ L, 0 ≤ p.2 ∧ p.2 < 18446744073709551616) (hv : 0 ≤ v ∧ v < 18446744073709551616) : ∀ p ∈ L.take k ++ [(a, v)], 0 ≤ p.2 ∧ p.2 < 18446744073709551616 := by
  intro p hp
  rcases List.mem_append.1 hp with hp | hp
  · exact h p (List.mem_of_mem_take hp)
  · rw [List.mem_singleton] at hp
    subst hp
    exact hv
theorem info34 : (Tryd.prog.info? 34).map (fun i => (i.zero, i.size, i.bytes)) = some (some (.agg #[.int .i64 0, .int .u64 0]), 2, 16) := by kernel_rfl
/-- Words, as cells. -/
abbrev wds (L : List (Int × Int)) : List Value := L.flatMap fun p => [.int .i64 p.1, .int .u64 p.2]
theorem wds_len (L : List (Int × Int)) : (wds L).length = L.length * 2 := by
  induction L with
  | nil => rfl
  | cons p l ih => simp only [wds, List.flatMap_cons, List.length_append, List.length_cons, List.length_nil] at ih ⊢; omega
theorem wds_one (L : List (Int × Int)) : ∀ u ∈ wds L, u.oneCell' = true := by
  intro u hu
  obtain ⟨p, _, hp⟩ := List.mem_flatMap.1 hu
  simp at hp
  rcases hp with rfl | rfl <;> rfl
theorem wds_at : ∀ (L : List (Int × Int)) (i : Nat), i < L.length → (wds L)[i * 2]? = some (.int .i64 (L.getD i (0, 0)).1) ∧ (wds L)[i * 2 + 1]? = some (.int .u64 (L.getD i (0, 0)).2)
  | [], i, h => by simp at h
  | p :: l, 0, _ => ⟨rfl, rfl⟩
  | p :: l, i + 1, h => by
    have := wds_at l i (by simpa using h)
    rw [show (i + 1) * 2 = i * 2 + 1 + 1 by omega]
    exact this
theorem add_add (ad : Addr) (n : Nat) : ((ad.add n).block = ad.block) ∧ (ad.add n).off = ad.off + n := by unfold Addr.add; split <;> simp_all
theorem wds_row {w0 w : World} {F : List HP} {A : Option Addr} {n c : Nat} {M : List (Int × Int)} (hn : M.length = n) (h : St w0 w (row 34 2 (.slice A n c) n (wds M) :: F)) : ∀ i, i < M.length → ∃ ad, A = some ad ∧ w.cell? (ad.add (i * 2)) = some (.int .i64 (M.getD i (0, 0)).1) ∧ w.cell? ⟨(ad.add (i * 2)).block, (ad.add (i * 2)).off + 1, none⟩ = some (.int .u64 (M.getD i (0, 0)).2) := by
  intro i hi
  obtain ⟨g, c', e, _, hc⟩ := h.row_some (by omega)
  injection e with e1 _ _
  subst e1
  have := wds_at M i hi
  refine ⟨_, rfl, ?_, ?_⟩
  · rw [add0]; exact hc _ _ this.1
  · rw [add0]; exact hc _ _ this.2
theorem wds_at0 {w0 w : World} {A : Option Addr} {L : List (Int × Int)} {k : Nat} (hL : ∀ i, i < L.length → ∃ ad, A = some ad ∧ w0.cell? (ad.add (i * 2)) = some (.int .i64 (L.getD i (0, 0)).1) ∧ w0.cell? ⟨(ad.add (i * 2)).block, (ad.add (i * 2)).off + 1, none⟩ = some (.int .u64 (L.getD i (0, 0)).2)) (hb : Below w0.heap.size w0 w) :
    ∀ ad, A = some ad → ∀ j u, (wds (L.take k))[j]? = some u → w.cell? (ad.add j) = some u := by
  rintro ad rfl j u hj
  have hjl : j < (wds (L.take k)).length := by
    by_cases h : j < (wds (L.take k)).length
    · exact h
    · rw [List.getElem?_eq_none (by omega)] at hj; cases hj
  rw [wds_len, List.length_take] at hjl
  obtain ⟨i, r, hr, rfl⟩ : ∃ i r, r < 2 ∧ j = i * 2 + r := ⟨j / 2, j % 2, by omega, by omega⟩
  have hi : i < (L.take k).length := by rw [List.length_take]; omega
  have hiL : i < L.length := by omega
  obtain ⟨ad', e, h0, h1⟩ := hL i hiL
  injection e with e
  subst e
  have hg : (L.take k).getD i (0, 0) = L.getD i (0, 0) := by
    have : i < k := by omega
    simp [List.getD_eq_getElem?_getD, List.getElem?_take, this]
  have hw := wds_at (L.take k) i hi
  rw [hg] at hw
  match r, hr with
  | 0, _ =>
    rw [Nat.add_zero] at hj ⊢
    rw [hw.1] at hj
    injection hj with hj
    subst hj
    exact pw_cell_below hb h0
  | 1, _ =>
    rw [hw.2] at hj
    injection hj with hj
    subst hj
    have e2 : ad.add (i * 2 + 1) = ⟨(ad.add (i * 2)).block, (ad.add (i * 2)).off + 1, none⟩ := by
      unfold Addr.add
      split <;> split <;> simp_all
      all_goals first | omega | (intro h; omega)
    rw [e2]
    exact pw_cell_below hb h1
theorem pow_wrap {j : Nat} (hj : j < 64) : IntKind.u64.wrap (2 ^ min j 64) = ((2 ^ j : Nat) : Int) := by
  have e : min j 64 = j := by omega
  rw [e]
  have hp : 2 ^ j < 18446744073709551616 := Nat.lt_of_lt_of_le (Nat.pow_lt_pow_right (by decide) hj) (by decide)
  have e2 : ((2 : Int) ^ j) = ((2 ^ j : Nat) : Int) := by push_cast; rfl
  rw [e2]
  generalize 2 ^ j = q at hp
  exact wu _ (by omega) (by omega)
theorem rng_set {X Y : List Int} {a : Nat} {v : Int} (h1 : Y.getD a 0 = v) (h2 : ∀ m, a ≠ m → Y.getD m 0 = X.getD m 0) (h : ∀ i, 0 ≤ X.getD i 0 ∧ X.getD i 0 < 18446744073709551616) (hv : 0 ≤ v ∧ v < 18446744073709551616) : ∀ i, 0 ≤ Y.getD i 0 ∧ Y.getD i 0 < 18446744073709551616 := by
  intro i
  by_cases hi : a = i
  · subst hi; rw [h1]; exact hv
  · rw [h2 i hi]; exact h i
theorem wds_snoc (L : List (Int × Int)) (a v : Int) : wds L ++ [.int .i64 a, .int .u64 v] = wds (L ++ [(a, v)]) := by simp [wds]
theorem layS_last {N : Nat} {L : List (Int × Int)} {v : Int} {a : Nat} (hL : L.length ≤ 200) (ha : a < N) (hN : N ≤ 4096) : (layS N (min 300 (L ++ [((a : Int), v)]).length) (L ++ [((a : Int), v)])).getD a 0 = v := by
  have e1 : min 300 (L ++ [((a : Int), v)]).length = (L ++ [((a : Int), v)]).length := by simp; omega
  rw [e1]
  unfold layS
  rw [List.take_length, List.foldl_append]
  have e2 : posN N (a : Int) = a := by
    have h1 := posN_is N (a : Int) (by omega)
    rw [wu _ (by omega) (by omega), Int.tmod_eq_of_lt (by omega) (by omega)] at h1
    omega
  simp only [List.foldl_cons, List.foldl_nil, e2]
  have e3 : ∀ (M : List (Int × Int)) (X : List Int), (M.foldl (fun X p => X.set (posN N p.1) p.2) X).length = X.length := by
    intro M
    induction M with
    | nil => intro X; rfl
    | cons p l ih => intro X; rw [List.foldl_cons, ih, List.length_set]
  exact getD_eq (by rw [e3, List.length_replicate]; exact ha)
section
variable {w0 w : World} {F : List HP} {p a gC b nN : Nat} {X : List Int} {l : List Acc} {lv : Value} {who : Int}
theorem broundw_ {j nn aN na : Nat} {hd np : Int} {ob : Bool} (hX : X.length = nN) (ha : aN + nn < nN) (hN : nN ≤ 4096) (hl : l.length ≤ 1000) (hj : j ≤ nn) (hna : na = if j < nn then aN + (nn - j) else aN) (hnp : np = if j < nn then 0 else hd) (hob : ob = decide (j = nn))
    (h : St w0 w (poB p a who true :: arB a gC nN lv true l.length 0 :: ceB gC X :: row 98 7 lv l.length (accs l) :: bdB b aN hd ((nn - j : Nat) : Int) false :: F)) :
    Calls Tryd.prog 18 #[.pointer (some ⟨b, 0, none⟩), .pointer (some ⟨p, 0, none⟩)] w fun e w' => ∃ lv' l', e = .returned (.bool ob) ∧ l'.length = l.length + 1 ∧
      St w0 w' (poB p a who false :: arB a gC nN lv' true l'.length 0 :: ceB gC (X.set na np) :: row 98 7 lv' l'.length (accs l') :: bdB b aN hd ((nn - (j + 1) : Nat) : Int) ob :: F) := by
  subst hX
  have e3 : (((l ++ [(⟨who, 2, na, 0, np, X.getD na 0, np⟩ : Acc)]).length : Nat) : Int) = (l.length : Int) + 1 := by simp
  by_cases hlt : j < nn
  · rw [if_pos hlt] at hna hnp
    have hob2 : ob = false := by rw [hob]; simp; omega
    subst hob2
    obtain ⟨k, hk⟩ : ∃ k, nn - j = k + 1 := ⟨nn - j - 1, by omega⟩
    rw [hk] at h hna
    subst hna hnp
    refine (bstep_more (i := aN) (k := k) (X := X) (l := l) (cn := (l.length : Nat)) (fl := 0) (who := who) (by omega) hN (by omega) (by omega) (by omega) (by push_cast at h ⊢; exact h)).mono ?_
    rintro e w' ⟨lv', rfl, h9⟩
    refine ⟨lv', l ++ [(⟨who, 2, ((aN + (k + 1) : Nat) : Int), 0, 0, X.getD (aN + (k + 1)) 0, 0⟩ : Acc)], rfl, by simp, ?_⟩
    change St w0 w' (poB p a who false :: arB a gC (X.set (aN + (k + 1)) 0).length lv' true ((l.length : Int) + 1) 0 :: ceB gC (X.set (aN + (k + 1)) 0) :: row 98 7 lv' _ (accs _) :: bdB b aN hd k false :: F) at h9
    rw [List.length_set] at h9
    rw [show nn - (j + 1) = k by omega]
    rw [← e3] at h9
    exact h9
  · rw [if_neg hlt] at hna hnp
    obtain rfl : j = nn := by omega
    have hob2 : ob = true := by rw [hob]; simp
    subst hob2
    subst hna hnp
    rw [Nat.sub_self] at h
    refine (bstep_last (i := na) (X := X) (l := l) (cn := (l.length : Nat)) (fl := 0) (who := who) (by omega) hN (by omega) (by omega) (by omega) h).mono ?_
    rintro e w' ⟨lv', rfl, h9⟩
    refine ⟨lv', l ++ [(⟨who, 2, na, 0, np, X.getD na 0, np⟩ : Acc)], rfl, by simp, ?_⟩
    change St w0 w' (poB p a who false :: arB a gC (X.set na np).length lv' true ((l.length : Int) + 1) 0 :: ceB gC (X.set na np) :: row 98 7 lv' _ (accs _) :: bdB b na np 0 true :: F) at h9
    rw [List.length_set] at h9
    rw [show j - (j + 1) = 0 by omega]
    rw [← e3] at h9
    exact h9
theorem imagen_ (hX : X.length = nN) (h0 : 0 < nN) (hN : nN ≤ 4096) {cn fl : Int} (h : St w0 w (arB a gC nN lv true cn fl :: ceB gC X :: F)) :
    Calls Tryd.prog 34 #[.pointer (some ⟨a, 0, none⟩)] w fun e w' => ∃ g9 c9, e = .returned (.slice (some ⟨g9, 0, none⟩) nN c9) ∧ nN ≤ c9 ∧ St w0 w' (row 22 1 (.slice (some ⟨g9, 0, none⟩) nN c9) nN (U X) :: arB a gC nN lv true cn fl :: ceB gC X :: F) := by
  subst hX
  refine (image_ hN h).mono ?_
  rintro e w' ⟨V, rfl, h9⟩
  obtain ⟨g, c, rfl, hc, _⟩ := h9.row_some h0
  exact ⟨g, c, rfl, hc, h9⟩
theorem lay_m {A : Option Addr} {n c P : Nat} {M : List (Int × Int)} (hP : P < 5) (hN : nN = 128 + 64 * P) (hM : M.length = n) (h : St w0 w (row 34 2 (.slice A n c) n (wds M) :: F)) :
    Calls Tryd.prog 13 #[.agg #[.int .i64 ((P : Int) + 1), .int .i64 1, .int .i64 1], .slice A n c] w fun e w' => ∃ a gC gD, e = .returned (.tuple #[.pointer (some ⟨a, 0, none⟩), .slice (some ⟨gD, 0, none⟩) nN nN, .bool true]) ∧ St w0 w' (arB a gC nN (.slice none 0 0) true 0 0 :: ceB gC (layS nN (min 300 M.length) M) :: F) := by
  have hc : windrowref06_Cells.f 1000 ((P : Int) + 1) 1 1 = some (nN : Int) := by
    have := pl_ncells ⟨P, hP⟩
    rw [hN]; simp only at this; rw [this]; push_cast; rfl
  have hr := wds_row hM h
  subst hM
  refine (lay_ hc (by omega) (by omega) A c M w hr).mono ?_
  rintro e w' ⟨a, gC, gD, rfl, h9⟩
  exact ⟨a, gC, gD, rfl, ((h.rest.join h9).pick 2 rfl).rest⟩
theorem img_cell {g c : Nat} (hX : X.length = nN) (h : St w0 w (row 22 1 (.slice (some ⟨g, 0, none⟩) nN c) nN (U X) :: F)) {i : Nat} (hi : i < nN) : w.cell? ⟨g, i, none⟩ = some (.int .u64 (X.getD i 0)) := by
  obtain ⟨g', c', e, _, hc⟩ := h.row_some (by omega)
  injection e with e1 _ _
  injection e1 with e1
  injection e1 with e1
  subst e1
  refine hc i _ ?_
  subst hX
  simp [U, List.getD_eq_getElem?_getD, hi]
theorem peekn_ {cn fl v : Int} {i : Nat} (hX : X.length = nN) (hi : i < nN) (hv : X.getD i 0 = v) (h : St w0 w (arB a gC nN lv true cn fl :: ceB gC X :: F)) :
    Calls Tryd.prog 19 #[.pointer (some ⟨a, 0, none⟩), .int .i64 i] w fun e w' => e = .returned (.tuple #[.int .u64 v, .int .i64 0]) ∧ w' = w := by
  subst hX
  exact peekv_ i v hi hv h
theorem poken_ {cn fl v : Int} {i : Nat} (hX : X.length = nN) (hi : i < nN) (h : St w0 w (arB a gC nN lv true cn fl :: ceB gC X :: F)) :
    Calls Tryd.prog 37 #[.pointer (some ⟨a, 0, none⟩), .int .i64 i, .int .u64 v] w fun e w' => e = .returned (.int .i64 0) ∧ St w0 w' (arB a gC nN lv true cn fl :: ceB gC (X.set i v) :: F) := by
  subst hX
  refine (poke_yes i v hi h).mono ?_
  rintro e w' ⟨rfl, h9⟩
  rw [List.length_set] at h9
  exact ⟨rfl, h9⟩
theorem head_n {nn c : Nat} {A : Option Addr} {at_ kd : Int} (hn : nn ≤ 4096) (hc : nn ≤ c) (h : St w0 w (row 2 1 (.slice A nn c) nn (I64 (List.replicate nn 0)) :: F)) :
    Calls Tryd.prog 38 #[.agg #[.int .i64 at_, .int .i64 0, .int .i64 kd, .slice A nn c]] w fun e w' => e = .returned (.agg #[.int .i64 0, .int .i64 kd, .int .i64 nn]) ∧ Below w.heap.size w w' := by
  have hl : (List.replicate nn (0 : Int)).length = nn := List.length_replicate ..
  have hC : Kd.C (Kd.int .i64) w A (List.replicate nn (0 : Int)).length (List.replicate nn 0) := C_i64 (by rw [hl]; exact hn) (by rw [hl]; exact h)
  have e := objects_Head.calls at_ 0 kd A c (List.replicate nn 0) 0 kd (nn : Int) w hC (by rw [hl]; exact hc) (by unfold objects_Head.f; rw [hl])
  rw [hl] at e
  exact e
theorem zero_cell {nn c i : Nat} {g : Nat} (hi : i < nn) (h : St w0 w (row 2 1 (.slice (some ⟨g, 0, none⟩) nn c) nn (I64 (List.replicate nn 0)) :: F)) : w.cell? ⟨g, i, none⟩ = some (.int .i64 0) := by
  obtain ⟨g', c', e, _, hc⟩ := h.row_some (by omega)
  injection e with e1 _ _
  injection e1 with e1
  injection e1 with e1
  subst e1
  exact hc i _ (by simp [I64, hi])
theorem look0_ {P t nn : Nat} {at_ kd cn fl : Int} (hP : P < 5) (hX : X.length = nN) (hN : nN = 128 + 64 * P) (hr : ∀ i, 0 ≤ X.getD i 0 ∧ X.getD i 0 < 18446744073709551616) (hT : Tab w0) (hR : lookR P X [] at_ = (at_, 0, kd, List.replicate nn 0, 0))
    (h : St w0 w (arB a gC nN lv true cn fl :: ceB gC X :: blk t #[.slice none 0 0, .slice none 0 0] 157 :: F)) :
    Calls Tryd.prog 23 #[.pointer (some ⟨a, 0, none⟩), .agg #[.int .i64 ((P : Int) + 1), .int .i64 1, .int .i64 1], .pointer (some ⟨t, 0, none⟩), .int .i64 at_] w fun e w' => ∃ A c, e = .returned (.tuple #[.agg #[.int .i64 at_, .int .i64 0, .int .i64 kd, .slice A nn c], .int .i64 0]) ∧ nn ≤ c ∧ St w0 w' (row 2 1 (.slice A nn c) nn (I64 (List.replicate nn 0)) :: F) := by
  subst hX
  have h2 : St w0 w (arB a gC X.length lv true cn fl :: ceB gC X :: tbB t (.slice none 0 0) (.slice none 0 0) :: tbR (.slice none 0 0) [] :: F) := (h.nil_row 161 2).order 4 [1, 2, 3, 0] rfl rfl
  have e := look_c hP hN hr at_ hT h2
  rw [show ([] : List Cl).map Cl.n = [] from rfl, hR] at e
  simp only [List.length_replicate] at e
  refine e.mono ?_
  rintro e w' ⟨V, rfl, h9⟩
  obtain ⟨A, c, rfl, hc, _⟩ := h9.row_slice
  exact ⟨A, c, rfl, hc, (h9.order 5 [1, 2, 3, 4, 0] rfl rfl).rest.rest.rest.rest⟩
end
end Go.Proofs.YtelfiegocdjnoaaDoor.Ar
