/- A claim of a page, plain: what it is, its steps, what it comes to. No memory. Conditions: the plan is right. -/
import Derived.Test.YtelfiegocdjnoaaDoorMa0
namespace Go.Proofs.YtelfiegocdjnoaaDoor.Ar
open Go Go.RowKit Go.Proofs.YtelfiegocdjnoaaDoor.Sep Go.Proofs.YtelfiegocdjnoaaDoor.Pg Go.Proofs.YtelfiegocdjnoaaDoorW.PrintWords Go.Proofs.YtelfiegocdjnoaaDoorW.PrintLast Go.Proofs.YtelfiegocdjnoaaDoorW.PrintMore Go.Proofs.YtelfiegocdjnoaaDoor.Q
set_option linter.unusedVariables false
set_option linter.unusedSimpArgs false
set_option maxRecDepth 100000
theorem cset (X : List Int) (i j : Nat) (v : Int) (hi : i < X.length) : (X.set i v).getD j 0 = if i = j then v else X.getD j 0 := by
  rw [List.getD_eq_getElem?_getD, List.getD_eq_getElem?_getD, List.getElem?_set]
  by_cases h : i = j
  · subst h; simp [hi]
  · simp [h]
theorem cset_ne (X : List Int) {i j : Nat} (v : Int) (h : i ≠ j) : (X.set i v).getD j 0 = X.getD j 0 := by
  rw [List.getD_eq_getElem?_getD, List.getD_eq_getElem?_getD, List.getElem?_set]
  simp [h]
theorem decW {k c s o y : Int} (h : isE k c s o y = true) : dec (wordOf k c s o y) = (k, c, s, o, y, 0) := by
  have hl := isE_le h
  unfold dec
  have e1 : wordOf k c s o y % 4 = k := by unfold wordOf; omega
  have e2 : wordOf k c s o y / 4 % 16 = c := by unfold wordOf; omega
  have e3 : wordOf k c s o y / 64 % 4 = s := by unfold wordOf; omega
  have e4 : wordOf k c s o y / 256 % 16 = o := by unfold wordOf; omega
  have e5 : wordOf k c s o y / 65536 % 4294967296 = y := by unfold wordOf; omega
  simp only [e1, e2, e3, e4, e5]
  rw [if_pos ⟨h, trivial⟩]
/-- The words at which cells of n words begin; those of a class; those that aren't allocated. -/
def bgnN (n : Nat) : List Nat := (List.range 64).filter fun i => decide (i % n = 0 ∧ i + n ≤ 64)
def bgn (c : Int) : List Nat := bgnN ([2, 3, 4, 6, 8, 12, 16, 32].getD c.toNat 64)
def frees (c a : Int) : List Nat := (bgn c).filter fun i => !a.toNat.testBit i
def room (c a : Int) : Nat := (frees c a).length
/-- Who claims: the plan, the thread, the cycle, the class. -/
structure Cp where
  (P T : Nat) (t cyc cls : Int)
/-- A claim's fields. -/
structure Cl where
  (rd at_ : Int) (pg : Nat) (was k c st o y : Int) (sw : Option Sw) (alloc : Int) (got : Bool)
structure Cp.Right (q : Cp) : Prop where
  (hP : q.P < 5) (hT : q.T < 3) (ht : 0 ≤ q.t ∧ q.t < 6) (hy : 0 ≤ q.cyc ∧ q.cyc ≤ 4294967295) (hc : 0 ≤ q.cls ∧ q.cls < 8)
/-- The entry of a page that it has. -/
def Cp.word (q : Cp) : Int := wordOf 1 q.cls 1 q.t q.cyc
theorem Cp.Right.isE {q : Cp} (h : q.Right) : isE 1 q.cls 1 q.t q.cyc = true := by
  have h1 := h.ht; have h2 := h.hy; have h3 := h.hc
  have ho : Pg.own 1 1 q.t = true := by
    unfold Pg.own
    rw [if_neg (by decide), if_pos rfl, if_pos h1]; rfl
  unfold Pg.isE
  rw [ho, if_neg (fun hh => by rcases hh with hh | hh | hh <;> first | omega | cases hh), if_pos rfl]
  simpa using h3
def Cl.next (q : Cp) (x : Cl) : Cl :=
  if x.pg + 1 < q.P + 1 then { x with pg := x.pg + 1, at_ := if x.rd = 2 then 8 else if x.rd = 3 then 9 else 0, sw := none }
  else { x with pg := 0, rd := x.rd + 1, at_ := if x.rd + 1 = 2 then 8 else if x.rd + 1 = 3 then 9 else 0, sw := none }
def Cl.seen (x : Cl) (v : Int) : Cl := { x with was := v, k := (dec v).1, c := (dec v).2.1, st := (dec v).2.2.1, o := (dec v).2.2.2.1, y := (dec v).2.2.2.2.1 }
def rdyE (k c s y cls cyc : Int) : Bool := (k == 1) && (s == 0) && (c == cls) && (y == cyc)
def Cl.ask (q : Cp) (x : Cl) (v : Int) : Cl :=
  if x.rd = 1 ∧ v = 0 then { x.seen v with at_ := 5 }
  else if x.rd = 0 ∧ (dec v).2.2.2.2.2 = 0 ∧ rdyE (dec v).1 (dec v).2.1 (dec v).2.2.1 (dec v).2.2.2.2.1 q.cls q.cyc = true then { x.seen v with at_ := 1 }
  else if x.rd = 0 ∧ (dec v).2.2.2.2.2 = 0 ∧ dueE (dec v).1 (dec v).2.2.1 (dec v).2.2.2.2.1 q.cyc = true ∧ (dec v).1 = 1 ∧ (dec v).2.1 = q.cls then { x.seen v with at_ := 4 }
  else (x.seen v).next q
/-- The sweep that it makes a step of. -/
def Cl.swp (q : Cp) (x : Cl) : Sw := match x.sw with | some y => y | none => sw0 q.P q.T q.t q.cyc x.pg
/-- It, behind a step of that. -/
def Cl.swept (q : Cp) (x : Cl) (y : Sw) : Cl :=
  if y.at_ = 8 then
    if x.rd = 0 ∧ y.swept = true ∧ y.empty = false then { x with at_ := 0, sw := none }
    else if x.rd = 2 ∧ y.swept = true ∧ y.empty = true then { x with at_ := 5, sw := none }
    else x.next q
  else { x with sw := some y }
/-- The access that it makes next. -/
def Cl.acc (q : Cp) (x : Cl) : Int × Nat × Int × Int :=
  if x.at_ = 0 then (1, adr q.P q.T 0 x.pg, 0, 0)
  else if x.at_ = 1 then (4, adr q.P q.T 0 x.pg, x.was, q.word)
  else if x.at_ = 2 then (1, adr q.P q.T 1 x.pg, 0, 0)
  else if x.at_ = 3 then (2, adr q.P q.T 0 x.pg, 0, wordOf x.k x.c 0 0 q.cyc)
  else if x.at_ = 5 then (4, adr q.P q.T 0 x.pg, 0, q.word)
  else if x.at_ = 6 then (2, adr q.P q.T 1 x.pg, 0, 0)
  else if x.at_ = 7 then (2, adr q.P q.T 2 x.pg, 0, 0)
  else (x.swp q).acc q.P q.T x.pg
/-- It, behind that access. -/
def Cl.aft (q : Cp) (x : Cl) (v : Int) : Cl :=
  if x.at_ = 0 then x.ask q v
  else if x.at_ = 1 then (if x.was = v then { x with at_ := 2 } else ({ x with at_ := 2 } : Cl).next q)
  else if x.at_ = 2 then (if 0 < room q.cls v then { x with alloc := v, got := true, at_ := 9 } else { x with alloc := v, at_ := 3 })
  else if x.at_ = 3 then x.next q
  else if x.at_ = 5 then (if 0 = v then { x with at_ := 6 } else ({ x with at_ := 6 } : Cl).next q)
  else if x.at_ = 6 then { x with alloc := 0, at_ := 7 }
  else if x.at_ = 7 then { x with got := true, at_ := 9 }
  else x.swept q ((x.swp q).aft v)
abbrev upd (X : List Int) (c : Int × Nat × Int × Int) : List Int := X.set c.2.1 (leftOf c.1 (X.getD c.2.1 0) c.2.2.1 c.2.2.2)
def cstp (q : Cp) (m : List Int × Cl) : List Int × Cl := (upd m.1 (m.2.acc q), m.2.aft q (m.1.getD (m.2.acc q).2.1 0))
def sstp (P T page : Nat) (m : List Int × Sw) : List Int × Sw := (upd m.1 (m.2.acc P T page), m.2.aft (m.1.getD (m.2.acc P T page).2.1 0))
def SGo (P T page : Nat) : Nat → List Int × Sw → List Int × Sw → Prop
  | 0, m, m' => m = m'
  | n + 1, m, m' => m.2.at_ ≠ 8 ∧ SGo P T page n (sstp P T page m) m'
def CGo (q : Cp) : Nat → List Int × Cl → List Int × Cl → Prop
  | 0, m, m' => m = m'
  | n + 1, m, m' => m.2.at_ ≠ 9 ∧ CGo q n (cstp q m) m'
theorem SGo.trans {P T page : Nat} : ∀ {n k : Nat} {m m1 m2 : List Int × Sw}, SGo P T page n m m1 → SGo P T page k m1 m2 → SGo P T page (n + k) m m2
  | 0, k, m, m1, m2, h, g => by cases h; simpa using g
  | n + 1, k, m, m1, m2, h, g => by rw [Nat.add_right_comm]; exact ⟨h.1, h.2.trans g⟩
theorem CGo.trans {q : Cp} : ∀ {n k : Nat} {m m1 m2 : List Int × Cl}, CGo q n m m1 → CGo q k m1 m2 → CGo q (n + k) m m2
  | 0, k, m, m1, m2, h, g => by cases h; simpa using g
  | n + 1, k, m, m1, m2, h, g => by rw [Nat.add_right_comm]; exact ⟨h.1, h.2.trans g⟩
theorem ne8 {m : List Int × Sw} {k : Int} (h : m.2.at_ = k) (hk : k ≠ 8) : m.2.at_ ≠ 8 := h ▸ hk
theorem ne9 {m : List Int × Cl} {k : Int} (h : m.2.at_ = k) (hk : k ≠ 9) : m.2.at_ ≠ 9 := h ▸ hk
theorem CGo.one {q : Cp} {m m' : List Int × Cl} (h : m.2.at_ ≠ 9) (e : cstp q m = m') : CGo q 1 m m' := ⟨h, e⟩
theorem SGo.one {P T page : Nat} {m m' : List Int × Sw} (h : m.2.at_ ≠ 8) (e : sstp P T page m = m') : SGo P T page 1 m m' := ⟨h, e⟩
/-! ### A sweep's steps -/
section
variable {P T page : Nat} {X : List Int} {x : Sw}
theorem s0d (h : x.at_ = 0) {k c s o y : Int} (hd : dec (X.getD (adr P T 0 page) 0) = (k, c, s, o, y, 0)) (hdu : Sw.due { x with was := X.getD (adr P T 0 page) 0, k := k, c := c, st := s, o := o, y := y, at_ := 1 } = true) :
    sstp P T page (X, x) = (X, { x with was := X.getD (adr P T 0 page) 0, k := k, c := c, st := s, o := o, y := y, at_ := 1 }) := by
  have ea : x.acc P T page = (1, adr P T 0 page, 0, 0) := if_pos h
  have ef : ∀ v, x.aft v = x.look v := fun v => if_pos h
  simp only [sstp, upd, ea, ef]
  rw [look_due hd hdu, show ∀ a b c, leftOf 1 a b c = a from fun _ _ _ => if_pos rfl, set_same]
theorem s0n (h : x.at_ = 0) {k c s o y f : Int} (hd : dec (X.getD (adr P T 0 page) 0) = (k, c, s, o, y, f)) (hdu : f = 4 ∨ Sw.due { x with was := X.getD (adr P T 0 page) 0, k := k, c := c, st := s, o := o, y := y, at_ := 1 } = false) :
    ∃ x', sstp P T page (X, x) = (X, x') ∧ x'.at_ = 8 ∧ x'.swept = x.swept := by
  have ea : x.acc P T page = (1, adr P T 0 page, 0, 0) := if_pos h
  have ef : ∀ v, x.aft v = x.look v := fun v => if_pos h
  refine ⟨x.look (X.getD (adr P T 0 page) 0), ?_, ?_⟩
  · simp only [sstp, upd, ea, ef]
    rw [show ∀ a b c, leftOf 1 a b c = a from fun _ _ _ => if_pos rfl, set_same]
  · rcases dec_isE hd with ⟨rfl, _⟩ | rfl
    · rcases hdu with hdu | hdu
      · exact absurd hdu (by decide)
      · rw [look_no hd hdu]; exact ⟨rfl, rfl⟩
    · rw [look_err hd]; exact ⟨rfl, rfl⟩
theorem s1 (h : x.at_ = 1) (hw : x.was = X.getD (adr P T 0 page) 0) : sstp P T page (X, x) = (X.set (adr P T 0 page) (wordOf x.k x.c 2 x.who x.y), { x with at_ := 2 }) := by
  simp [sstp, upd, Sw.acc, Sw.aft, leftOf, h, hw]
theorem s2 (h : x.at_ = 2) : sstp P T page (X, x) = (X, { x with mark := X.getD (adr P T 2 page) 0, at_ := 3 }) := by
  have e := set_same X (adr P T 2 page)
  simp only [List.getD_eq_getElem?_getD] at e
  simp [sstp, upd, Sw.acc, Sw.aft, leftOf, h, e]
theorem s3 (h : x.at_ = 3) : sstp P T page (X, x) = (X, { x with alloc := X.getD (adr P T 1 page) 0, at_ := 4 }) := by
  have e := set_same X (adr P T 1 page)
  simp only [List.getD_eq_getElem?_getD] at e
  simp [sstp, upd, Sw.acc, Sw.aft, leftOf, h, e]
theorem s4 (h : x.at_ = 4) : sstp P T page (X, x) = (X.set (adr P T 1 page) x.left, { x with freed := x.ones, empty := x.left == 0, at_ := 5 }) := by
  simp [sstp, upd, Sw.acc, Sw.aft, leftOf, h]
theorem s5 (h : x.at_ = 5) : sstp P T page (X, x) = (X.set (adr P T 2 page) 0, if x.empty = true ∧ x.k = 2 ∧ 1 < x.c then { x with tail := x.c - 1, at_ := 6 } else { x with at_ := 7 }) := by
  simp [sstp, upd, Sw.acc, Sw.aft, leftOf, h]
theorem s6 (h : x.at_ = 6) : sstp P T page (X, x) = (X.set (adr P T 0 (page + x.tail.toNat)) 0, if x.tail = 1 then { x with tail := 0, at_ := 7 } else { x with tail := x.tail - 1 }) := by
  simp [sstp, upd, Sw.acc, Sw.aft, leftOf, h]
theorem s7 (h : x.at_ = 7) : sstp P T page (X, x) = (X.set (adr P T 0 page) (if x.empty = true then 0 else wordOf x.k x.c 0 0 x.cyc), { x with swept := true, at_ := 8 }) := by
  simp [sstp, upd, Sw.acc, Sw.aft, leftOf, h]
theorem s66 : ∀ (t : Nat) (X : List Int) (x : Sw), x.at_ = 6 → x.tail = (t : Int) + 1 → ∃ X' x', SGo P T page (t + 1) (X, x) (X', x') ∧ x' = { x with tail := 0, at_ := 7 } ∧ X'.length = X.length
  | 0, X, x, h, ht => by
    have := s6 (P := P) (T := T) (page := page) (X := X) h
    rw [if_pos (by rw [ht]; rfl)] at this
    exact ⟨_, _, .one (by rw [h]; decide) this, rfl, List.length_set⟩
  | t + 1, X, x, h, ht => by
    have := s6 (P := P) (T := T) (page := page) (X := X) h
    rw [if_neg (by rw [ht]; omega)] at this
    obtain ⟨X', x', h1, h2, h3⟩ := s66 t (X.set (adr P T 0 (page + x.tail.toNat)) 0) { x with tail := x.tail - 1 } h (by show x.tail - 1 = _; rw [ht]; omega)
    refine ⟨X', x', ⟨by rw [h]; decide, by rw [this]; exact h1⟩, h2, by rw [h3, List.length_set]⟩
end
/-- What stays allocated in a page that is swept. -/
def lft (k al mk : Int) : Int := if k = 2 then Go.bits .and .u64 (Go.bits .and .u64 al mk) 1 else Go.bits .and .u64 al mk
theorem adr_ne {P T t1 t2 p1 p2 : Nat} (h1 : p1 < P + 1) (h2 : p2 < P + 1) (h : t1 < 3 ∧ t2 < 3) (hne : t1 ≠ t2 ∨ p1 ≠ p2) : adr P T t1 p1 ≠ adr P T t2 p2 := by
  unfold adr
  rcases (show t1 = 0 ∨ t1 = 1 ∨ t1 = 2 by omega) with rfl | rfl | rfl <;> rcases (show t2 = 0 ∨ t2 = 1 ∨ t2 = 2 by omega) with rfl | rfl | rfl <;> omega
theorem sw_due {P T page : Nat} (hP : P < 5) (hT : T < 3) (hp : page < P + 1) {X : List Int} (hl : X.length = 128 + 64 * P) {who cyc k c s o y : Int} (hd : dec (X.getD (adr P T 0 page) 0) = (k, c, s, o, y, 0))
    (hdu : dueE k s y cyc = true) (h2 : k = 2 → (page : Int) + c ≤ (P : Int) + 1) :
    ∃ n X' x', 1 ≤ n ∧ n ≤ 12 ∧ SGo P T page n (X, sw0 P T who cyc page) (X', x') ∧ x'.at_ = 8 ∧ x'.swept = true ∧ x'.empty = (lft k (X.getD (adr P T 1 page) 0) (X.getD (adr P T 2 page) 0) == 0) ∧ X'.length = X.length ∧
      X'.getD (adr P T 0 page) 0 = (if lft k (X.getD (adr P T 1 page) 0) (X.getD (adr P T 2 page) 0) = 0 then 0 else wordOf k c 0 0 cyc) ∧
      (¬ lft k (X.getD (adr P T 1 page) 0) (X.getD (adr P T 2 page) 0) = 0 ∨ k = 1 → X'.getD (adr P T 1 page) 0 = lft k (X.getD (adr P T 1 page) 0) (X.getD (adr P T 2 page) 0) ∧ ∀ j, j ≠ adr P T 0 page → j ≠ adr P T 1 page → j ≠ adr P T 2 page → X'.getD j 0 = X.getD j 0) := by
  have n01 : adr P T 0 page ≠ adr P T 1 page := adr_ne hp hp (by decide) (.inl (by decide))
  have n02 : adr P T 0 page ≠ adr P T 2 page := adr_ne hp hp (by decide) (.inl (by decide))
  have n12 : adr P T 1 page ≠ adr P T 2 page := adr_ne hp hp (by decide) (.inl (by decide))
  have l0 : adr P T 0 page < X.length := by rw [hl]; exact adr_lt hP hT hp (by decide)
  have l1 : adr P T 1 page < X.length := by rw [hl]; exact adr_lt hP hT hp (by decide)
  have l2 : adr P T 2 page < X.length := by rw [hl]; exact adr_lt hP hT hp (by decide)
  have hc4 : c ≤ 4 ∨ k ≠ 2 := by
    rcases dec_isE hd with ⟨_, hi⟩ | h
    · by_cases hk : k = 2
      · exact .inl ((isE_kc hi).2.1 hk).2
      · exact .inr hk
    · exact absurd h (by decide)
  have hdu2 : Sw.due { sw0 P T who cyc page with was := X.getD (adr P T 0 page) 0, k := k, c := c, st := s, o := o, y := y, at_ := 1 } = true := by
    unfold Sw.due
    simp only [hdu, Bool.true_and, Bool.or_eq_true, Bool.not_eq_true', beq_eq_false_iff_ne, decide_eq_true_eq]
    by_cases hk : k = 2
    · exact .inr (h2 hk)
    · exact .inl hk
  have e0 := s0d (x := sw0 P T who cyc page) rfl hd hdu2
  generalize hx1 : ({ sw0 P T who cyc page with was := X.getD (adr P T 0 page) 0, k := k, c := c, st := s, o := o, y := y, at_ := 1 } : Sw) = x1 at e0
  have e1 := s1 (P := P) (T := T) (page := page) (X := X) (x := x1) (by rw [← hx1]) (by rw [← hx1])
  generalize hX1 : X.set (adr P T 0 page) (wordOf x1.k x1.c 2 x1.who x1.y) = X1 at e1
  have e2 := s2 (P := P) (T := T) (page := page) (X := X1) (x := { x1 with at_ := 2 }) rfl
  have g2 : X1.getD (adr P T 2 page) 0 = X.getD (adr P T 2 page) 0 := by rw [← hX1]; exact cset_ne _ _ n02
  have g1 : X1.getD (adr P T 1 page) 0 = X.getD (adr P T 1 page) 0 := by rw [← hX1]; exact cset_ne _ _ n01
  rw [g2] at e2
  have e3 := s3 (P := P) (T := T) (page := page) (X := X1) (x := { x1 with mark := X.getD (adr P T 2 page) 0, at_ := 3 }) rfl
  rw [g1] at e3
  have e4 := s4 (P := P) (T := T) (page := page) (X := X1) (x := { x1 with mark := X.getD (adr P T 2 page) 0, alloc := X.getD (adr P T 1 page) 0, at_ := 4 }) rfl
  have hlf : Sw.left { x1 with mark := X.getD (adr P T 2 page) 0, alloc := X.getD (adr P T 1 page) 0, at_ := 4 } = lft k (X.getD (adr P T 1 page) 0) (X.getD (adr P T 2 page) 0) := by rw [← hx1]; rfl
  rw [hlf] at e4
  generalize lft k (X.getD (adr P T 1 page) 0) (X.getD (adr P T 2 page) 0) = L at e4 ⊢
  generalize hx4 : ({ x1 with mark := X.getD (adr P T 2 page) 0, alloc := X.getD (adr P T 1 page) 0, freed := Sw.ones { x1 with mark := X.getD (adr P T 2 page) 0, alloc := X.getD (adr P T 1 page) 0, at_ := 4 }, empty := L == 0, at_ := 5 } : Sw) = x4 at e4
  have e5 := s5 (P := P) (T := T) (page := page) (X := X1.set (adr P T 1 page) L) (x := x4) (by rw [← hx4])
  have hl1 : X1.length = X.length := by rw [← hX1, List.length_set]
  have h05 : SGo P T page 6 (X, sw0 P T who cyc page) ((X1.set (adr P T 1 page) L).set (adr P T 2 page) 0, if x4.empty = true ∧ x4.k = 2 ∧ 1 < x4.c then { x4 with tail := x4.c - 1, at_ := 6 } else { x4 with at_ := 7 }) := by
    refine ⟨ne8 (k := 0) rfl (by decide), ?_⟩; rw [e0]
    refine ⟨ne8 (k := 1) (by rw [← hx1]) (by decide), ?_⟩; rw [e1]
    refine ⟨ne8 (k := 2) rfl (by decide), ?_⟩; rw [e2]
    refine ⟨ne8 (k := 3) rfl (by decide), ?_⟩; rw [e3]
    refine ⟨ne8 (k := 4) rfl (by decide), ?_⟩; rw [e4]
    refine ⟨ne8 (k := 5) (by rw [← hx4]) (by decide), ?_⟩; rw [e5]
    rfl
  have k4 : x4.k = k ∧ x4.c = c ∧ x4.cyc = cyc ∧ x4.empty = (L == 0) := by rw [← hx4, ← hx1]; exact ⟨rfl, rfl, rfl, rfl⟩
  obtain ⟨k1, k2, k3, k5⟩ := k4
  generalize hZ : (X1.set (adr P T 1 page) L).set (adr P T 2 page) 0 = Z at h05
  have hlZ : Z.length = X.length := by rw [← hZ, List.length_set, List.length_set, hl1]
  by_cases ht : x4.empty = true ∧ x4.k = 2 ∧ 1 < x4.c
  · rw [if_pos ht] at h05
    have hL : L = 0 := by have := ht.1; rw [k5] at this; simpa using this
    obtain ⟨t, htt⟩ : ∃ t : Nat, x4.c - 1 = (t : Int) + 1 := ⟨(x4.c - 2).toNat, by have := ht.2.2; omega⟩
    obtain ⟨X', x', h6, hx', hl'⟩ := s66 (P := P) (T := T) (page := page) t Z { x4 with tail := x4.c - 1, at_ := 6 } rfl htt
    have e7 := s7 (P := P) (T := T) (page := page) (X := X') (x := x') (by rw [hx'])
    have hem : x'.empty = true := by rw [hx']; exact ht.1
    rw [if_pos hem] at e7
    refine ⟨6 + (t + 1) + 1, _, _, by omega, ?_, (h05.trans h6).trans (.one (ne8 (k := 7) (by rw [hx']) (by decide)) e7), rfl, rfl, ?_, ?_, ?_, ?_⟩
    · have := ht.2.1; rw [k1] at this; rw [k2] at htt
      rcases hc4 with h | h
      · omega
      · exact absurd this h
    · show x'.empty = _; rw [hem, hL]; rfl
    · rw [List.length_set, hl', hlZ]
    · rw [cset _ _ _ _ (by rw [hl', hlZ]; exact l0), if_pos rfl, if_pos hL]
    · intro h
      rcases h with h | h
      · exact absurd hL h
      · have := ht.2.1; rw [k1] at this; omega
  · rw [if_neg ht] at h05
    have e7 := s7 (P := P) (T := T) (page := page) (X := Z) (x := { x4 with at_ := 7 }) rfl
    have hem : (if ({ x4 with at_ := 7 } : Sw).empty = true then (0 : Int) else wordOf ({ x4 with at_ := 7 } : Sw).k ({ x4 with at_ := 7 } : Sw).c 0 0 ({ x4 with at_ := 7 } : Sw).cyc) = if L = 0 then 0 else wordOf k c 0 0 cyc := by
      simp only [k1, k2, k3, k5, beq_iff_eq]
    rw [hem] at e7
    refine ⟨7, _, _, by omega, by omega, h05.trans (.one (ne8 (k := 7) rfl (by decide)) e7), rfl, rfl, k5, ?_, ?_, ?_⟩
    · rw [List.length_set, hlZ]
    · rw [cset _ _ _ _ (by rw [hlZ]; exact l0), if_pos rfl]
    · intro _
      refine ⟨?_, fun j j0 j1 j2 => ?_⟩
      · rw [cset_ne _ _ n01, ← hZ, cset_ne _ _ n12.symm, cset _ _ _ _ (by rw [hl1]; exact l1), if_pos rfl]
      · rw [cset_ne _ _ j0.symm, ← hZ, cset_ne _ _ j2.symm, cset_ne _ _ j1.symm, ← hX1, cset_ne _ _ j0.symm]
/-! ### A claim's steps -/
theorem swept_sw (q : Cp) (x : Cl) (z : Option Sw) {y : Sw} (h : y.at_ = 8) : ({ x with sw := z } : Cl).swept q y = x.swept q y := by
  unfold Cl.swept
  rw [if_pos h, if_pos h]
  have : ({ x with sw := z } : Cl).next q = x.next q := by unfold Cl.next; rfl
  rw [this]
theorem stp48 {q : Cp} {X : List Int} {x : Cl} (h : x.at_ = 4 ∨ x.at_ = 8) : cstp q (X, x) = ((sstp q.P q.T x.pg (X, x.swp q)).1, x.swept q (sstp q.P q.T x.pg (X, x.swp q)).2) := by
  have ea : x.acc q = (x.swp q).acc q.P q.T x.pg := by
    unfold Cl.acc
    rw [if_neg (by omega), if_neg (by omega), if_neg (by omega), if_neg (by omega), if_neg (by omega), if_neg (by omega), if_neg (by omega)]
  have ef : ∀ v, x.aft q v = x.swept q ((x.swp q).aft v) := fun v => by
    unfold Cl.aft
    rw [if_neg (by omega), if_neg (by omega), if_neg (by omega), if_neg (by omega), if_neg (by omega), if_neg (by omega), if_neg (by omega)]
  simp only [cstp, ea, ef, sstp]
theorem swp_go (q : Cp) : ∀ (n : Nat) (X X' : List Int) (x : Cl) (y y' : Sw), x.at_ = 4 ∨ x.at_ = 8 → x.swp q = y → SGo q.P q.T x.pg (n + 1) (X, y) (X', y') → y'.at_ = 8 → CGo q (n + 1) (X, x) (X', x.swept q y')
  | 0, X, X', x, y, y', hx, hy, h, h8 => by
    refine ⟨by show x.at_ ≠ 9; omega, ?_⟩
    have h2 : sstp q.P q.T x.pg (X, y) = (X', y') := h.2
    rw [stp48 hx, hy, h2]
    rfl
  | n + 1, X, X', x, y, y', hx, hy, h, h8 => by
    refine ⟨by show x.at_ ≠ 9; omega, ?_⟩
    rw [stp48 hx, hy]
    obtain ⟨h1, h2, h3⟩ := h
    generalize sstp q.P q.T x.pg (X, y) = m at h2 h3 ⊢
    have e : x.swept q m.2 = { x with sw := some m.2 } := by unfold Cl.swept; rw [if_neg h2]
    rw [e, ← swept_sw q x (some m.2) h8]
    exact swp_go q n m.1 X' { x with sw := some m.2 } m.2 y' hx rfl ⟨h2, h3⟩ h8
section
variable {q : Cp} {X : List Int} {x : Cl}
theorem c0 (h : x.at_ = 0) : cstp q (X, x) = (X, x.ask q (X.getD (adr q.P q.T 0 x.pg) 0)) := by
  have e := set_same X (adr q.P q.T 0 x.pg)
  simp only [List.getD_eq_getElem?_getD] at e
  simp [cstp, upd, Cl.acc, Cl.aft, leftOf, h, e]
theorem c1 (h : x.at_ = 1) (hw : x.was = X.getD (adr q.P q.T 0 x.pg) 0) : cstp q (X, x) = (X.set (adr q.P q.T 0 x.pg) q.word, { x with at_ := 2 }) := by
  simp [cstp, upd, Cl.acc, Cl.aft, leftOf, h, hw]
theorem c2 (h : x.at_ = 2) : cstp q (X, x) = (X, if 0 < room q.cls (X.getD (adr q.P q.T 1 x.pg) 0) then { x with alloc := X.getD (adr q.P q.T 1 x.pg) 0, got := true, at_ := 9 } else { x with alloc := X.getD (adr q.P q.T 1 x.pg) 0, at_ := 3 }) := by
  have e := set_same X (adr q.P q.T 1 x.pg)
  simp only [List.getD_eq_getElem?_getD] at e
  simp [cstp, upd, Cl.acc, Cl.aft, leftOf, h, e]
theorem c3 (h : x.at_ = 3) : cstp q (X, x) = (X.set (adr q.P q.T 0 x.pg) (wordOf x.k x.c 0 0 q.cyc), x.next q) := by
  simp [cstp, upd, Cl.acc, Cl.aft, leftOf, h]
theorem c5 (h : x.at_ = 5) (hw : X.getD (adr q.P q.T 0 x.pg) 0 = 0) : cstp q (X, x) = (X.set (adr q.P q.T 0 x.pg) q.word, { x with at_ := 6 }) := by
  simp only [List.getD_eq_getElem?_getD] at hw
  simp [cstp, upd, Cl.acc, Cl.aft, leftOf, h, hw]
theorem c6 (h : x.at_ = 6) : cstp q (X, x) = (X.set (adr q.P q.T 1 x.pg) 0, { x with alloc := 0, at_ := 7 }) := by
  simp [cstp, upd, Cl.acc, Cl.aft, leftOf, h]
theorem c7 (h : x.at_ = 7) : cstp q (X, x) = (X.set (adr q.P q.T 2 x.pg) 0, { x with got := true, at_ := 9 }) := by
  simp [cstp, upd, Cl.acc, Cl.aft, leftOf, h]
end
/-- It has a page. -/
structure Got (q : Cp) (m : List Int × Cl) : Prop where
  (at9 : m.2.at_ = 9) (got : m.2.got = true) (pg : m.2.pg < q.P + 1) (en : m.1.getD (adr q.P q.T 0 m.2.pg) 0 = q.word) (al : 0 < room q.cls m.2.alloc)
theorem room0 : ∀ c : Fin 8, 0 < room (c.val : Int) 0 := by decide +kernel
theorem room_0 {c : Int} (h : 0 ≤ c ∧ c < 8) : 0 < room c 0 := by
  obtain ⟨n, rfl⟩ := Int.eq_ofNat_of_zero_le h.1
  exact room0 ⟨n, by omega⟩
theorem grab {q : Cp} (hq : q.Right) {X : List Int} (hl : X.length = 128 + 64 * q.P) {x : Cl} (hp : x.pg < q.P + 1) (h : x.at_ = 5) (hw : X.getD (adr q.P q.T 0 x.pg) 0 = 0) : ∃ m', CGo q 3 (X, x) m' ∧ Got q m' := by
  have l0 : adr q.P q.T 0 x.pg < X.length := by rw [hl]; exact adr_lt hq.hP hq.hT hp (by decide)
  have hgo : CGo q 3 (X, x) (((X.set (adr q.P q.T 0 x.pg) q.word).set (adr q.P q.T 1 x.pg) 0).set (adr q.P q.T 2 x.pg) 0, { x with alloc := 0, got := true, at_ := 9 }) := by
    refine ⟨ne9 h (by decide), ?_⟩
    rw [c5 h hw]
    refine ⟨ne9 (k := 6) rfl (by decide), ?_⟩
    rw [c6 rfl]
    refine ⟨ne9 (k := 7) rfl (by decide), ?_⟩
    rw [c7 rfl]
    rfl
  refine ⟨_, hgo, rfl, rfl, hp, ?_, room_0 hq.hc⟩
  show (((X.set _ _).set _ _).set _ _).getD (adr q.P q.T 0 x.pg) 0 = _
  rw [cset_ne _ _ (adr_ne hp hp (by decide) (.inl (by decide))), cset_ne _ _ (adr_ne hp hp (by decide) (.inl (by decide))), cset _ _ _ _ l0, if_pos rfl]
/-- What is true of a page that a round left behind: its entry, its bits. -/
def P0 (q : Cp) (e a : Int) : Prop := (dec e).2.2.2.2.2 = 0 → (dec e).1 = 1 → (dec e).2.2.1 = 0 → (dec e).2.1 = q.cls → q.cyc < (dec e).2.2.2.2.1 ∨ (dec e).2.2.2.2.1 = q.cyc ∧ room q.cls a = 0
def P1 (q : Cp) (e a : Int) : Prop := P0 q e a ∧ e ≠ 0
def P2 (q : Cp) (e a : Int) : Prop := P1 q e a ∧ ((dec e).2.2.2.2.2 = 0 → (dec e).1 = 1 → (dec e).2.2.1 = 0 → q.cyc ≤ (dec e).2.2.2.2.1)
abbrev eA (q : Cp) (X : List Int) (i : Nat) : Int := X.getD (adr q.P q.T 0 i) 0
abbrev aA (q : Cp) (X : List Int) (i : Nat) : Int := X.getD (adr q.P q.T 1 i) 0
/-- A page was looked at, and the claim goes on to the next one. -/
structure Went (q : Cp) (R : Int → Int → Prop) (X : List Int) (x : Cl) (m' : List Int × Cl) : Prop where
  z : ∃ z : Cl, m'.2 = z.next q ∧ z.rd = x.rd ∧ z.pg = x.pg ∧ z.got = x.got
  r : R (eA q m'.1 x.pg) (aA q m'.1 x.pg)
  o : ∀ j, j < q.P + 1 → j ≠ x.pg → eA q m'.1 j = eA q X j ∧ aA q m'.1 j = aA q X j
  l : m'.1.length = X.length
theorem wordOf_ne {k c s o y : Int} (h : isE k c s o y = true) (hk : k ≠ 0) : wordOf k c s o y ≠ 0 := by
  have := isE_le h
  unfold wordOf
  omega
theorem isE_idle {q : Cp} (hq : q.Right) : isE 1 q.cls 0 0 q.cyc = true := isE_given hq.isE (.inl rfl) hq.hy
/-- Behind a page of the class that is swept. -/
theorem ready {q : Cp} (hq : q.Right) {X : List Int} (hl : X.length = 128 + 64 * q.P) {x : Cl} (hp : x.pg < q.P + 1) (h : x.at_ = 1) (hw : x.was = eA q X x.pg) (hk : x.k = 1) (hc : x.c = q.cls) :
    ∃ n m', n ≤ 3 ∧ CGo q n (X, x) m' ∧ (Got q m' ∨ Went q (P0 q) X x m') := by
  have l0 : adr q.P q.T 0 x.pg < X.length := by rw [hl]; exact adr_lt hq.hP hq.hT hp (by decide)
  have n01 : adr q.P q.T 0 x.pg ≠ adr q.P q.T 1 x.pg := adr_ne hp hp (by decide) (.inl (by decide))
  have e1 := c1 h hw
  have e2 := c2 (q := q) (X := X.set (adr q.P q.T 0 x.pg) q.word) (x := { x with at_ := 2 }) rfl
  have ga : (X.set (adr q.P q.T 0 x.pg) q.word).getD (adr q.P q.T 1 x.pg) 0 = aA q X x.pg := cset_ne _ _ n01
  simp only [ga] at e2
  by_cases hr : 0 < room q.cls (aA q X x.pg)
  · rw [if_pos hr] at e2
    have hgo : CGo q 2 (X, x) (X.set (adr q.P q.T 0 x.pg) q.word, { x with alloc := aA q X x.pg, got := true, at_ := 9 }) := by
      refine ⟨ne9 h (by decide), ?_⟩
      rw [e1]
      refine ⟨ne9 (k := 2) rfl (by decide), ?_⟩
      rw [e2]
      rfl
    exact ⟨2, _, by decide, hgo, .inl ⟨rfl, rfl, hp, by show (X.set _ _).getD _ _ = _; rw [cset _ _ _ _ l0, if_pos rfl], hr⟩⟩
  · rw [if_neg hr] at e2
    have e3 := c3 (q := q) (X := X.set (adr q.P q.T 0 x.pg) q.word) (x := { x with alloc := aA q X x.pg, at_ := 3 }) rfl
    have hgo : CGo q 3 (X, x) ((X.set (adr q.P q.T 0 x.pg) q.word).set (adr q.P q.T 0 x.pg) (wordOf x.k x.c 0 0 q.cyc), ({ x with alloc := aA q X x.pg, at_ := 3 } : Cl).next q) := by
      refine ⟨ne9 h (by decide), ?_⟩
      rw [e1]
      refine ⟨ne9 (k := 2) rfl (by decide), ?_⟩
      rw [e2]
      refine ⟨ne9 (k := 3) rfl (by decide), ?_⟩
      rw [e3]
      rfl
    refine ⟨3, _, by decide, hgo, .inr ?_⟩
    · have ee : eA q ((X.set (adr q.P q.T 0 x.pg) q.word).set (adr q.P q.T 0 x.pg) (wordOf x.k x.c 0 0 q.cyc)) x.pg = wordOf 1 q.cls 0 0 q.cyc := by
        rw [eA, cset _ _ _ _ (by rw [List.length_set]; exact l0), if_pos rfl, hk, hc]
      have ea : aA q ((X.set (adr q.P q.T 0 x.pg) q.word).set (adr q.P q.T 0 x.pg) (wordOf x.k x.c 0 0 q.cyc)) x.pg = aA q X x.pg := by
        rw [aA, cset_ne _ _ n01, cset_ne _ _ n01]
      refine ⟨⟨_, rfl, rfl, rfl, rfl⟩, ?_, fun j hj hne => ?_, by rw [List.length_set, List.length_set]⟩
      · rw [ee, ea]
        intro _ _ _ _
        rw [decW (isE_idle hq)]
        exact .inr ⟨rfl, by omega⟩
      · exact ⟨by rw [eA, cset_ne _ _ (adr_ne hp hj (by decide) (.inr (Ne.symm hne))), cset_ne _ _ (adr_ne hp hj (by decide) (.inr (Ne.symm hne)))],
          by rw [aA, cset_ne _ _ (adr_ne hp hj (by decide) (.inl (by decide))), cset_ne _ _ (adr_ne hp hj (by decide) (.inl (by decide)))]⟩
theorem next_ {q : Cp} {P : Int → Int → Prop} {X : List Int} {x z : Cl} (h : P (eA q X x.pg) (aA q X x.pg)) (h1 : z.rd = x.rd) (h2 : z.pg = x.pg) (h3 : z.got = x.got) : Went q P X x (X, z.next q) := ⟨⟨z, rfl, h1, h2, h3⟩, h, fun _ _ _ => ⟨rfl, rfl⟩, rfl⟩
theorem ask0 {q : Cp} {X : List Int} {x : Cl} (h : x.at_ = 0) (hr : x.rd = 0) :
    ((∃ k c s o y, dec (eA q X x.pg) = (k, c, s, o, y, 0) ∧ rdyE k c s y q.cls q.cyc = true) ∧ cstp q (X, x) = (X, { x.seen (eA q X x.pg) with at_ := 1 })) ∨
    ((∃ s o y, dec (eA q X x.pg) = (1, q.cls, s, o, y, 0) ∧ dueE 1 s y q.cyc = true) ∧ cstp q (X, x) = (X, { x.seen (eA q X x.pg) with at_ := 4 })) ∨
    (P0 q (eA q X x.pg) (aA q X x.pg) ∧ cstp q (X, x) = (X, (x.seen (eA q X x.pg)).next q)) := by
  have e := c0 (q := q) (X := X) h
  obtain ⟨v, hv⟩ : ∃ v, v = eA q X x.pg := ⟨_, rfl⟩
  rw [← hv]
  have hv2 : X.getD (adr q.P q.T 0 x.pg) 0 = v := hv.symm
  rw [hv2] at e
  obtain ⟨k, c, s, o, y, f, hd⟩ : ∃ k c s o y f, dec v = (k, c, s, o, y, f) := ⟨_, _, _, _, _, _, rfl⟩
  have ea : x.ask q v = (if x.rd = 1 ∧ v = 0 then { x.seen v with at_ := 5 } else if x.rd = 0 ∧ f = 0 ∧ rdyE k c s y q.cls q.cyc = true then { x.seen v with at_ := 1 }
      else if x.rd = 0 ∧ f = 0 ∧ dueE k s y q.cyc = true ∧ k = 1 ∧ c = q.cls then { x.seen v with at_ := 4 } else (x.seen v).next q) := by unfold Cl.ask; rw [hd]
  rw [ea, if_neg (by rw [hr]; omega)] at e
  by_cases h1 : f = 0 ∧ rdyE k c s y q.cls q.cyc = true
  · obtain ⟨rfl, h1⟩ := h1
    rw [if_pos ⟨hr, rfl, h1⟩] at e
    exact .inl ⟨⟨k, c, s, o, y, hd, h1⟩, e⟩
  · rw [if_neg (fun hh => h1 hh.2)] at e
    by_cases h2 : f = 0 ∧ dueE k s y q.cyc = true ∧ k = 1 ∧ c = q.cls
    · obtain ⟨rfl, h2, rfl, rfl⟩ := h2
      rw [if_pos ⟨hr, rfl, h2, rfl, rfl⟩] at e
      exact .inr (.inl ⟨⟨s, o, y, hd, h2⟩, e⟩)
    · rw [if_neg (fun hh => h2 hh.2)] at e
      refine .inr (.inr ⟨?_, e⟩)
      intro a1 a2 a3 a4
      rw [hd] at a1 a2 a3 a4 ⊢
      simp only at a1 a2 a3 a4 ⊢
      subst a1 a2 a3
      have b1 : y ≠ q.cyc := fun hh => h1 ⟨rfl, by simp [rdyE, a4, hh]⟩
      have b2 : ¬ y < q.cyc := fun hh => h2 ⟨rfl, by simp [dueE, hh], rfl, a4⟩
      exact .inl (by omega)
theorem rdy_kc {k c s y cls cyc : Int} (h : rdyE k c s y cls cyc = true) : k = 1 ∧ c = cls ∧ s = 0 ∧ y = cyc := by
  simp only [rdyE, Bool.and_eq_true, beq_iff_eq] at h
  exact ⟨h.1.1.1, h.1.2, h.1.1.2, h.2⟩
theorem Went.of {q : Cp} {R : Int → Int → Prop} {X : List Int} {x x2 : Cl} {m' : List Int × Cl} (h : Went q R X x2 m') (h1 : x2.rd = x.rd) (h2 : x2.pg = x.pg) (h3 : x2.got = x.got) : Went q R X x m' := by
  obtain ⟨⟨z, a, b, c, d⟩, r, o, l⟩ := h
  rw [h2] at r
  exact ⟨⟨z, a, b.trans h1, c.trans h2, d.trans h3⟩, r, fun j hj hne => o j hj (by rw [h2]; exact hne), l⟩
theorem visit0 {q : Cp} (hq : q.Right) {X : List Int} (hl : X.length = 128 + 64 * q.P) {x : Cl} (hp : x.pg < q.P + 1) (h : x.at_ = 0) (hr : x.rd = 0) (hx : x.sw = none) :
    ∃ n m', n ≤ 20 ∧ CGo q n (X, x) m' ∧ (Got q m' ∨ Went q (P0 q) X x m') := by
  have h9 : x.at_ ≠ 9 := by rw [h]; decide
  rcases ask0 (q := q) (X := X) h hr with ⟨⟨k, c, s, o, y, hd, hrd⟩, e⟩ | ⟨⟨s, o, y, hd, hdu⟩, e⟩ | ⟨h0, e⟩
  · obtain ⟨rfl, rfl, rfl, rfl⟩ := rdy_kc hrd
    obtain ⟨n, m', hn, hg, hh⟩ := ready hq hl (x := { x.seen (eA q X x.pg) with at_ := 1 }) hp rfl rfl (by simp only [Cl.seen, hd]) (by simp only [Cl.seen, hd])
    exact ⟨n + 1, m', by omega, ⟨h9, by rw [e]; exact hg⟩, hh.imp id fun w => w.of rfl rfl rfl⟩
  · obtain ⟨n, X', x', hn1, hn, hg, h8, hsw, hem, hlen, hE, hA⟩ := sw_due (who := q.t) hq.hP hq.hT hp hl hd hdu (fun h => absurd h (by decide))
    obtain ⟨n, rfl⟩ : ∃ k, n = k + 1 := ⟨n - 1, by omega⟩
    have hgo := swp_go q n X X' { x.seen (eA q X x.pg) with at_ := 4, sw := none } (sw0 q.P q.T q.t q.cyc x.pg) x' (.inl rfl) rfl hg h8
    have e' : cstp q (X, x) = (X, { x.seen (eA q X x.pg) with at_ := 4 }) := e
    have e2 : ({ x.seen (eA q X x.pg) with at_ := 4 } : Cl) = { x.seen (eA q X x.pg) with at_ := 4, sw := none } := by simp only [Cl.seen, hx]
    rw [e2] at e'
    obtain ⟨hA1, hA2⟩ := hA (.inr rfl)
    have hl' : X'.length = 128 + 64 * q.P := hlen.trans hl
    generalize hL : lft 1 (X.getD (adr q.P q.T 1 x.pg) 0) (X.getD (adr q.P q.T 2 x.pg) 0) = L at hem hE hA1
    have fr : ∀ j, j < q.P + 1 → j ≠ x.pg → eA q X' j = eA q X j ∧ aA q X' j = aA q X j := fun j hj hne =>
      ⟨hA2 _ (adr_ne hj hp (by decide) (.inr hne)) (adr_ne hj hp (by decide) (.inl (by decide))) (adr_ne hj hp (by decide) (.inl (by decide))),
       hA2 _ (adr_ne hj hp (by decide) (.inl (by decide))) (adr_ne hj hp (by decide) (.inr hne)) (adr_ne hj hp (by decide) (.inl (by decide)))⟩
    by_cases hz : L = 0
    · rw [hz] at hem hE
      have es : ({ x.seen (eA q X x.pg) with at_ := 4, sw := none } : Cl).swept q x' = ({ x.seen (eA q X x.pg) with at_ := 4, sw := none } : Cl).next q := by
        unfold Cl.swept
        rw [if_pos h8, if_neg (by rw [hem]; simp), if_neg (fun hh => by have := hh.1; simp only [Cl.seen, hr] at this; omega)]
      rw [es] at hgo
      refine ⟨n + 1 + 1, _, by omega, ⟨h9, by rw [e']; exact hgo⟩, .inr ⟨⟨({ x.seen (eA q X x.pg) with at_ := 4, sw := none } : Cl), rfl, rfl, rfl, rfl⟩, ?_, fr, hlen⟩⟩
      intro a1 a2
      have : eA q X' x.pg = 0 := hE
      rw [this] at a2
      exact absurd a2 (by decide)
    · rw [if_neg hz] at hE
      have es : ({ x.seen (eA q X x.pg) with at_ := 4, sw := none } : Cl).swept q x' = { x.seen (eA q X x.pg) with at_ := 0, sw := none } := by
        unfold Cl.swept
        rw [if_pos h8, if_pos ⟨hr, hsw, by rw [hem]; simpa using hz⟩]
      rw [es] at hgo
      have hE' : eA q X' x.pg = wordOf 1 q.cls 0 0 q.cyc := hE
      have hd2 : dec (eA q X' x.pg) = (1, q.cls, 0, 0, q.cyc, 0) := by rw [hE']; exact decW (isE_idle hq)
      have e3 := c0 (q := q) (X := X') (x := { x.seen (eA q X x.pg) with at_ := 0, sw := none }) rfl
      have e4 : ({ x.seen (eA q X x.pg) with at_ := 0, sw := none } : Cl).ask q (X'.getD (adr q.P q.T 0 x.pg) 0) = { ({ x.seen (eA q X x.pg) with at_ := 0, sw := none } : Cl).seen (eA q X' x.pg) with at_ := 1 } := by
        unfold Cl.ask
        have hd3 : dec (X'.getD (adr q.P q.T 0 x.pg) 0) = (1, q.cls, 0, 0, q.cyc, 0) := hd2
        rw [hd3, if_neg (fun hh => by have := hh.1; simp only [Cl.seen, hr] at this; omega), if_pos ⟨hr, rfl, by simp [rdyE]⟩]
      have e5 : cstp q (X', { x.seen (eA q X x.pg) with at_ := 0, sw := none }) = (X', { ({ x.seen (eA q X x.pg) with at_ := 0, sw := none } : Cl).seen (eA q X' x.pg) with at_ := 1 }) := by rw [e3]; exact congrArg _ e4
      obtain ⟨n2, m', hn2, hg2, hh⟩ := ready hq hl' (x := { ({ x.seen (eA q X x.pg) with at_ := 0, sw := none } : Cl).seen (eA q X' x.pg) with at_ := 1 }) hp rfl rfl (by simp only [Cl.seen, hd2]) (by simp only [Cl.seen, hd2])
      refine ⟨(n + 1 + 1) + (n2 + 1), m', by omega, CGo.trans (m1 := (X', { x.seen (eA q X x.pg) with at_ := 0, sw := none })) ⟨h9, by rw [e']; exact hgo⟩ ⟨ne9 (k := 0) rfl (by decide), by rw [e5]; exact hg2⟩, hh.imp id fun w => ?_⟩
      obtain ⟨z, r, o, l⟩ := w
      exact ⟨z, r, fun j hj hne => ⟨(o j hj hne).1.trans (fr j hj hne).1, (o j hj hne).2.trans (fr j hj hne).2⟩, l.trans hlen⟩
  · refine ⟨1, _, by omega, .one h9 e, .inr (next_ h0 rfl rfl rfl)⟩
theorem visit1 {q : Cp} (hq : q.Right) {X : List Int} (hl : X.length = 128 + 64 * q.P) {x : Cl} (hp : x.pg < q.P + 1) (h : x.at_ = 0) (hr : x.rd = 1) (hx : x.sw = none) (h0 : P0 q (eA q X x.pg) (aA q X x.pg)) :
    ∃ n m', n ≤ 20 ∧ CGo q n (X, x) m' ∧ (Got q m' ∨ Went q (P1 q) X x m') := by
  have h9 : x.at_ ≠ 9 := by rw [h]; decide
  have e := c0 (q := q) (X := X) h
  by_cases hv : eA q X x.pg = 0
  · have e2 : x.ask q (X.getD (adr q.P q.T 0 x.pg) 0) = { x.seen (eA q X x.pg) with at_ := 5 } := by unfold Cl.ask; rw [if_pos ⟨hr, hv⟩]
    rw [e2] at e
    obtain ⟨m', hg, hh⟩ := grab hq hl (x := { x.seen (eA q X x.pg) with at_ := 5 }) hp rfl hv
    exact ⟨3 + 1, m', by omega, ⟨h9, by rw [e]; exact hg⟩, .inl hh⟩
  · have e2 : x.ask q (X.getD (adr q.P q.T 0 x.pg) 0) = (x.seen (eA q X x.pg)).next q := by
      unfold Cl.ask
      rw [if_neg (fun hh => hv hh.2), if_neg (fun hh => by have := hh.1; omega), if_neg (fun hh => by have := hh.1; omega)]
    rw [e2] at e
    exact ⟨1, _, by omega, .one h9 e, .inr (next_ ⟨h0, hv⟩ rfl rfl rfl)⟩
theorem visit2 {q : Cp} (hq : q.Right) {X : List Int} (hl : X.length = 128 + 64 * q.P) {x : Cl} (hp : x.pg < q.P + 1) (h : x.at_ = 8) (hr : x.rd = 2) (hx : x.sw = none) (h0 : P1 q (eA q X x.pg) (aA q X x.pg)) :
    ∃ n m', n ≤ 20 ∧ CGo q n (X, x) m' ∧ (Got q m' ∨ Went q (P2 q) X x m') := by
  have h9 : x.at_ ≠ 9 := by rw [h]; decide
  have hy : x.swp q = sw0 q.P q.T q.t q.cyc x.pg := by unfold Cl.swp; rw [hx]
  obtain ⟨k, c, s, o, y, f, hd⟩ : ∃ k c s o y f, dec (eA q X x.pg) = (k, c, s, o, y, f) := ⟨_, _, _, _, _, _, rfl⟩
  by_cases hdu : f = 0 ∧ Sw.due { sw0 q.P q.T q.t q.cyc x.pg with was := X.getD (adr q.P q.T 0 x.pg) 0, k := k, c := c, st := s, o := o, y := y, at_ := 1 } = true
  · obtain ⟨rfl, hdu⟩ := hdu
    have hk := due_kind hdu
    have hk2 : k = 1 ∨ k = 2 := hk.1
    have hs : s = 0 := hk.2.1
    have hyc : y < q.cyc := hk.2.2.1
    have hc2 : k = 2 → (x.pg : Int) + c ≤ (q.P : Int) + 1 := hk.2.2.2
    have hdE : dueE k s y q.cyc = true := by rcases hk2 with rfl | rfl <;> simp [dueE, hs, hyc]
    have hi : isE k c s o y = true := by rcases dec_isE hd with h | h <;> first | exact h.2 | exact absurd h (by decide)
    obtain ⟨n, X', x', hn1, hn, hg, h8, hsw, hem, hlen, hE, hA⟩ := sw_due (who := q.t) hq.hP hq.hT hp hl hd hdE hc2
    obtain ⟨n, rfl⟩ : ∃ k, n = k + 1 := ⟨n - 1, by omega⟩
    have hgo := swp_go q n X X' x (sw0 q.P q.T q.t q.cyc x.pg) x' (.inr h) hy hg h8
    generalize lft k (X.getD (adr q.P q.T 1 x.pg) 0) (X.getD (adr q.P q.T 2 x.pg) 0) = L at hem hE hA
    have hl' : X'.length = 128 + 64 * q.P := hlen.trans hl
    by_cases hz : L = 0
    · rw [if_pos hz] at hE
      have es : x.swept q x' = { x with at_ := 5, sw := none } := by
        unfold Cl.swept
        rw [if_pos h8, if_neg (fun hh => by have := hh.1; omega), if_pos ⟨hr, hsw, by rw [hem, hz]; rfl⟩]
      rw [es] at hgo
      obtain ⟨m', hg2, hh⟩ := grab hq hl' (x := { x with at_ := 5, sw := none }) hp rfl hE
      exact ⟨n + 1 + 3, m', by omega, hgo.trans hg2, .inl hh⟩
    · rw [if_neg hz] at hE
      have es : x.swept q x' = x.next q := by
        unfold Cl.swept
        rw [if_pos h8, if_neg (fun hh => by have := hh.1; omega), if_neg (fun hh => by have := hh.2.2; rw [hem] at this; simp [hz] at this)]
      rw [es] at hgo
      obtain ⟨hA1, hA2⟩ := hA (.inl hz)
      have hi2 : isE k c 0 0 q.cyc = true := isE_given hi hk2 hq.hy
      have hE' : eA q X' x.pg = wordOf k c 0 0 q.cyc := hE
      refine ⟨n + 1, _, by omega, hgo, .inr ⟨⟨x, rfl, rfl, rfl, rfl⟩, ⟨⟨?_, ?_⟩, ?_⟩, fun j hj hne => ?_, hlen⟩⟩
      · show P0 q (eA q X' x.pg) _
        rw [hE']
        intro _ a2 _ a4
        rw [decW hi2] at a2 a4
        have hp0 := h0.1
        rw [P0, hd] at hp0
        have := hp0 rfl a2 hs a4
        simp only at this
        omega
      · show eA q X' x.pg ≠ 0
        rw [hE']
        exact wordOf_ne hi2 (by rcases hk2 with h | h <;> rw [h] <;> decide)
      · show (dec (eA q X' x.pg)).2.2.2.2.2 = 0 → (dec (eA q X' x.pg)).1 = 1 → (dec (eA q X' x.pg)).2.2.1 = 0 → q.cyc ≤ (dec (eA q X' x.pg)).2.2.2.2.1
        rw [hE', decW hi2]
        intro _ _ _
        exact Int.le_refl _
      · exact ⟨hA2 _ (adr_ne hj hp (by decide) (.inr hne)) (adr_ne hj hp (by decide) (.inl (by decide))) (adr_ne hj hp (by decide) (.inl (by decide))),
         hA2 _ (adr_ne hj hp (by decide) (.inl (by decide))) (adr_ne hj hp (by decide) (.inr hne)) (adr_ne hj hp (by decide) (.inl (by decide)))⟩
  · have hdu' : f = 4 ∨ Sw.due { sw0 q.P q.T q.t q.cyc x.pg with was := X.getD (adr q.P q.T 0 x.pg) 0, k := k, c := c, st := s, o := o, y := y, at_ := 1 } = false := by
      rcases dec_isE hd with ⟨rfl, _⟩ | rfl
      · right
        cases h : Sw.due { sw0 q.P q.T q.t q.cyc x.pg with was := X.getD (adr q.P q.T 0 x.pg) 0, k := k, c := c, st := s, o := o, y := y, at_ := 1 }
        · rfl
        · exact absurd ⟨rfl, h⟩ hdu
      · exact .inl rfl
    obtain ⟨x', e0, h8, hsw⟩ := s0n (P := q.P) (T := q.T) (page := x.pg) (X := X) (x := sw0 q.P q.T q.t q.cyc x.pg) rfl hd hdu'
    have hgo := swp_go q 0 X X x (sw0 q.P q.T q.t q.cyc x.pg) x' (.inr h) hy ⟨ne8 (k := 0) rfl (by decide), e0⟩ h8
    have es : x.swept q x' = x.next q := by
      unfold Cl.swept
      rw [if_pos h8, if_neg (fun hh => by have := hh.1; omega), if_neg (fun hh => by have := hh.2.1; rw [hsw] at this; cases this)]
    rw [es] at hgo
    refine ⟨1, _, by omega, hgo, .inr (next_ ⟨h0, ?_⟩ rfl rfl rfl)⟩
    intro a1 a2 a3
    rw [hd] at a1 a2 a3 ⊢
    simp only at a1 a2 a3 ⊢
    subst a1 a2 a3
    rcases hdu' with h | h
    · exact absurd h (by decide)
    · simp only [Sw.due, dueE, Bool.and_eq_false_iff, Bool.or_eq_false_iff, beq_eq_false_iff_ne, decide_eq_false_iff_not, Bool.not_eq_false', beq_iff_eq] at h
      rcases h with ((h | h) | h) | h
      · exact absurd rfl h.1
      · exact absurd rfl h
      · omega
      · exact absurd h.1 (by decide)
theorem round_ {q : Cp} (hq : q.Right) (r a0 : Int) (R R' : Int → Int → Prop)
    (visit : ∀ (X : List Int) (x : Cl), X.length = 128 + 64 * q.P → x.pg < q.P + 1 → x.at_ = a0 → x.rd = r → x.sw = none → R (eA q X x.pg) (aA q X x.pg) → ∃ n m', n ≤ 20 ∧ CGo q n (X, x) m' ∧ (Got q m' ∨ Went q R' X x m'))
    (hat : (if r = 2 then 8 else if r = 3 then 9 else 0 : Int) = a0) :
    ∀ (d : Nat) (X : List Int) (x : Cl), x.pg + d = q.P → X.length = 128 + 64 * q.P → x.at_ = a0 → x.rd = r → x.sw = none → (∀ j, j < x.pg → R' (eA q X j) (aA q X j)) → (∀ j, x.pg ≤ j → j < q.P + 1 → R (eA q X j) (aA q X j)) →
      ∃ n m', n ≤ 20 * (d + 1) ∧ CGo q n (X, x) m' ∧ (Got q m' ∨ m'.2.pg = 0 ∧ m'.2.rd = r + 1 ∧ m'.2.at_ = (if r + 1 = 2 then 8 else if r + 1 = 3 then 9 else 0) ∧ m'.2.sw = none ∧ m'.2.got = x.got ∧ m'.1.length = 128 + 64 * q.P ∧ ∀ j, j < q.P + 1 → R' (eA q m'.1 j) (aA q m'.1 j))
  | d, X, x, hpd, hl, ha, hr, hs, h1, h2 => by
    obtain ⟨n, m', hn, hg, hh⟩ := visit X x hl (by omega) ha hr hs (h2 _ (Nat.le_refl _) (by omega))
    rcases hh with hh | ⟨⟨z, hz, z1, z2, z3⟩, hR, ho, hlen⟩
    · exact ⟨n, m', by omega, hg, .inl hh⟩
    · obtain ⟨X', x'⟩ := m'
      simp only at hz hR ho hlen
      subst hz
      have hl' := hlen.trans hl
      have hd1 : ∀ j, j < x.pg + 1 → R' (eA q X' j) (aA q X' j) := fun j hj => by
        by_cases hjx : j = x.pg
        · rw [hjx]; exact hR
        · rw [(ho j (by omega) hjx).1, (ho j (by omega) hjx).2]; exact h1 j (by omega)
      cases d with
      | zero =>
        refine ⟨n, _, by omega, hg, .inr ?_⟩
        have e : z.next q = { z with pg := 0, rd := z.rd + 1, at_ := if z.rd + 1 = 2 then 8 else if z.rd + 1 = 3 then 9 else 0, sw := none } := by unfold Cl.next; rw [if_neg (by omega)]
        rw [e]
        exact ⟨rfl, by show z.rd + 1 = _; rw [z1, hr], by show (if z.rd + 1 = 2 then (8 : Int) else if z.rd + 1 = 3 then 9 else 0) = _; rw [z1, hr], rfl, z3, hl', fun j hj => hd1 j (by omega)⟩
      | succ d =>
        have e : z.next q = { z with pg := z.pg + 1, at_ := if z.rd = 2 then 8 else if z.rd = 3 then 9 else 0, sw := none } := by unfold Cl.next; rw [if_pos (by omega)]
        rw [e] at hg
        obtain ⟨n2, m2, hn2, hg2, hh2⟩ := round_ hq r a0 R R' visit hat d X' { z with pg := z.pg + 1, at_ := if z.rd = 2 then 8 else if z.rd = 3 then 9 else 0, sw := none } (by show z.pg + 1 + d = _; omega) hl' (by show (if z.rd = 2 then 8 else if z.rd = 3 then 9 else 0 : Int) = a0; rw [z1, hr]; exact hat) (z1.trans hr) rfl
          (fun j hj => hd1 j (by have : j < z.pg + 1 := hj; omega)) (fun j hj hj2 => by have hj' : z.pg + 1 ≤ j := hj; rw [(ho j hj2 (by omega)).1, (ho j hj2 (by omega)).2]; exact h2 j (by omega) hj2)
        refine ⟨n + n2, m2, by omega, hg.trans hg2, hh2.imp id fun ⟨a, b, c, d, e, f⟩ => ⟨a, b, c, d, e.trans z3, f⟩⟩
/-- A claim, new. -/
abbrev cl0 : Cl := ⟨0, 0, 0, 0, 0, 0, 0, 0, 0, none, 0, false⟩
/-- It comes to its end, in so many steps: it has a page, or there is none. -/
theorem claims_ {q : Cp} (hq : q.Right) {X : List Int} (hl : X.length = 128 + 64 * q.P) :
    ∃ n m', n ≤ 300 ∧ CGo q n (X, cl0) m' ∧ (Got q m' ∨ m'.2.at_ = 9 ∧ m'.2.got = false ∧ m'.1.length = 128 + 64 * q.P ∧ ∀ j, j < q.P + 1 → P2 q (eA q m'.1 j) (aA q m'.1 j)) := by
  have hP := hq.hP
  obtain ⟨n, ⟨X1, x1⟩, hn, hg, hh⟩ := round_ hq 0 0 (fun _ _ => True) (P0 q) (fun X x hl hp h hr hs _ => visit0 hq hl hp h hr hs) rfl q.P X cl0 (by simp) hl rfl rfl rfl (fun j hj => absurd hj (Nat.not_lt_zero _)) (fun _ _ _ => trivial)
  rcases hh with hh | ⟨a1, a2, a3, a4, a5, a6, a7⟩
  · exact ⟨n, _, by omega, hg, .inl hh⟩
  simp only at a1 a2 a3 a4 a5 a6 a7
  obtain ⟨n2, ⟨X2, x2⟩, hn2, hg2, hh2⟩ := round_ hq 1 0 (P0 q) (P1 q) (fun X x hl hp h hr hs h0 => visit1 hq hl hp h hr hs h0) rfl q.P X1 x1 (by rw [a1]; simp) a6 a3 a2 a4 (fun j hj => by rw [a1] at hj; exact absurd hj (Nat.not_lt_zero _)) (fun j _ hj => a7 j hj)
  rcases hh2 with hh2 | ⟨b1, b2, b3, b4, b5, b6, b7⟩
  · exact ⟨n + n2, _, by omega, hg.trans hg2, .inl hh2⟩
  simp only at b1 b2 b3 b4 b5 b6 b7
  obtain ⟨n3, ⟨X3, x3⟩, hn3, hg3, hh3⟩ := round_ hq 2 8 (P1 q) (P2 q) (fun X x hl hp h hr hs h0 => visit2 hq hl hp h hr hs h0) rfl q.P X2 x2 (by rw [b1]; simp) b6 b3 b2 b4 (fun j hj => by rw [b1] at hj; exact absurd hj (Nat.not_lt_zero _)) (fun j _ hj => b7 j hj)
  refine ⟨n + n2 + n3, _, by omega, (hg.trans hg2).trans hg3, hh3.imp id fun ⟨c1, c2, c3, c4, c5, c6, c7⟩ => ⟨c3, c5.trans (b5.trans a5), c6, c7⟩⟩
end Go.Proofs.YtelfiegocdjnoaaDoor.Ar
