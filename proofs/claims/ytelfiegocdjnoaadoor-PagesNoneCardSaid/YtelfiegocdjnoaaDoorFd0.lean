/- An arena's field: what it is made of; what is laid. Conditions: the pages lie in memory that is read only. -/
import Derived.Test.YtelfiegocdjnoaaDoorSw4
import Derived.Test.YtelfiegocdjnoaaDoorOpen
import Derived.Test.YtelfiegocdjnoaaDoorMrF0
namespace Go.Proofs.YtelfiegocdjnoaaDoor.Ar
open Go Go.RowKit Go.Proofs.YtelfiegocdjnoaaDoor.Sep Go.Proofs.YtelfiegocdjnoaaDoor.Pg Go.Proofs.YtelfiegocdjnoaaDoorW.PrintWords Go.Proofs.YtelfiegocdjnoaaDoorW.PrintLast Go.Proofs.YtelfiegocdjnoaaDoorW.PrintMore Go.Proofs.YtelfiegocdjnoaaDoor.Q
set_option linter.unusedVariables false
set_option linter.unusedSimpArgs false
set_option maxHeartbeats 8000000
set_option maxRecDepth 100000
/-! ### A page (its entry, an odd word, which objects are allocated, marked); a turn -/
structure SPg where
  f0 : Int
  f1 : Int
  f2 : Int
  f3 : Int
  f4 : Int
  f5 : Int
  f6 : Int
  f7 : Int
def zPg : SPg := ⟨(0 : Int), (0 : Int), (0 : Int), (0 : Int), (0 : Int), (0 : Int), (0 : Int), (0 : Int)⟩
def kPg : Kd SPg := Kd.iso (Kd.pair (Kd.int .i64) (Kd.pair (Kd.int .i64) (Kd.pair (Kd.int .i64) (Kd.pair (Kd.int .i64) (Kd.pair (Kd.int .i64) (Kd.pair (Kd.int .u64) (Kd.pair (Kd.int .u64) (Kd.int .u64)))))))) (fun x : SPg => (x.f0, x.f1, x.f2, x.f3, x.f4, x.f5, x.f6, x.f7))
theorem kPg_open {w : World} {x : SPg} {cs : List Value} (h : kPg.K w x cs) : cs = [.int .i64 x.f0, .int .i64 x.f1, .int .i64 x.f2, .int .i64 x.f3, .int .i64 x.f4, .int .u64 x.f5, .int .u64 x.f6, .int .u64 x.f7] := by
  obtain ⟨_, _, rfl, rfl, ⟨_, _, rfl, rfl, ⟨_, _, rfl, rfl, ⟨_, _, rfl, rfl, ⟨_, _, rfl, rfl, ⟨_, _, rfl, rfl, ⟨_, _, rfl, rfl, rfl⟩⟩⟩⟩⟩⟩⟩ := h
  exact rfl
def rd_Pg (xs : List SPg) (i : Int) : SPg := xs.getD i.toNat zPg
theorem at_Pg {w : World} {A : Option Addr} {n : Nat} {xs : List SPg} (h : Kd.C kPg w A n xs) (i : Int) (h0 : 0 ≤ i) (h1 : i < n) : ∃ ad , A = some ad ∧ w.cell? (ad.add (i.toNat * 8)) = some (.int .i64 (rd_Pg xs i).f0) ∧ w.cell? ⟨(ad.add (i.toNat * 8)).block, (ad.add (i.toNat * 8)).off + 1, none⟩ = some (.int .i64 (rd_Pg xs i).f1) ∧ w.cell? ⟨(ad.add (i.toNat * 8)).block, (ad.add (i.toNat * 8)).off + 2, none⟩ = some (.int .i64 (rd_Pg xs i).f2) ∧ w.cell? ⟨(ad.add (i.toNat * 8)).block, (ad.add (i.toNat * 8)).off + 3, none⟩ = some (.int .i64 (rd_Pg xs i).f3) ∧ w.cell? ⟨(ad.add (i.toNat * 8)).block, (ad.add (i.toNat * 8)).off + 4, none⟩ = some (.int .i64 (rd_Pg xs i).f4) ∧ w.cell? ⟨(ad.add (i.toNat * 8)).block, (ad.add (i.toNat * 8)).off + 5, none⟩ = some (.int .u64 (rd_Pg xs i).f5) ∧ w.cell? ⟨(ad.add (i.toNat * 8)).block, (ad.add (i.toNat * 8)).off + 6, none⟩ = some (.int .u64 (rd_Pg xs i).f6) ∧ w.cell? ⟨(ad.add (i.toNat * 8)).block, (ad.add (i.toNat * 8)).off + 7, none⟩ = some (.int .u64 (rd_Pg xs i).f7) := by
  obtain ⟨ad, c, e, _, hK, hc0⟩ := Kd.C_get h zPg i h0 h1
  have hc : ∀ j u, c[j]? = some u → w.cell? (ad.add (i.toNat * 8 + j)) = some u := hc0
  obtain rfl := kPg_open hK
  exact ⟨ad, e, hc 0 _ rfl, by rw [← add_field _ _ 1 (by omega)]; exact hc 1 _ rfl, by rw [← add_field _ _ 2 (by omega)]; exact hc 2 _ rfl, by rw [← add_field _ _ 3 (by omega)]; exact hc 3 _ rfl, by rw [← add_field _ _ 4 (by omega)]; exact hc 4 _ rfl, by rw [← add_field _ _ 5 (by omega)]; exact hc 5 _ rfl, by rw [← add_field _ _ 6 (by omega)]; exact hc 6 _ rfl, by rw [← add_field _ _ 7 (by omega)]; exact hc 7 _ rfl⟩
structure STu where
  f0 : Int
  f1 : Int
  f2 : Int
  f3 : Int
  f4 : Int
  f5 : Int
  f6 : Int
/-! ### The field -/
abbrev fdB (x P T a d p : Nat) : HP := blk x #[.int .i64 ((P : Int) + 1), .int .i64 ((T : Int) + 1), .int .i64 1, .int .i64 ((P : Int) + 1), .int .i64 ((T : Int) + 1), .int .i64 1, .int .i64 64, .int .i64 (22 + 6 * (T : Int)), .int .i64 (128 + 64 * (P : Int)),
  .pointer (some ⟨a, 0, none⟩), .pointer (some ⟨d, 0, none⟩), .pointer (some ⟨p, 0, none⟩)] 127
abbrev daB (d gD n : Nat) (lv : Value) (f : Int) : HP := blk d #[.slice (some ⟨gD, 0, none⟩) n n, lv, .int .i64 f] 95
/-- The word of a page's entry. -/
def pgW (g : SPg) : Int := if g.f5 = 0 then (if isE g.f0 g.f1 g.f2 g.f3 g.f4 = true then wordOf g.f0 g.f1 g.f2 g.f3 g.f4 else 0) else g.f5
def lay1 (P T : Nat) (X : List Int) (i : Nat) (g : SPg) : List Int := ((X.set (adr P T 0 i) (pgW g)).set (adr P T 1 i) g.f6).set (adr P T 2 i) g.f7
/-- What is laid, from the page i on. -/
def layX (P T : Nat) : List SPg → Nat → List Int → List Int
  | [], _, X => X
  | g :: r, i, X => if i < P + 1 then layX P T r (i + 1) (lay1 P T X i g) else X
theorem lay1_len {P T : Nat} {X : List Int} {i : Nat} {g : SPg} : (lay1 P T X i g).length = X.length := by simp [lay1]
theorem layX_len {P T : Nat} : ∀ (l : List SPg) (i : Nat) (X : List Int), (layX P T l i X).length = X.length
  | [], _, _ => rfl
  | g :: r, i, X => by
    unfold layX
    split
    · rw [layX_len r, lay1_len]
    · rfl
theorem layX_stop {P T : Nat} (l : List SPg) (i : Nat) (X : List Int) (h : ¬ i < P + 1) : layX P T l i X = X := by
  cases l with
  | nil => rfl
  | cons g r => unfold layX; rw [if_neg h]
def rngP (g : SPg) : Prop := u64 g.f5 ∧ u64 g.f6 ∧ u64 g.f7
def Rng (X : List Int) : Prop := ∀ i, u64 (X.getD i 0)
theorem Rng.set {X : List Int} (h : Rng X) (i : Nat) {v : Int} (hv : u64 v) : Rng (X.set i v) := by
  intro j
  have hj := h j
  rw [List.getD_eq_getElem?_getD] at hj ⊢
  by_cases hij : i = j
  · subst hij
    by_cases hl : i < X.length
    · rw [List.getElem?_set_self hl]; exact hv
    · rw [List.set_eq_of_length_le (by omega)]; exact hj
  · rw [List.getElem?_set_ne hij]; exact hj
theorem pgW_u64 {g : SPg} (h : u64 g.f5) : u64 (pgW g) := by
  unfold pgW
  split
  · split
    · rename_i h2; exact wordOf_u64 h2
    · unfold u64; decide
  · exact h
theorem layX_rng {P T : Nat} : ∀ (l : List SPg) (i : Nat) (X : List Int), (∀ g ∈ l, rngP g) → Rng X → Rng (layX P T l i X)
  | [], _, _, _, h => h
  | g :: r, i, X, hl, h => by
    have hg := hl g List.mem_cons_self
    unfold layX
    split
    · exact layX_rng r _ _ (fun y hy => hl y (List.mem_cons_of_mem _ hy)) (((h.set _ (pgW_u64 hg.1)).set _ hg.2.1).set _ hg.2.2)
    · exact h
theorem rng_zeros (n : Nat) : Rng (List.replicate n 0) := by
  intro j
  rw [List.getD_eq_getElem?_getD, List.getElem?_replicate]
  split <;> (unfold u64; decide)
/-- A field: the document's arena, the program's, a port. -/
abbrev Fd (x P T a d p gD gC : Nat) (who : Int) (g : Bool) (X : List Int) (lv2 : Value) (l2 : List Acc) (f2 : Int) (lv : Value) (l : List Acc) (cn fl : Int) : List HP :=
  [fdB x P T a d p, daB d gD X.length lv2 f2, blk gD (U X).toArray 22, row 98 7 lv2 l2.length (accs l2)] ++ Are p a gC who g X lv l cn fl
/-- The plan of a word. -/
def pgs (q : Int) : Nat := (IntKind.u64.wrap q % 5).toNat
def thr (q : Int) : Nat := (IntKind.u64.wrap q % 3).toNat
theorem small_ (q1 q2 q3 : Int) : windrowlaw09_small.f q1 q2 q3 = some ((pgs q1 : Int) + 1, (thr q2 : Int) + 1, 1) := by
  unfold windrowlaw09_small.f pgs thr
  have h1 : 0 ≤ IntKind.u64.wrap q1 := by rw [IntKind.wrap_u64]; omega
  have h2 : 0 ≤ IntKind.u64.wrap q2 := by rw [IntKind.wrap_u64]; omega
  generalize IntKind.u64.wrap q1 = a at *
  generalize IntKind.u64.wrap q2 = b at *
  rw [Int.tmod_eq_emod_of_nonneg h1, Int.tmod_eq_emod_of_nonneg h2, w_of (a % 5) (by omega) (by omega), w_of (b % 3) (by omega) (by omega), w_of (1 + a % 5) (by omega) (by omega), w_of (1 + b % 3) (by omega) (by omega)]
  have e1 : ((a % 5).toNat : Int) = a % 5 := Int.toNat_of_nonneg (by omega)
  have e2 : ((b % 3).toNat : Int) = b % 3 := Int.toNat_of_nonneg (by omega)
  rw [e1, e2, Int.add_comm 1 (a % 5), Int.add_comm 1 (b % 3)]
theorem pgs_lt (q : Int) : pgs q < 5 := by unfold pgs; have : 0 ≤ IntKind.u64.wrap q := by rw [IntKind.wrap_u64]; omega
                                           omega
theorem thr_lt (q : Int) : thr q < 3 := by unfold thr; have : 0 ≤ IntKind.u64.wrap q := by rw [IntKind.wrap_u64]; omega
                                           omega
end Go.Proofs.YtelfiegocdjnoaaDoor.Ar
