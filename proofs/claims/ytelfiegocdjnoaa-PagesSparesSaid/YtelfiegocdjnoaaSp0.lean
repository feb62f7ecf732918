/- A page that was swept by an earlier cycle is swept: what a sweep comes to, plain. No memory. -/
import Derived.Test.YtelfiegocdjnoaaMa0
namespace Go.Proofs.Ytelfiegocdjnoaa.Ar
open Go Go.RowKit Go.Proofs.Ytelfiegocdjnoaa.Sep Go.Proofs.Ytelfiegocdjnoaa.Pg Go.Proofs.YtelfiegocdjnoaaW.PrintWords Go.Proofs.YtelfiegocdjnoaaW.PrintLast Go.Proofs.YtelfiegocdjnoaaW.PrintMore Go.Proofs.Ytelfiegocdjnoaa.Q
set_option linter.unusedVariables false
set_option linter.unusedSimpArgs false
set_option maxRecDepth 100000
theorem gset (X : List Int) (i j : Nat) (v : Int) (hi : i < X.length) : (X.set i v).getD j 0 = if i = j then v else X.getD j 0 := by
  rw [List.getD_eq_getElem?_getD, List.getD_eq_getElem?_getD, List.getElem?_set]
  by_cases h : i = j
  · subst h; simp [hi]
  · simp [h]
def spG (C was al mk : Int) : SPg := ⟨1, C, 0, 0, was, 0, al, mk⟩
def spX (C was al mk : Int) : List Int := (((List.replicate 256 0).set 22 (wordOf 1 C 0 0 was)).set 25 al).set 28 mk
theorem isE_sp {C y : Int} (hC : 0 ≤ C ∧ C < 8) (hy : 0 ≤ y ∧ y ≤ 4294967295) : isE 1 C 0 0 y = true := by
  unfold isE
  have ho : own 1 0 0 = true := by unfold own; rw [if_pos rfl]; rfl
  rw [ho, if_neg (fun hh => by rcases hh with hh | hh | hh <;> first | omega | cases hh), if_pos rfl]
  simpa using hC
theorem layX_sp {C was al mk : Int} (hC : 0 ≤ C ∧ C < 8) (hw : 0 ≤ was ∧ was ≤ 4294967295) : layX 2 0 [spG C was al mk] 0 (List.replicate (128 + 64 * 2) 0) = spX C was al mk := by
  have e : pgW (spG C was al mk) = wordOf 1 C 0 0 was := by
    unfold pgW spG
    rw [if_pos rfl, if_pos (isE_sp hC hw)]
  unfold layX
  rw [if_pos (by decide)]
  unfold lay1 spX
  rw [e]
  rfl
theorem spX_len {C was al mk : Int} : (spX C was al mk).length = 256 := by simp [spX]
theorem spX_22 {C was al mk : Int} : (spX C was al mk).getD 22 0 = wordOf 1 C 0 0 was := by
  unfold spX
  rw [gset _ _ _ _ (by simp), if_neg (by decide), gset _ _ _ _ (by simp), if_neg (by decide), gset _ _ _ _ (by simp), if_pos rfl]
theorem spX_25 {C was al mk : Int} : (spX C was al mk).getD 25 0 = al := by
  unfold spX
  rw [gset _ _ _ _ (by simp), if_neg (by decide), gset _ _ _ _ (by simp), if_pos rfl]
theorem spX_28 {C was al mk : Int} : (spX C was al mk).getD 28 0 = mk := by
  unfold spX
  rw [gset _ _ _ _ (by simp), if_pos rfl]
theorem dec_word {k c s o y : Int} (h : isE k c s o y = true) : dec (wordOf k c s o y) = (k, c, s, o, y, 0) := by
  have hl := isE_le h
  unfold dec
  have e1 : wordOf k c s o y % 4 = k := by unfold wordOf; omega
  have e2 : wordOf k c s o y / 4 % 16 = c := by unfold wordOf; omega
  have e3 : wordOf k c s o y / 64 % 4 = s := by unfold wordOf; omega
  have e4 : wordOf k c s o y / 256 % 16 = o := by unfold wordOf; omega
  have e5 : wordOf k c s o y / 65536 % 4294967296 = y := by unfold wordOf; omega
  simp only [e1, e2, e3, e4, e5]
  rw [if_pos ⟨h, trivial⟩]
/-- What stays allocated. -/
def spL (al mk : Int) : Int := Go.bits .and .u64 al mk
def spM (C was al mk cyc : Int) : Ma := ⟨spX C was al mk, sw0 2 0 15 cyc 0, []⟩
def spE (C was cyc : Int) : Sw := { sw0 2 0 15 cyc 0 with was := wordOf 1 C 0 0 was, k := 1, c := C, st := 0, o := 0, y := was, at_ := 1 }
theorem stp_mk {P T page : Nat} {who : Int} {X : List Int} {x : Sw} {l : List Acc} : (Ma.mk X x l).stp P T page who = ⟨X.set (x.acc P T page).2.1 (leftOf (x.acc P T page).1 (X.getD (x.acc P T page).2.1 0) (x.acc P T page).2.2.1 (x.acc P T page).2.2.2), x.aft (X.getD (x.acc P T page).2.1 0),
    l ++ [⟨who, (x.acc P T page).1, (x.acc P T page).2.1, (x.acc P T page).2.2.1, (x.acc P T page).2.2.2, X.getD (x.acc P T page).2.1 0, leftOf (x.acc P T page).1 (X.getD (x.acc P T page).2.1 0) (x.acc P T page).2.2.1 (x.acc P T page).2.2.2⟩]⟩ := rfl
theorem due_sp {C was cyc : Int} : (spE C was cyc).due = decide (was < cyc) := by
  unfold Sw.due dueE spE
  simp
theorem sp_not {C was al mk cyc : Int} (hC : 0 ≤ C ∧ C < 8) (hw : 0 ≤ was ∧ was ≤ 4294967295) (hn : ¬ was < cyc) :
    ((spM C was al mk cyc).runs 2 0 0 15 8).x.at_ = 8 ∧ ((spM C was al mk cyc).runs 2 0 0 15 8).x.swept = false ∧ ((spM C was al mk cyc).runs 2 0 0 15 8).X.getD 25 0 = al ∧ ((spM C was al mk cyc).runs 2 0 0 15 8).X.getD 28 0 = mk := by
  have hd : dec ((spX C was al mk).getD 22 0) = (1, C, 0, 0, was, 0) := by rw [spX_22]; exact dec_word (isE_sp hC hw)
  have e1 : (spM C was al mk cyc).stp 2 0 0 15 = ⟨(spX C was al mk).set 22 ((spX C was al mk).getD 22 0), (sw0 2 0 15 cyc 0).look ((spX C was al mk).getD 22 0), [⟨15, 1, 22, 0, 0, (spX C was al mk).getD 22 0, (spX C was al mk).getD 22 0⟩]⟩ := rfl
  have hdu : Sw.due { sw0 2 0 15 cyc 0 with was := (spX C was al mk).getD 22 0, k := 1, c := C, st := 0, o := 0, y := was, at_ := 1 } = false := (due_sp (C := C) (was := was) (cyc := cyc)).trans (decide_eq_false hn)
  have hlk := look_no0 hd hdu (by decide)
  rw [runs_step (m := spM C was al mk cyc) (k := 7) (show (0 : Int) ≠ 8 by decide), e1, set_same, runs_over (by rw [hlk])]
  exact ⟨by rw [hlk], by rw [hlk], spX_25, spX_28⟩
theorem sp_due {C was al mk cyc : Int} (hC : 0 ≤ C ∧ C < 8) (hw : 0 ≤ was ∧ was ≤ 4294967295) (hn : was < cyc) (ha : u64 al) (hm : u64 mk) :
    ((spM C was al mk cyc).runs 2 0 0 15 8).x.at_ = 8 ∧ ((spM C was al mk cyc).runs 2 0 0 15 8).x.swept = true ∧ ((spM C was al mk cyc).runs 2 0 0 15 8).x.empty = (spL al mk == 0) ∧
      ((spM C was al mk cyc).runs 2 0 0 15 8).x.freed = (Pop.cnt 64 (al.toNat &&& (18446744073709551615 - (spL al mk).toNat)) : Nat) ∧ ((spM C was al mk cyc).runs 2 0 0 15 8).X.getD 25 0 = spL al mk ∧ ((spM C was al mk cyc).runs 2 0 0 15 8).X.getD 28 0 = 0 ∧
      ((spM C was al mk cyc).runs 2 0 0 15 8).X.getD 22 0 = (if (spL al mk == 0) = true then 0 else wordOf 1 C 0 0 cyc) := by
  have hd : dec ((spX C was al mk).getD 22 0) = (1, C, 0, 0, was, 0) := by rw [spX_22]; exact dec_word (isE_sp hC hw)
  have e1 : (spM C was al mk cyc).stp 2 0 0 15 = ⟨(spX C was al mk).set 22 ((spX C was al mk).getD 22 0), (sw0 2 0 15 cyc 0).look ((spX C was al mk).getD 22 0), [⟨15, 1, 22, 0, 0, (spX C was al mk).getD 22 0, (spX C was al mk).getD 22 0⟩]⟩ := rfl
  have hdu : Sw.due { sw0 2 0 15 cyc 0 with was := (spX C was al mk).getD 22 0, k := 1, c := C, st := 0, o := 0, y := was, at_ := 1 } = true := (due_sp (C := C) (was := was) (cyc := cyc)).trans (decide_eq_true hn)
  have hlk := look_due hd hdu
  have el := set_same (spX C was al mk) 22
  rw [el, hlk, spX_22] at e1
  rw [runs_step (m := spM C was al mk cyc) (k := 7) (show (0 : Int) ≠ 8 by decide), e1]
  have hlen : (spX C was al mk).length = 256 := spX_len
  have g22 : (spX C was al mk).getD 22 0 = wordOf 1 C 0 0 was := spX_22
  have g25 : (spX C was al mk).getD 25 0 = al := spX_25
  have g28 : (spX C was al mk).getD 28 0 = mk := spX_28
  generalize spX C was al mk = X at hlen g22 g25 g28 ⊢
  generalize wordOf 1 C 0 0 was = W at g22 ⊢
  -- the page is taken
  have e2 : ∀ l, (Ma.mk X { sw0 2 0 15 cyc 0 with was := W, k := 1, c := C, st := 0, o := 0, y := was, at_ := 1 } l).stp 2 0 0 15 = ⟨X.set 22 (wordOf 1 C 2 15 was), { sw0 2 0 15 cyc 0 with was := W, k := 1, c := C, st := 0, o := 0, y := was, at_ := 2 }, l ++ [⟨15, 4, 22, W, wordOf 1 C 2 15 was, W, wordOf 1 C 2 15 was⟩]⟩ := by
    intro l
    rw [stp_mk]
    have ea : Sw.acc 2 0 0 { sw0 2 0 15 cyc 0 with was := W, k := 1, c := C, st := 0, o := 0, y := was, at_ := 1 } = (4, 22, W, wordOf 1 C 2 15 was) := rfl
    rw [ea]
    simp only [g22]
    have ef : Sw.aft { sw0 2 0 15 cyc 0 with was := W, k := 1, c := C, st := 0, o := 0, y := was, at_ := 1 } W = if W = W then { sw0 2 0 15 cyc 0 with was := W, k := 1, c := C, st := 0, o := 0, y := was, at_ := 2 } else { sw0 2 0 15 cyc 0 with was := W, k := 1, c := C, st := 0, o := 0, y := was, block := true, at_ := 8 } := rfl
    rw [ef, if_pos rfl, show leftOf 4 W W (wordOf 1 C 2 15 was) = wordOf 1 C 2 15 was by unfold leftOf; rw [if_neg (by decide), if_pos rfl, if_pos rfl]]
    rfl
  rw [runs_step (k := 6) (show (1 : Int) ≠ 8 by decide), e2]
  have h25 : (X.set 22 (wordOf 1 C 2 15 was)).getD 25 0 = al := by rw [gset _ _ _ _ (by omega), if_neg (by decide)]; exact g25
  have h28 : (X.set 22 (wordOf 1 C 2 15 was)).getD 28 0 = mk := by rw [gset _ _ _ _ (by omega), if_neg (by decide)]; exact g28
  have hl2 : (X.set 22 (wordOf 1 C 2 15 was)).length = 256 := by rw [List.length_set]; exact hlen
  generalize X.set 22 (wordOf 1 C 2 15 was) = Y at h25 h28 hl2 ⊢
  generalize ([] ++ [_] : List Acc) = l2
  -- marks, allocs
  have e3 : ∀ l, (Ma.mk Y { sw0 2 0 15 cyc 0 with was := W, k := 1, c := C, st := 0, o := 0, y := was, at_ := 2 } l).stp 2 0 0 15 = ⟨Y.set 28 (Y.getD 28 0), { sw0 2 0 15 cyc 0 with was := W, k := 1, c := C, st := 0, o := 0, y := was, mark := Y.getD 28 0, at_ := 3 }, l ++ [⟨15, 1, 28, 0, 0, Y.getD 28 0, Y.getD 28 0⟩]⟩ := fun l => rfl
  rw [runs_step (k := 5) (show (2 : Int) ≠ 8 by decide), e3, set_same, h28]
  have e4 : ∀ l, (Ma.mk Y { sw0 2 0 15 cyc 0 with was := W, k := 1, c := C, st := 0, o := 0, y := was, mark := mk, at_ := 3 } l).stp 2 0 0 15 = ⟨Y.set 25 (Y.getD 25 0), { sw0 2 0 15 cyc 0 with was := W, k := 1, c := C, st := 0, o := 0, y := was, mark := mk, alloc := Y.getD 25 0, at_ := 4 }, l ++ [⟨15, 1, 25, 0, 0, Y.getD 25 0, Y.getD 25 0⟩]⟩ := fun l => rfl
  rw [runs_step (k := 4) (show (3 : Int) ≠ 8 by decide), e4, set_same, h25]
  have e5 : ∀ l, (Ma.mk Y { sw0 2 0 15 cyc 0 with was := W, k := 1, c := C, st := 0, o := 0, y := was, mark := mk, alloc := al, at_ := 4 } l).stp 2 0 0 15 = ⟨Y.set 25 (spL al mk), { sw0 2 0 15 cyc 0 with was := W, k := 1, c := C, st := 0, o := 0, y := was, mark := mk, alloc := al, freed := (Pop.cnt 64 (al.toNat &&& (18446744073709551615 - (spL al mk).toNat)) : Nat), empty := spL al mk == 0, at_ := 5 }, l ++ [⟨15, 2, 25, 0, spL al mk, Y.getD 25 0, spL al mk⟩]⟩ := fun l => rfl
  rw [runs_step (k := 3) (show (4 : Int) ≠ 8 by decide), e5]
  generalize hfr : ((Pop.cnt 64 (al.toNat &&& (18446744073709551615 - (spL al mk).toNat)) : Nat) : Int) = fr
  generalize hem : (spL al mk == 0) = em
  have i25 : (Y.set 25 (spL al mk)).getD 25 0 = spL al mk := by rw [gset _ _ _ _ (by omega), if_pos rfl]
  have hl3 : (Y.set 25 (spL al mk)).length = 256 := by rw [List.length_set]; exact hl2
  generalize Y.set 25 (spL al mk) = Z at i25 hl3 ⊢
  have e6 : ∀ l, (Ma.mk Z { sw0 2 0 15 cyc 0 with was := W, k := 1, c := C, st := 0, o := 0, y := was, mark := mk, alloc := al, freed := fr, empty := em, at_ := 5 } l).stp 2 0 0 15 = ⟨Z.set 28 0, { sw0 2 0 15 cyc 0 with was := W, k := 1, c := C, st := 0, o := 0, y := was, mark := mk, alloc := al, freed := fr, empty := em, at_ := 7 }, l ++ [⟨15, 2, 28, 0, 0, Z.getD 28 0, 0⟩]⟩ := by
    intro l
    rw [stp_mk]
    have ef : ∀ v, Sw.aft { sw0 2 0 15 cyc 0 with was := W, k := 1, c := C, st := 0, o := 0, y := was, mark := mk, alloc := al, freed := fr, empty := em, at_ := 5 } v = if em = true ∧ (1 : Int) = 2 ∧ 1 < C then { sw0 2 0 15 cyc 0 with was := W, k := 1, c := C, st := 0, o := 0, y := was, mark := mk, alloc := al, freed := fr, empty := em, tail := C - 1, at_ := 6 } else { sw0 2 0 15 cyc 0 with was := W, k := 1, c := C, st := 0, o := 0, y := was, mark := mk, alloc := al, freed := fr, empty := em, at_ := 7 } := fun v => rfl
    rw [ef, if_neg (fun h => absurd h.2.1 (by decide))]
    rfl
  rw [runs_step (k := 2) (show (5 : Int) ≠ 8 by decide), e6]
  have j25 : (Z.set 28 0).getD 25 0 = spL al mk := by rw [gset _ _ _ _ (by omega), if_neg (by decide)]; exact i25
  have j28 : (Z.set 28 0).getD 28 0 = 0 := by rw [gset _ _ _ _ (by omega), if_pos rfl]
  have hl4 : (Z.set 28 0).length = 256 := by rw [List.length_set]; exact hl3
  generalize Z.set 28 0 = V at j25 j28 hl4 ⊢
  have e7 : ∀ l, (Ma.mk V { sw0 2 0 15 cyc 0 with was := W, k := 1, c := C, st := 0, o := 0, y := was, mark := mk, alloc := al, freed := fr, empty := em, at_ := 7 } l).stp 2 0 0 15 = ⟨V.set 22 (if em = true then 0 else wordOf 1 C 0 0 cyc), { sw0 2 0 15 cyc 0 with was := W, k := 1, c := C, st := 0, o := 0, y := was, mark := mk, alloc := al, swept := true, freed := fr, empty := em, at_ := 8 }, l ++ [⟨15, 2, 22, 0, if em = true then 0 else wordOf 1 C 0 0 cyc, V.getD 22 0, if em = true then 0 else wordOf 1 C 0 0 cyc⟩]⟩ := fun l => rfl
  rw [runs_step (k := 1) (show (7 : Int) ≠ 8 by decide), e7, runs_over rfl]
  refine ⟨rfl, rfl, rfl, rfl, ?_, ?_, ?_⟩
  · show (V.set 22 _).getD 25 0 = _
    rw [gset _ _ _ _ (by omega), if_neg (by decide)]; exact j25
  · show (V.set 22 _).getD 28 0 = _
    rw [gset _ _ _ _ (by omega), if_neg (by decide)]; exact j28
  · show (V.set 22 _).getD 22 0 = _
    rw [gset _ _ _ _ (by omega), if_pos rfl]
end Go.Proofs.Ytelfiegocdjnoaa.Ar
