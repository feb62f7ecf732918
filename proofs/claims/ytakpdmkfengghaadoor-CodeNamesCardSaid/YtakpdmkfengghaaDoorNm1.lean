/- The names of instructions (the door seat): what Name and Find do. Condition: the package array holds the names. -/
import Derived.Test.YtakpdmkfengghaaDoorProg
import Derived.Test.YtakpdmkfengghaaDoorWr7
import Derived.Test.YtakpdmkfengghaaDoorQ1
import Derived.Test.YtakpdmkfengghaaDoorQ2
import Derived.WalkKit
import Derived.KernelRfl
import Derived.Deep.LoopGhost
import Derived.Deep.QuietTactic
import Derived.BigQuiet
namespace Go.Proofs.YtakpdmkfengghaaDoor.Nm
open Go Go.RowKit Go.Proofs.YtakpdmkfengghaaDoor.Sep Go.Proofs.YtakpdmkfengghaaDoorW.PrintWords Go.Proofs.YtakpdmkfengghaaDoorW.PrintLast Go.Proofs.YtakpdmkfengghaaDoorW.PrintMore Go.Proofs.YtakpdmkfengghaaDoor.Q Go.Proofs.YtakpdmkfengghaaDoor.Wr
set_option linter.unusedVariables false
set_option linter.unusedSimpArgs false

def nms : List ByteArray := (windrowref13_Names.f).getD []
theorem nms_ref : windrowref13_Names.f = some nms := rfl
theorem nms_len : nms.length = 40 := rfl
def nameS (op : Int) : ByteArray := if 1 ≤ op ∧ op ≤ 39 then nms.getD op.toNat ByteArray.empty else ⟨#[]⟩
def findL : List ByteArray → Nat → ByteArray → Int
  | [], _, _ => 0
  | x :: r, i, s => if x.toList = s.toList then (i : Int) else findL r (i + 1) s
def findS (s : ByteArray) : Int := findL (nms.drop 1) 1 s
def Tab (w : World) : Prop := ∀ i : Nat, i < 40 → w.cell? ⟨0, i, none⟩ = some (.string (nms.getD i ByteArray.empty))

set_option maxHeartbeats 8000000 in
set_option maxRecDepth 100000 in
theorem name_code (op : Int) (w : World) (h : Tab w) : Calls Tryd.prog 5 #[.int .i64 op] w fun en w' => en = .returned (.string (nameS op)) ∧ Below w.heap.size w w' := by
  by_cases h1 : 1 ≤ op ∧ op ≤ 39
  · have e : nameS op = nms.getD op.toNat ByteArray.empty := if_pos h1
    rw [e]
    obtain ⟨n, rfl⟩ := Int.eq_ofNat_of_zero_le (show (0 : Int) ≤ op by omega)
    have hc := h n (by omega)
    have d1 : decide ((n : Int) < 1) = false := by simp; omega
    have d2 : decide ((39 : Int) < n) = false := by simp; omega
    have b1 : (n : Int) < 40 := by omega
    go_enter Tryd.func5, Tryd.ntmps5
    go_wp2
    go_ret
    exact ⟨by simp [List.getD_eq_getElem?_getD], Below.refl _ _⟩
  · have e : nameS op = ⟨#[]⟩ := if_neg h1
    rw [e]
    by_cases h2 : op < 1
    · have d1 : decide (op < 1) = true := by simpa using h2
      go_enter Tryd.func5, Tryd.ntmps5
      go_wp2
      go_ret
      exact ⟨rfl, Below.refl _ _⟩
    · have d1 : decide (op < 1) = false := by simpa using h2
      have d2 : decide (39 < op) = true := by simp; omega
      go_enter Tryd.func5, Tryd.ntmps5
      go_wp2
      go_ret
      exact ⟨rfl, Below.refl _ _⟩
theorem findL_skip (i : Nat) (hi : i < 40) (s : ByteArray) : findL (nms.drop i) i s = if (nms.getD i ByteArray.empty).toList = s.toList then (i : Int) else findL (nms.drop (i + 1)) (i + 1) s := by
  have h : i < nms.length := by rw [nms_len]; exact hi
  rw [drop_cons ByteArray.empty nms i h]
  rfl
set_option maxHeartbeats 8000000 in
set_option maxRecDepth 100000 in
theorem find_code (s : ByteArray) (w : World) (h : Tab w) : Calls Tryd.prog 7 #[.string s] w fun en w' => en = .returned (.int .i64 (findS s)) ∧ Below w.heap.size w w' := by
  go_enter Tryd.func7, Tryd.ntmps7
  go_wp2
  have HT := Aside.mk h
  clear h
  go_loopg [3] (39) (fun m v3 w' => ∃ i : Nat, m = 40 - i ∧ 1 ≤ i ∧ i ≤ 40 ∧ v3 = .int .i64 i ∧ w' = w ∧ Wr.Aside (findL (nms.drop i) i s = findS s))
  case atStart => exact ⟨1, rfl, by omega, by omega, rfl, rfl, ⟨rfl⟩⟩
  case round =>
    obtain ⟨i, rfl, h1, h40, rfl, rfl, HE⟩ := hrel
    by_cases hi : i < 40
    · have hc := HT.out i hi
      have hs := findL_skip i hi s
      generalize nms.getD i ByteArray.empty = t at hc hs
      have d1 : decide ((i : Int) ≤ 39) = true := by simp; omega
      by_cases he : t.toList = s.toList
      · rw [if_pos he] at hs
        have hb : (t.toList == s.toList) = true := by simpa using he
        have HS := Aside.mk hs
        clear hs he
        go_wp2
        go_ret
        refine ⟨?_, Below.refl _ _⟩
        rw [← HE.out, HS.out]
        rfl
      · rw [if_neg he] at hs
        have hb : (t.toList == s.toList) = false := by simpa using he
        have HS := Aside.mk hs
        clear hs he
        go_wp2
        go_roundg (40 - (i + 1))
        case measure => omega
        case rel => exact ⟨i + 1, rfl, by omega, by omega, by go_num, rfl, ⟨by rw [← HE.out, HS.out]⟩⟩
    · have h4 : i = 40 := by omega
      subst h4
      go_wp2
      go_ret
      refine ⟨?_, Below.refl _ _⟩
      rw [← HE.out]
      rfl
end Go.Proofs.YtakpdmkfengghaaDoor.Nm
