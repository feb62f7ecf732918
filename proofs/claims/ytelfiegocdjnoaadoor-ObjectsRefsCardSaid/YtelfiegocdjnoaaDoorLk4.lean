/- Look, Allocated and SameCell of the document over what is owned. Conditions: a plan of at most five pages; words of 64 bits. -/
import Derived.Test.YtelfiegocdjnoaaDoorLk3
import Derived.Test.YtelfiegocdjnoaaDoorSm
import Derived.Test.YtelfiegocdjnoaaDoorMrF0
import Derived.Test.YtelfiegocdjnoaaDoorMrF1
namespace Go.Proofs.YtelfiegocdjnoaaDoor.Ar
open Go Go.RowKit Go.Proofs.YtelfiegocdjnoaaDoor.Sep Go.Proofs.YtelfiegocdjnoaaDoor.Pg Go.Proofs.YtelfiegocdjnoaaDoorW.PrintWords Go.Proofs.YtelfiegocdjnoaaDoorW.PrintLast Go.Proofs.YtelfiegocdjnoaaDoorW.PrintMore Go.Proofs.YtelfiegocdjnoaaDoor.Q
set_option linter.unusedVariables false
set_option linter.unusedSimpArgs false
set_option maxHeartbeats 8000000
set_option maxRecDepth 100000
abbrev I64 (l : List Int) : List Value := l.map (.int .i64)
theorem St_of_R64 {w w' : World} {v : Value} {l : List Int} (h : Kd.R (Kd.int .i64) 2 w' w.heap.size (fun _ => True) v l) (hb : Below w.heap.size w w') : St w w' [row 2 1 v l.length (I64 l)] := by
  obtain ⟨_, inner, ho, hr⟩ := h
  have e : inner = I64 l := by
    have hr1 := hr.1
    refine List.ext_getElem? fun j => ?_
    by_cases hj : j < l.length
    · have h2 := hr.2 j l[j] (List.getElem?_eq_getElem hj)
      have h2 : (inner.drop (j * 1)).take 1 = [.int .i64 l[j]] := h2
      have h3 : ((inner.drop (j * 1)).take 1)[0]? = inner[j]? := by simp [List.getElem?_take, List.getElem?_drop]
      rw [← h3, h2]
      simp [I64, hj]
    · have h3 : (Kd.int .i64).sz = 1 := rfl
      rw [h3] at hr1
      rw [List.getElem?_eq_none (by omega), List.getElem?_eq_none (by simp [I64]; omega)]
  subst e
  refine ⟨hb, fun k => v.ownBlock = some k, fun k hk => own_base ho k hk, fun k => v.ownBlock = some k, fun _ => False, fun k => by simp, fun _ _ h => h, ⟨fun k => Iff.rfl, .inl (own_weaken ho (Nat.zero_le _))⟩, fun k h => h⟩
theorem C_i64 {w0 w : World} {A : Option Addr} {c : Nat} {l : List Int} {F : List HP} (hl : l.length ≤ 4096) (h : St w0 w (row 2 1 (.slice A l.length c) l.length (I64 l) :: F)) : Kd.C (Kd.int .i64) w A l.length l := by
  refine ⟨rfl, by omega, fun hn => ?_⟩
  obtain ⟨g, c', e, _, hcell⟩ := h.row_some hn
  injection e with e1
  subst e1
  refine ⟨_, rfl, fun j p hj => ⟨[.int .i64 p], rfl, rfl, fun i u hu => ?_⟩⟩
  match i, hu with
  | 0, hu =>
    obtain rfl : _ = u := by simpa using hu
    have ha : (⟨g, 0, none⟩ : Addr).add (j * (Kd.int IntKind.i64).sz + 0) = ⟨g, j, none⟩ := by
      show (⟨g, 0, none⟩ : Addr).add (j * 1 + 0) = _
      rw [show j * 1 + 0 = j by omega]
      unfold Addr.add; split <;> simp_all
    rw [ha]
    exact hcell j _ (by simp [I64, hj])
  | i + 1, hu => simp at hu
theorem longsL (l : List Int) (hl : l.length ≤ 10000) : ∀ (d i k : Nat), i + d = l.length → d < k → windrowref01_Longs.l0 k l l (i : Int) = some true := by
  intro d
  induction d with
  | zero =>
    intro i k hi hk
    obtain ⟨k, rfl⟩ : ∃ q, k = q + 1 := ⟨k - 1, by omega⟩
    unfold windrowref01_Longs.l0
    rw [if_neg (by omega)]
  | succ d ih =>
    intro i k hi hk
    obtain ⟨k, rfl⟩ : ∃ q, k = q + 1 := ⟨k - 1, by omega⟩
    unfold windrowref01_Longs.l0
    rw [if_pos (by omega), if_pos (by omega), if_pos (by omega), if_pos rfl]
    have hs := ih (i + 1) k (by omega) (by omega)
    rw [show wrap64 ((i : Int) + 1) = ((i + 1 : Nat) : Int) by unfold wrap64; omega]
    exact hs
variable {w0 w : World} {F : List HP} {gD nN : Nat} {X : List Int}
end Go.Proofs.YtelfiegocdjnoaaDoor.Ar
