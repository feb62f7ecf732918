/- The walk of ObjectsAll. Conditions: what comes in reads as the kinds say; the package's tables read as they were laid. -/
import Derived.Test.YtelfiegocdjnoaaDoorAl4
import Derived.Test.YtelfiegocdjnoaaDoorMgK
import Derived.Test.YtelfiegocdjnoaaDoorOb5
import Derived.Test.YtelfiegocdjnoaaDoorMgI
import Derived.Test.YtelfiegocdjnoaaDoorMrF0
import Derived.Test.YtelfiegocdjnoaaDoorMrF2
import Derived.Test.YtelfiegocdjnoaaDoorMrF1
namespace Go.Proofs.YtelfiegocdjnoaaDoor.Ar
open Go Go.RowKit Go.Proofs.YtelfiegocdjnoaaDoor.Sep Go.Proofs.YtelfiegocdjnoaaDoor.Pg Go.Proofs.YtelfiegocdjnoaaDoorW.PrintWords Go.Proofs.YtelfiegocdjnoaaDoorW.PrintLast Go.Proofs.YtelfiegocdjnoaaDoorW.PrintMore Go.Proofs.YtelfiegocdjnoaaDoor.Q
set_option linter.unusedVariables false
set_option linter.unusedSimpArgs false
set_option maxHeartbeats 8000000
set_option maxRecDepth 100000
theorem law_all (q1 q2 q3 : Int) (A : Option Addr) (cc : Nat) (L : List (Int × Int)) (A2 : Option Addr) (c2 : Nat) (cs : List S161) (w0 : World) (hL : ∀ i, i < L.length → ∃ ad, A = some ad ∧ w0.cell? (ad.add (i * 2)) = some (.int .i64 (L.getD i (0, 0)).1) ∧ w0.cell? ⟨(ad.add (i * 2)).block, (ad.add (i * 2)).off + 1, none⟩ = some (.int .u64 (L.getD i (0, 0)).2))
    (hLr : ∀ p ∈ L, 0 ≤ p.2 ∧ p.2 < 18446744073709551616) (hCs : Kd.C k161 w0 A2 cs.length cs) (hc2 : cs.length ≤ c2) (hT : Tab w0) (hZ : TabZ w0) :
    Calls Tryd.prog 8 #[.agg #[.int .i64 q1, .int .i64 q2, .int .i64 q3], .slice A L.length cc, .slice A2 cs.length c2] w0 fun e w' => e = .returned (.bool true) ∧ Below w0.heap.size w0 w' := by
  obtain ⟨P, hP, hsm⟩ := small_ q1 q2 q3
  have PS := Aside.mk hsm
  have HPp := Aside.mk hP
  have P5 : Aside (windrowlaw11_plan.f ((P : Int) + 1) 1 1 = some ((P : Int) + 1, 1, 1)) := ⟨rfl⟩
  obtain ⟨nN, hnN⟩ : ∃ nN, nN = 128 + 64 * P := ⟨_, rfl⟩
  have HNN := Aside.mk hnN
  obtain ⟨X0, hX0⟩ : ∃ X0, X0 = layS nN (min 300 L.length) L := ⟨_, rfl⟩
  have HXL : Aside (X0.length = nN) := ⟨by rw [hX0, layS_len]⟩
  have HXR : Aside (∀ i, 0 ≤ X0.getD i 0 ∧ X0.getD i 0 < 18446744073709551616) := ⟨by rw [hX0]; exact layS_rng hLr⟩
  have HLAY : Aside (∀ (w6 : World) (F : List HP), St w0 w6 F → Calls Tryd.prog 13 #[.agg #[.int .i64 ((P : Int) + 1), .int .i64 1, .int .i64 1], .slice A L.length cc] w6 fun e w' => ∃ a gC gD, e = .returned (.tuple #[.pointer (some ⟨a, 0, none⟩), .slice (some ⟨gD, 0, none⟩) nN nN, .bool true]) ∧ St w0 w' (arB a gC nN (.slice none 0 0) true 0 0 :: ceB gC X0 :: blk gD (U X0).toArray 22 :: F)) := by
    refine ⟨fun w6 F h => ?_⟩
    have hc : ∀ w : World, Calls Tryd.prog 72 #[.agg #[.int .i64 ((P : Int) + 1), .int .i64 1, .int .i64 1]] w fun e w' => e = .returned (.int .i64 (nN : Int)) ∧ Below w.heap.size w w' := fun w => by
      have h := cells_c hP w
      rw [show (128 + 64 * (P : Int)) = (nN : Int) by rw [hnN]; push_cast; rfl] at h
      exact h
    refine (lay_g hc (by omega) (by omega) A cc L w6 ?_).mono ?_
    · intro i hi
      obtain ⟨ad, e, h0, h1⟩ := hL i hi
      exact ⟨ad, e, pw_cell_below h.below h0, pw_cell_below h.below h1⟩
    · rintro e w' ⟨a, gC, gD, rfl, h9⟩
      refine ⟨a, gC, gD, rfl, ?_⟩
      rw [hX0]
      exact h.join h9
  have HTS : Aside (∀ (w : World) (L : List HP), St w0 w L → Tab w) := ⟨fun _ _ hh => hT.st hh⟩
  have HCS := Aside.mk hCs
  have HC2 := Aside.mk hc2
  have HT0 := Aside.mk hT
  have HZ0 := Aside.mk hZ
  obtain ⟨l, er, hO⟩ : ∃ l er, outS P X0 (cs.map fun x => x.f1.length) (P + 1) 0 [] = (l, er) := ⟨_, _, rfl⟩
  have HOO := Aside.mk hO
  have HG : Aside ((∀ x ∈ l, x.f3.length ≤ 1000) ∧ l.length ≤ 10000) := ⟨by have h := outS_good (P := P) (X := X0) (ns := cs.map fun x => x.f1.length) (P + 1) 0 [] (by simp); rw [hO] at h; exact ⟨h.1, by have := h.2; simp at this; omega⟩⟩
  obtain ⟨n, hn⟩ : ∃ n, l.length = n := ⟨_, rfl⟩
  have HN := Aside.mk hn
  have H : Aside (St w0 _ [blk w0.heap.size #[.int .i64 q1, .int .i64 q2, .int .i64 q3] 25]) := Aside.mk ((St.start w0).alloc #[.int .i64 q1, .int .i64 q2, .int .i64 q3] 25)
  clear hsm hP hnN hX0 hL hLr hCs hc2 hT hZ hO hn
  go_enter Tryd.func8, Tryd.ntmps8
  have p0 := H.out.cell 0
  have p1 := H.out.cell 1
  have p2 := H.out.cell 2
  go_wp2_with (first
    | (go_at_call 21; refine (windrowlaw11_small.calls _ _ _ _ _ _ _ PS.out).mono ?_; rintro e w5 ⟨rfl, hb⟩; replace H := Aside.mk (H.out.step hb); clear hb p0 p1 p2)
    | (with_reducible refine stop_at (.store 25 (.tmp 3) (.tmp 20)) rfl ?_))
  refine ⟨?_⟩
  refine st_store rfl rfl rfl [.int .i64 ((P : Int) + 1), .int .i64 1, .int .i64 1] #[.int .i64 ((P : Int) + 1), .int .i64 1, .int .i64 1] rfl rfl rfl (Nat.le_of_ble_eq_true rfl) (by simp [Value.oneCell']) H.out rfl ?_
  intro w7 h_
  replace H : Aside (St w0 w7 [blk w0.heap.size #[.int .i64 ((P : Int) + 1), .int .i64 1, .int .i64 1] 25]) := Aside.mk h_
  clear h_
  have p0 := H.out.cell 0
  have p1 := H.out.cell 1
  have p2 := H.out.cell 2
  go_upto_region 3 with (go_at_call 13; refine (HLAY.out _ _ H.out).mono ?_; rintro e w8 ⟨a, gC, gD, rfl, h9⟩; replace H := Aside.mk h9; clear h9 p0 p1 p2)
  have hnew := new_c (cap := c2) (Kd.C_below HCS.out H.out.below)
  have HNEW := Aside.mk hnew
  clear hnew
  go_upto_region 4 with (go_at_call 22; refine HNEW.out.mono ?_; rintro e w9 (⟨ei, ec, her, rfl, hb⟩ | ⟨t, vL, vM, E, rfl, hE, h9⟩))
  · replace H := Aside.mk (H.out.step hb)
    have de : (ec != 0) = true := by simp [her]
    clear hb her
    go_wp2_with (go_at_call 11; refine (built_ (HTS.out _ _ H.out)).mono ?_; rintro e w10 ⟨rfl, hb⟩; replace H := Aside.mk (H.out.step hb); clear hb)
    go_ret
    exact ⟨rfl, H.out.below⟩
  · replace H : Aside (St w0 w9 (arB a gC nN (.slice none 0 0) true 0 0 :: ceB gC X0 :: tbB t vL vM :: tbR vL E :: blk gD (U X0).toArray 22 :: [blk w0.heap.size #[.int .i64 ((P : Int) + 1), .int .i64 1, .int .i64 1] 25])) := Aside.mk ((H.out.join h9).order 6 [2, 3, 0, 1, 4, 5] rfl rfl)
    have HAW : Aside (∀ w1, St w0 w1 (arB a gC nN (.slice none 0 0) true 0 0 :: ceB gC X0 :: tbB t vL vM :: tbR vL E :: blk gD (U X0).toArray 22 :: [blk w0.heap.size #[.int .i64 ((P : Int) + 1), .int .i64 1, .int .i64 1] 25]) → Calls Tryd.prog 48 #[.pointer (some ⟨a, 0, none⟩), .agg #[.int .i64 ((P : Int) + 1), .int .i64 1, .int .i64 1], .pointer (some ⟨t, 0, none⟩)] w1 fun e w' => ∃ A c, e = .returned (.tuple #[.slice A n c, .int .i64 er]) ∧ n ≤ c ∧ Kd.C k60 w' A n l ∧ St w0 w' (arB a gC nN (.slice none 0 0) true 0 0 :: ceB gC X0 :: tbB t vL vM :: tbR vL E :: blk gD (U X0).toArray 22 :: [blk w0.heap.size #[.int .i64 ((P : Int) + 1), .int .i64 1, .int .i64 1] 25])) := ⟨fun w1 h => by
      letI : FR := ⟨gD, (U X0).toArray, w0.heap.size, #[.int .i64 ((P : Int) + 1), .int .i64 1, .int .i64 1]⟩
      refine (all_w HPp.out HXL.out HNN.out HXR.out HT0.out HZ0.out h).mono ?_
      rintro e w' ⟨A, c, l2, er2, rfl, h1, h2, h3, h4⟩
      rw [hE, HOO.out] at h1
      injection h1 with h5 h6
      subst h5
      subst h6
      have hn := HN.out
      subst hn
      exact ⟨A, c, rfl, h2, h3, h4⟩⟩
    clear h9 hE
    go_upto_region 6 with (go_at_call 11; refine (built_ (HTS.out _ _ H.out)).mono ?_; rintro e w10 ⟨rfl, hb⟩; replace H := Aside.mk (H.out.step hb); clear hb)
    have p0 := (H.out.pick 5 rfl).cell 0
    have p1 := (H.out.pick 5 rfl).cell 1
    have p2 := (H.out.pick 5 rfl).cell 2
    go_upto_region 9 with (first
      | (go_at_call 15; refine (windrowlaw11_plan.calls _ _ _ _ _ _ _ P5.out).mono ?_; rintro e w13 ⟨rfl, hb⟩; replace H := Aside.mk (H.out.step hb); clear hb p0 p1 p2)
      | (go_at_call 48; refine (HAW.out _ H.out).mono ?_; rintro e w14 ⟨A5, c5, rfl, hc5, hC5, h9⟩; replace H := Aside.mk h9; have HC5 := Aside.mk hC5; have HL5 := Aside.mk hc5; clear h9 hc5 hC5))
    have p0 := (H.out.pick 5 rfl).cell 0
    have p1 := (H.out.pick 5 rfl).cell 1
    have p2 := (H.out.pick 5 rfl).cell 2
    go_upto_region 10 with (first
      | (go_at_call 12; refine (draw_c HPp.out _).mono ?_; rintro e w11 ⟨rfl, hb⟩; replace H := Aside.mk (H.out.step hb); replace HC5 := Aside.mk (Kd.C_below HC5.out hb); clear hb p0 p1 p2)
      | (go_at_call 49; refine (rall_n HPp.out HXL.out HNN.out HXR.out HCS.out HC2.out HOO.out HN.out (H.out.pick 4 rfl)).mono ?_; rintro e w15 ⟨A6, c6, rfl, hc6, hC6, hb⟩; replace H := Aside.mk (H.out.step hb); replace HC5 := Aside.mk (Kd.C_below HC5.out hb); have HC6 := Aside.mk hC6; have HL6 := Aside.mk hc6; clear hb hc6 hC6))
    go_upto_region 11 with (go_at_call 48; refine (all_empty a t).mono ?_; rintro e w16 ⟨rfl, hb⟩; replace H := Aside.mk (H.out.step hb); replace HC5 := Aside.mk (Kd.C_below HC5.out hb); replace HC6 := Aside.mk (Kd.C_below HC6.out hb); clear hb)
    have hee : (er == er) = true := by simp
    go_wp2_with (go_at_call 50; refine (same_all HN.out (by rw [← HN.out]; exact HG.out.2) HG.out.1 HC5.out HL5.out HC6.out HL6.out).mono ?_; rintro e w17 ⟨rfl, hb⟩; replace H := Aside.mk (H.out.step hb); clear hb)
    go_ret
    exact ⟨rfl, H.out.below⟩
end Go.Proofs.YtelfiegocdjnoaaDoor.Ar
