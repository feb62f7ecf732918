/- The document's writer: ins. Conditions: the bytes stay below 2^40. -/
import Derived.Test.YtakpdmkfengghaaProg
import Derived.Test.YtakpdmkfengghaaSep
import Derived.Test.YtakpdmkfengghaaIn0
import Derived.Test.YtakpdmkfengghaaSep2
import Derived.Test.YtakpdmkfengghaaRfA
import Derived.Test.YtakpdmkfengghaaF47
import Derived.Test.YtakpdmkfengghaaLawRight0
import Derived.Test.YtakpdmkfengghaaF46
import Derived.Test.YtakpdmkfengghaaF47
import Derived.Test.YtakpdmkfengghaaLawRight0
import Derived.Test.YtakpdmkfengghaaQ4
import Derived.Test.YtakpdmkfengghaaWp1
import Derived.StillTailTactics
import Derived.Below
import Derived.Deep.Draws
import Derived.Deep.AppendLies
import Derived.Maps.AppendAt
import Derived.OwnWalk
import Derived.Laws.BytesArg
import Derived.Laws.MakeOwn
import Derived.Laws.OwnMore
import Derived.Deep.OwnRows
import Derived.Tactics
import Derived.Lib.ConvBytes
import Derived.Laws.Slices
import Derived.WalkKit
import Derived.KernelRfl
import Derived.RowKit3
import Derived.Deep.LoopGhost
import Derived.Deep.QuietTactic
import Derived.BigQuiet
import Derived.WideLaws
import Derived.Deep.DeepCutAuto
import Derived.Deep.CutBlock
import Derived.Deep.RegionHeld3
import Derived.Laws.Rows
import Derived.Lib.AppendStr
import Derived.ArgAppend
import Derived.Laws.IdiomCopy
import Derived.OrdersHeld
import Derived.Laws.BitsLemmas
import Derived.RowKit
import Derived.Lib.SlBytesConst
namespace Go.Proofs.Ytakpdmkfengghaa.Rf
open Go Go.RowKit Go.Proofs.Ytakpdmkfengghaa.Sep Go.Proofs.YtakpdmkfengghaaW.PrintWords Go.Proofs.YtakpdmkfengghaaW.PrintLast Go.Proofs.YtakpdmkfengghaaW.PrintMore Go.Proofs.Ytakpdmkfengghaa.Q Go.Proofs.Ytakpdmkfengghaa.Pe Go.Proofs.Ytakpdmkfengghaa.Wr
set_option linter.unusedVariables false
set_option linter.unusedSimpArgs false

/-- Three new blocks. -/
theorem three_parts {w0 w : World} {L : List HP} (h : St w0 w L) (a b c : Array Value) (t u v : TypeId) :
    St w0 (((w.alloc (.cells a t (0, 0))).alloc (.cells b u (0, 0))).alloc (.cells c v (0, 0))) (blk (w.heap.size + 1 + 1) c v :: blk (w.heap.size + 1) b u :: blk w.heap.size a t :: L) := by
  have := ((h.alloc a t).alloc b u).alloc c v
  rwa [size_alloc, size_alloc] at this
/-- What a walk wants of the three. -/
theorem ins_facts {w0 w : World} {r gi gp : Nat} {a b c d x y z : Value} {L : List HP} (h : St w0 w (blk r #[a, b] 61 :: blk gi #[x, y, z] 23 :: blk gp #[c, d] 61 :: L)) :
    w.cell? ⟨r, 0, none⟩ = some a ∧ w.cell? ⟨r, 1, none⟩ = some b ∧ w.frozen? ⟨r, 0, none⟩ = false ∧ w.frozen? ⟨r, 1, none⟩ = false ∧ w.cell? ⟨gi, 0, none⟩ = some x ∧ w.cell? ⟨gi, 1, none⟩ = some y ∧ w.cell? ⟨gi, 2, none⟩ = some z ∧ w.cell? ⟨gp, 0, none⟩ = some c ∧ w.cell? ⟨gp, 1, none⟩ = some d :=
  ⟨h.cell 0, h.cell 1, h.frozen 0, h.frozen 1, (h.pick 1 rfl).cell 0, (h.pick 1 rfl).cell 1, (h.pick 1 rfl).cell 2, (h.pick 2 rfl).cell 0, (h.pick 2 rfl).cell 1⟩
theorem vint_pos (n : Nat) : 0 < (vint n).length := by unfold vint; split <;> simp
theorem zig_ref (a : Int) (h : i64ok a) : windrowref13_Signed.f a = some (zigN a : Int) := by
  obtain ⟨h0, h1⟩ := h
  unfold windrowref13_Signed.f zigN
  have e : ∀ x : Int, IntKind.u64.wrap x = x % 18446744073709551616 := fun _ => rfl
  by_cases h2 : 0 ≤ a
  · rw [if_pos h2, if_pos h2]
    simp only [e]
    congr 1
    omega
  · rw [if_neg h2, if_neg h2]
    simp only [e, wrap64]
    congr 1
    omega
section
variable {ops : Array Oper} {rest : List Oper} {o : Oper} {a : Act} {Q : Exit → Act → World → Prop} {w0 W : World} {L : List HP}
/-- append(s, t...), both rows of the walk's own. -/
theorem app_row (hgd : o.guard = none) {s x : Operand} (ho : o.op = .call { callee := .builtin .append, args := #[s, x], argTypes := #[31, 31] }) {l m : List Int} {A B : Option Addr} {c d : Nat}
    (H : St w0 W (row 5 1 (.slice B m.length d) m.length (u8s m) :: row 5 1 (.slice A l.length c) l.length (u8s l) :: L)) (hs : a.eval s = .slice A l.length c) (hx : a.eval x = .slice B m.length d) (hm : 0 < m.length) (hl : l.length + m.length ≤ 100000)
    (h : ∀ A1 c1 w1, St w0 w1 (row 5 1 (.slice A1 (l ++ m).length c1) (l ++ m).length (u8s (l ++ m)) :: L) → wpList Try.prog ops Q rest (a.put o.dst (.slice A1 (l ++ m).length c1)) w1) : wpList Try.prog ops Q (o :: rest) a W := by
  obtain ⟨ad, rfl, hcells⟩ := reads_cells (row_reads H).2 hm
  refine append_run hgd s x 31 5 (.int .u8 0) 1 1 ho Try.underlying31 Wr.info5 rfl (by decide) (by decide) _ _ _ hs ad m.length d (u8s m) hx (u8s_length m) hcells (one_u8 m) (H.perm (.swap _ _ _)) (by omega) ?_
  intro A1 c1 w1 hc1 h1
  have h2 := (h1.perm (.swap _ _ _)).rest
  have := h A1 c1 w1 (by rw [List.length_append, u8s_append]; exact h2)
  rwa [List.length_append] at this
end
set_option maxHeartbeats 8000000 in
set_option maxRecDepth 100000 in
theorem ref_ins_no (s : Wst) (v : Value) (i : S23) (ho : okI i = false) (hl : s.1.length ≤ 1099511620000) (w0 w : World) (F : List HP) (h : St w0 w (prow v s :: F)) :
    Calls Try.prog 29 #[.agg #[v, .int .i64 s.2], .agg #[.int .i64 i.f0, .int .i64 i.f1, .int .i64 i.f2]] w (PPost (pIns s i) w0 F) := by
  have e : pIns s i = pPut s [] 30 := if_neg (by rw [ho]; decide)
  rw [e]
  clear e
  have HL := Aside.mk hl
  have HO := Aside.mk ((okI_ref i).trans (congrArg some ho))
  have HH := Aside.mk (three_parts h #[v, .int .i64 s.2] #[.int .i64 i.f0, .int .i64 i.f1, .int .i64 i.f2] #[.slice none 0 0, .int .i64 0] 61 23 61)
  clear h hl ho
  go_enter Try.func29, Try.ntmps29
  go_wp2_with (first | (go_at_call 10; go_loud (refine (windrowref13_Right.calls 70 i.f0 i.f1 i.f2 false _ HO.out).mono ?_); rintro en w1 ⟨rfl, hb⟩; have h1 : St w0 w1 _ := HH.out.step hb; obtain ⟨f0, f1, f2, f3, f4, f5, f6, f7, f8⟩ := ins_facts h1; have H := Aside.mk h1; clear h1 hb) | (go_at_call 45; go_loud (refine (ref_put s v none 0 [] 30 (Nat.le_refl _) (fun _ => by have := HL.out; simp; omega) w0 _ _ (H.out.pick 3 rfl) (C_nil _) (fun _ => rfl)).mono ?_); rintro en w2 ⟨B, d, rfl, h1⟩; have h2 : St w0 w2 _ := h1.pick 1 rfl; have hk0 := h2.cell 0; have hk1 := h2.cell 1; have hf0 := h2.frozen 0; have hf1 := h2.frozen 1; have H2 := Aside.mk h2; clear h1 h2))
  exact part_ret rfl rfl (((H2.out.pick 2 rfl).rest.pick 2 rfl).rest) rfl
set_option maxHeartbeats 8000000 in
set_option maxRecDepth 100000 in
theorem ref_ins_yes (s : Wst) (v : Value) (i : S23) (ho : okI i = true) (hi : i64ok i.f1) (hl : s.1.length ≤ 1099511620000) (w0 w : World) (F : List HP) (h : St w0 w (prow v s :: F)) :
    Calls Try.prog 29 #[.agg #[v, .int .i64 s.2], .agg #[.int .i64 i.f0, .int .i64 i.f1, .int .i64 i.f2]] w (PPost (pIns s i) w0 F) := by
  have e : pIns s i = pPut s (insB i) 0 := if_pos ho
  rw [e]
  clear e
  have HL := Aside.mk hl
  have HO := Aside.mk ((okI_ref i).trans (congrArg some ho))
  have HO2 := Aside.mk ho
  have HI := Aside.mk hi
  have HH := Aside.mk (three_parts h #[v, .int .i64 s.2] #[.int .i64 i.f0, .int .i64 i.f1, .int .i64 i.f2] #[.slice none 0 0, .int .i64 0] 61 23 61)
  clear h hl ho hi
  have hb8 := byte_ok HO2.out
  by_cases c1 : i.f0 = 1
  · have c1b : (i.f0 == 1) = true := by simpa using c1
    have HZ := Aside.mk (zig_ref i.f1 HI.out)
    have HZ2 := Aside.mk (zigN_lt i.f1 HI.out.1 HI.out.2)
    have HV := Aside.mk (vint_len10 HZ2.out)
    have hB : insB i = [i.f0] ++ vint (zigN i.f1) := by unfold insB; rw [if_pos c1]
    have co : decide (1 < opN i.f0) = false := by rw [c1]; rfl
    rw [hB]
    clear hB c1
    go_enter Try.func29, Try.ntmps29
    go_wp2_with (first | (go_at_call 10; refine (windrowref13_Right.calls 70 i.f0 i.f1 i.f2 true _ HO.out).mono ?_; rintro en w1 ⟨rfl, hb⟩; have h1 : St w0 w1 _ := HH.out.step hb; obtain ⟨f0, f1, f2, f3, f4, f5, f6, f7, f8⟩ := ins_facts h1; have lgi := World.block_lt_of_cell? _ _ f4; have H := Aside.mk h1; clear h1 hb HH) | (go_at_call 21; refine (windrowref13_Operands.calls 70 i.f0 (opN i.f0) _ (opN_ref i.f0)).mono ?_; rintro en w3 ⟨rfl, hb⟩; have h3 : St w0 w3 (row 5 1 (.slice (some ⟨w1.heap.size, 0, none⟩) ([i.f0] : List Int).length 1) ([i.f0] : List Int).length (u8s [i.f0]) :: _) := (H.out.new_row (e := 5) (size := 1) (n := 1) #[.int .u8 i.f0] (0, 0) rfl (by decide)).step hb; obtain ⟨f0, f1, f2, f3, f4, f5, f6, f7, f8⟩ := ins_facts h3.rest; have H := Aside.mk h3; clear h3 hb) | (go_at_call 47; refine (windrowref13_Signed.calls i.f1 _ _ HZ.out).mono ?_; rintro en w4 ⟨rfl, ⟨k, rfl⟩⟩; have h4 := H.out.drewN k; obtain ⟨f0, f1, f2, f3, f4, f5, f6, f7, f8⟩ := ins_facts h4.rest; have H := Aside.mk h4; clear h4) | (go_at_call 46; refine (ref_number (zigN i.f1) (by have := HZ2.out; omega) _).mono ?_; rintro en w5 ⟨B, d, rfl, h5⟩; have h6 : St w0 w5 (row 5 1 (.slice B (vint (zigN i.f1)).length d) (vint (zigN i.f1)).length (u8s (vint (zigN i.f1))) :: _) := H.out.join h5; obtain ⟨f0, f1, f2, f3, f4, f5, f6, f7, f8⟩ := ins_facts h6.rest.rest; have H := Aside.mk h6; clear h6 h5) | (at_builtin; refine app_row rfl rfl H.out rfl rfl (vint_pos _) (by simp only [List.length_append, List.length_singleton]; have := HV.out; omega) ?_; intro A1 c1 w6 h6; obtain ⟨f0, f1, f2, f3, f4, f5, f6, f7, f8⟩ := ins_facts h6.rest; have H := Aside.mk h6; clear h6) | (go_at_call 45; go_loud (refine (ref_put s v _ _ ([i.f0] ++ vint (zigN i.f1)) 0 (row_cap H.out) (fun _ => by have := HL.out; have := HV.out; simp only [List.length_append, List.length_singleton]; omega) w0 _ _ (H.out.pick 4 rfl) (row_reads H.out).2 (fun h => by subst h; exact row_nil H.out)).mono ?_); rintro en w2 ⟨B9, d9, rfl, h1⟩; have h2 : St w0 w2 _ := h1.pick 2 rfl; have hk0 := h2.cell 0; have hk1 := h2.cell 1; have hf0 := h2.frozen 0; have hf1 := h2.frozen 1; have H2 := Aside.mk h2; clear h1 h2))
    exact part_ret rfl rfl (((((H2.out.pick 2 rfl).rest.pick 2 rfl).rest).pick 2 rfl).rest) rfl
  · have c1b : (i.f0 == 1) = false := by simpa using c1
    obtain ⟨p1, p2, p3, p4⟩ := okI_parts HO2.out
    have hr := p4.resolve_left c1
    obtain ⟨n, hn⟩ := Int.eq_ofNat_of_zero_le hr.1
    obtain ⟨q, hq⟩ := Int.eq_ofNat_of_zero_le hr.2.2.1
    have hn2 : n ≤ 2147483647 := by omega
    have hq2 : q ≤ 2147483647 := by omega
    have hn3 : i.f1.toNat = n := by omega
    have hq3 : i.f2.toNat = q := by omega
    have hw1 : IntKind.u64.wrap i.f1 = (n : Int) := by show i.f1 % 18446744073709551616 = n; omega
    have hw2 : IntKind.u64.wrap i.f2 = (q : Int) := by show i.f2 % 18446744073709551616 = q; omega
    have HV := Aside.mk (vint_len10 (n := n) (by omega))
    have HN2 := Aside.mk hn2
    have HQ2 := Aside.mk hq2
    have HVQ := Aside.mk (vint_len10 (n := q) (by omega))
    by_cases c2 : opN i.f0 = 1
    · have co : decide (0 < opN i.f0) = true := by rw [c2]; rfl
      have co2 : decide (1 < opN i.f0) = false := by rw [c2]; rfl
      have hB : insB i = [i.f0] ++ vint n := by unfold insB; rw [if_neg c1, if_pos c2, hn3]
      rw [hB]
      clear hB c1 c2 p1 p2 p3 p4 hr hn hq hn3 hq3 HI hn2 hq2 hw2
      go_enter Try.func29, Try.ntmps29
      go_wp2_with (first | (go_at_call 10; refine (windrowref13_Right.calls 70 i.f0 i.f1 i.f2 true _ HO.out).mono ?_; rintro en w1 ⟨rfl, hb⟩; have h1 : St w0 w1 _ := HH.out.step hb; obtain ⟨f0, f1, f2, f3, f4, f5, f6, f7, f8⟩ := ins_facts h1; have lgi := World.block_lt_of_cell? _ _ f4; have H := Aside.mk h1; clear h1 hb HH) | (go_at_call 21; refine (windrowref13_Operands.calls 70 i.f0 (opN i.f0) _ (opN_ref i.f0)).mono ?_; rintro en w3 ⟨rfl, hb⟩; have h3 : St w0 w3 (row 5 1 (.slice (some ⟨w1.heap.size, 0, none⟩) ([i.f0] : List Int).length 1) ([i.f0] : List Int).length (u8s [i.f0]) :: _) := (H.out.new_row (e := 5) (size := 1) (n := 1) #[.int .u8 i.f0] (0, 0) rfl (by decide)).step hb; obtain ⟨f0, f1, f2, f3, f4, f5, f6, f7, f8⟩ := ins_facts h3.rest; have H := Aside.mk h3; clear h3 hb) | (go_at_call 46; refine (ref_number _ (by have := HN2.out; have := HQ2.out; omega) _).mono ?_; rintro en w5 ⟨B, d, rfl, h5⟩; have h6 : St w0 w5 (row 5 1 (.slice B (vint _).length d) (vint _).length (u8s (vint _)) :: _) := H.out.join h5; obtain ⟨f0, f1, f2, f3, f4, f5, f6, f7, f8⟩ := ins_facts h6.rest.rest; have H := Aside.mk h6; clear h6 h5) | (at_builtin; refine app_row rfl rfl H.out rfl rfl (vint_pos _) (by simp only [List.length_append, List.length_singleton]; have := HV.out; have := HVQ.out; omega) ?_; intro A1 c1 w6 h6; obtain ⟨f0, f1, f2, f3, f4, f5, f6, f7, f8⟩ := ins_facts h6.rest; have H := Aside.mk h6; clear h6) | (go_at_call 45; go_loud (refine (ref_put s v _ _ ([i.f0] ++ vint n) 0 (row_cap H.out) (fun _ => by have := HL.out; have := HV.out; have := HVQ.out; simp only [List.length_append, List.length_singleton]; omega) w0 _ _ (H.out.pick 4 rfl) (row_reads H.out).2 (fun h => by subst h; exact row_nil H.out)).mono ?_); rintro en w2 ⟨B9, d9, rfl, h1⟩; have h2 : St w0 w2 _ := h1.pick 2 rfl; have hk0 := h2.cell 0; have hk1 := h2.cell 1; have hf0 := h2.frozen 0; have hf1 := h2.frozen 1; have H2 := Aside.mk h2; clear h1 h2))
      exact part_ret rfl rfl (((((H2.out.pick 2 rfl).rest.pick 2 rfl).rest).pick 2 rfl).rest) rfl
    · by_cases c3 : opN i.f0 = 2
      · have co : decide (0 < opN i.f0) = true := by rw [c3]; rfl
        have co2 : decide (1 < opN i.f0) = true := by rw [c3]; rfl
        have hB : insB i = [i.f0] ++ vint n ++ vint q := by unfold insB; rw [if_neg c1, if_neg c2, if_pos c3, hn3, hq3, List.append_assoc]
        rw [hB]
        clear hB
        generalize hlb : [i.f0] ++ vint n ++ vint q = lb
        have HLB := Aside.mk hlb
        clear hlb
        clear c1 c2 c3 p1 p2 p3 p4 hr hn hq hn3 hq3 HI hn2 hq2
        go_enter Try.func29, Try.ntmps29
        go_wp2_with (first | (go_at_call 10; refine (windrowref13_Right.calls 70 i.f0 i.f1 i.f2 true _ HO.out).mono ?_; rintro en w1 ⟨rfl, hb⟩; have h1 : St w0 w1 _ := HH.out.step hb; obtain ⟨f0, f1, f2, f3, f4, f5, f6, f7, f8⟩ := ins_facts h1; have lgi := World.block_lt_of_cell? _ _ f4; have H := Aside.mk h1; clear h1 hb HH) | (go_at_call 21; refine (windrowref13_Operands.calls 70 i.f0 (opN i.f0) _ (opN_ref i.f0)).mono ?_; rintro en w3 ⟨rfl, hb⟩; have h3 : St w0 w3 (row 5 1 (.slice (some ⟨w1.heap.size, 0, none⟩) ([i.f0] : List Int).length 1) ([i.f0] : List Int).length (u8s [i.f0]) :: _) := (H.out.new_row (e := 5) (size := 1) (n := 1) #[.int .u8 i.f0] (0, 0) rfl (by decide)).step hb; obtain ⟨f0, f1, f2, f3, f4, f5, f6, f7, f8⟩ := ins_facts h3.rest; have H := Aside.mk h3; clear h3 hb))
        refine (ref_number n (by have := HN2.out; have := HQ2.out; omega) _).mono ?_
        rintro en w5 ⟨B, d, rfl, h5⟩
        have h6 : St w0 w5 (row 5 1 (.slice B (vint n).length d) (vint n).length (u8s (vint n)) :: _) := H.out.join h5
        clear H f0 f1 f2 f3 f4 f5 f6 f7 f8
        obtain ⟨f0, f1, f2, f3, f4, f5, f6, f7, f8⟩ := ins_facts h6.rest.rest
        have H := Aside.mk h6
        clear h6 h5
        go_wp2_with (at_builtin; refine app_row rfl rfl H.out rfl rfl (vint_pos _) (by simp only [List.length_singleton]; have := HV.out; omega) ?_; intro A1 c1 w6 h6; generalize hl1 : [i.f0] ++ vint n = l1 at h6 ⊢; have HL1 := Aside.mk hl1; clear hl1; obtain ⟨f0, f1, f2, f3, f4, f5, f6, f7, f8⟩ := ins_facts h6.rest; have H := Aside.mk h6; clear h6)
        refine (ref_number q (by have := HN2.out; have := HQ2.out; omega) _).mono ?_
        rintro en w5 ⟨B, d, rfl, h5⟩
        have h6 : St w0 w5 (row 5 1 (.slice B (vint q).length d) (vint q).length (u8s (vint q)) :: _) := H.out.join h5
        clear H f0 f1 f2 f3 f4 f5 f6 f7 f8
        obtain ⟨f0, f1, f2, f3, f4, f5, f6, f7, f8⟩ := ins_facts h6.rest.rest
        have H := Aside.mk h6
        clear h6 h5
        have hl1 : l1.length ≤ 20 := by rw [← HL1.out]; simp only [List.length_append, List.length_singleton]; have := HV.out; omega
        go_wp2_with (at_builtin; refine app_row rfl rfl H.out rfl rfl (vint_pos _) (by have := HVQ.out; omega) ?_; intro A2 c2 w7 h7; generalize hl2 : l1 ++ vint q = l2 at h7 ⊢; have HL2 := Aside.mk hl2; clear hl2; obtain ⟨f0, f1, f2, f3, f4, f5, f6, f7, f8⟩ := ins_facts h7.rest; have H := Aside.mk h7; clear h7)
        obtain rfl : l2 = lb := by rw [← HL2.out, ← HL1.out, HLB.out]
        have hl2 : l2.length ≤ 40 := by rw [← HL2.out, List.length_append]; have := HVQ.out; omega
        refine (ref_put s v _ _ l2 0 (row_cap H.out) (fun _ => by have := HL.out; omega) w0 _ _ (H.out.pick 4 rfl) (row_reads H.out).2 (fun h => by subst h; exact row_nil H.out)).mono ?_
        rintro en w2 ⟨B9, d9, rfl, h1⟩
        have h2 : St w0 w2 _ := h1.pick 2 rfl
        clear f0 f1 f2 f3 f4 f5 f6 f7 f8 H
        have hk0 := h2.cell 0
        have hk1 := h2.cell 1
        have hf0 := h2.frozen 0
        have hf1 := h2.frozen 1
        have H2 := Aside.mk h2
        clear h1 h2
        go_wp2
        exact part_ret rfl rfl (((((H2.out.pick 2 rfl).rest.pick 2 rfl).rest).pick 2 rfl).rest) rfl
      · have h0 : opN i.f0 = 0 := by
          have h9 : opN i.f0 = 0 ∨ opN i.f0 = 1 ∨ opN i.f0 = 2 ∨ opN i.f0 < 0 := by unfold opN; split <;> (try split) <;> (try split) <;> omega
          omega
        have co : decide (0 < opN i.f0) = false := by rw [h0]; rfl
        have co2 : decide (1 < opN i.f0) = false := by rw [h0]; rfl
        have hB : insB i = [i.f0] := by unfold insB; rw [if_neg c1, if_neg c2, if_neg c3, List.append_nil]
        rw [hB]
        clear hB c1 c2 c3 h0 p1 p2 p3 p4 hr hn hq hn3 hq3 HI hn2 hq2 hw1 hw2
        go_enter Try.func29, Try.ntmps29
        go_wp2_with (first | (go_at_call 10; refine (windrowref13_Right.calls 70 i.f0 i.f1 i.f2 true _ HO.out).mono ?_; rintro en w1 ⟨rfl, hb⟩; have h1 : St w0 w1 _ := HH.out.step hb; obtain ⟨f0, f1, f2, f3, f4, f5, f6, f7, f8⟩ := ins_facts h1; have lgi := World.block_lt_of_cell? _ _ f4; have H := Aside.mk h1; clear h1 hb HH) | (go_at_call 21; refine (windrowref13_Operands.calls 70 i.f0 (opN i.f0) _ (opN_ref i.f0)).mono ?_; rintro en w3 ⟨rfl, hb⟩; have h3 : St w0 w3 (row 5 1 (.slice (some ⟨w1.heap.size, 0, none⟩) ([i.f0] : List Int).length 1) ([i.f0] : List Int).length (u8s [i.f0]) :: _) := (H.out.new_row (e := 5) (size := 1) (n := 1) #[.int .u8 i.f0] (0, 0) rfl (by decide)).step hb; obtain ⟨f0, f1, f2, f3, f4, f5, f6, f7, f8⟩ := ins_facts h3.rest; have H := Aside.mk h3; clear h3 hb) | (go_at_call 45; go_loud (refine (ref_put s v _ _ ([i.f0]) 0 (row_cap H.out) (fun _ => by have := HL.out; have := HV.out; have := HVQ.out; simp only [List.length_singleton]; omega) w0 _ _ (H.out.pick 4 rfl) (row_reads H.out).2 (fun h => by cases h)).mono ?_); rintro en w2 ⟨B9, d9, rfl, h1⟩; have h2 : St w0 w2 _ := h1.pick 2 rfl; have hk0 := h2.cell 0; have hk1 := h2.cell 1; have hf0 := h2.frozen 0; have hf1 := h2.frozen 1; have H2 := Aside.mk h2; clear h1 h2))
        exact part_ret rfl rfl (((((H2.out.pick 2 rfl).rest.pick 2 rfl).rest).pick 2 rfl).rest) rfl
theorem ref_ins (s : Wst) (v : Value) (i : S23) (hi : i64ok i.f1) (hl : s.1.length ≤ 1099511620000) (w0 w : World) (F : List HP) (h : St w0 w (prow v s :: F)) :
    Calls Try.prog 29 #[.agg #[v, .int .i64 s.2], .agg #[.int .i64 i.f0, .int .i64 i.f1, .int .i64 i.f2]] w (PPost (pIns s i) w0 F) := by
  by_cases ho : okI i = true
  · exact ref_ins_yes s v i ho hi hl w0 w F h
  · exact ref_ins_no s v i (by simpa using ho) hl w0 w F h
end Go.Proofs.Ytakpdmkfengghaa.Rf
