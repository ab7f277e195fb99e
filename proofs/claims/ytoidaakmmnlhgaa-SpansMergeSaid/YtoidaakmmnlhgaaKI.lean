/- slices.Delete of one interval out of a row at a block of its own. -/
import Derived.Test.YtoidaakmmnlhgaaKH
set_option linter.unusedVariables false
set_option linter.unusedSimpArgs false
namespace Go.Proofs.Ytoidaakmmnlhgaa.Hand
open Go.Lib Go.Shelf Go.RowKit Go.Proofs.YtoidaakmmnlhgaaW.PrintWords Go.Proofs.YtoidaakmmnlhgaaW.PrintLast Go.Proofs.YtoidaakmmnlhgaaW.PrintMore
section
variable {P : Program}
theorem run_clear_cells (w : World) (t e ty : TypeId) (z : Value) (cs : List Value) (ht : P.underlying t = some (.slice e)) (hv : ∀ w, (zeroValue e).run P w = .ok z w) (b o n c : Nat) (hn : 0 < n) (hz : (Builtin.zeroCells z.cells n).toList = cs) (h1 : ∀ v ∈ cs, v.oneCell' = true)
    (hc : ∀ j, j < cs.length → (w.cell? ⟨b, o + j, none⟩).isSome = true) (hf : ∀ j, j < cs.length → w.frozen? ⟨b, o + j, none⟩ = false) :
    (Builtin.clear_ #[t] ty #[.slice (some ⟨b, o, none⟩) n c]).run P w = .ok (.tuple #[]) (w.setCells b o cs) := by
  have hst := run_storeCells_cells (P := P) b o cs 0 w (by simpa using hc) (by simpa using hf) h1
  simp only [Nat.add_zero] at hst
  obtain ⟨m, rfl⟩ : ∃ m, n = m + 1 := ⟨n - 1, by omega⟩
  simp [Builtin.clear_, run_underlying ht, hv, hz, hst]
theorem wpList_clear_runI (w : World) {ops : Array Oper} {rest : List Oper} {o : Oper} {a : Act} {Q : Exit → Act → World → Prop} (hgd : o.guard = none) (d : Operand) (t : TypeId)
    (ho : o.op = .call { callee := .builtin .clear, args := #[d], argTypes := #[t] }) (v : Value) (hd : a.eval d = v) {v' : Value} {w' : World}
    (hr : (Builtin.clear_ #[t] o.type #[v]).run P w = .ok v' w') (h : wpList P ops Q rest (a.put o.dst v') w') : wpList P ops Q (o :: rest) a w :=
  wpList_plain hgd fun K hK => by
    unfold Oper.wp execOp
    simp only [ho, resolve, invoke, builtin, Sem.run_bind, Sem.run_pure, Result.andThen_ok, List.map_toArray, List.map_cons, List.map_nil, hd, hr]
    exact hK _ _ h
theorem step_append_runI {ops : Array Oper} {o : Oper} {a : Act} {w : World} {K : Act → World → Prop} {Q : Exit → Act → World → Prop} {E : Prop}
    (hg : o.guard = none) (d x : Operand) (dT sT : TypeId) (hop : o.op = Op.call { callee := Callee.builtin Builtin.append, args := #[d, x], argTypes := #[dT, sT] })
    (v u : Value) (hd : a.eval d = v) (hx : a.eval x = u) {v' : Value} {w' : World} (hr : (Builtin.append_ #[dT, sT] o.type #[v, u]).run P w = .ok v' w') (hK : K (a.put o.dst v') w') :
    if Region.wanted o (yielded ops a.tmps) = true then Oper.wp P o a w K Q else E := by
  rw [if_pos (by simp [Region.wanted, hg])]
  unfold Oper.wp
  simp [execOp, hop, resolve, invoke, builtin, hd, hx, hr, Result.andThen]
  exact hK
end
section
variable {W : World} {g c : Nat} {L : List Iv}
theorem zc1 : (Builtin.zeroCells (Value.agg #[.int .i64 0, .int .i64 0]).cells 1).toList = [Value.int .i64 0, .int .i64 0] := by simp [Builtin.zeroCells, Value.cells, List.range, List.range.loop]
def delI (L : List Iv) (i : Nat) : List Iv := L.take i ++ L.drop (i + 1)
theorem delI_len (L : List Iv) (i : Nat) (hi : i < L.length) : (delI L i).length = L.length - 1 := by simp [delI]; omega
theorem flat_del (L : List Iv) (i : Nat) (hi : i < L.length) (j : Nat) : (flatI (delI L i))[j]? = if j < i * 2 then (flatI L)[j]? else (flatI L)[j + 2]? := by
  have ht : (flatI (L.take i)).length = i * 2 := by rw [flat_len, List.length_take, Nat.min_eq_left (by omega)]
  rw [delI, flat_app]
  by_cases h1 : j < i * 2
  · rw [if_pos h1, List.getElem?_append_left (by omega), ← flat_take, List.getElem?_take, if_pos h1]
  · rw [if_neg h1, List.getElem?_append_right (by omega), ht, ← flat_drop, List.getElem?_drop]
    congr 1
    omega
set_option maxHeartbeats 4000000 in
set_option maxRecDepth 100000 in
theorem delI_c {i : Nat} (h : RowI W g c L) (hi : i < L.length) (hl : L.length ≤ 100) :
    Calls Try.prog 30 #[.slice (some ⟨g, 0, none⟩) L.length c, .int .i64 i, .int .i64 ((i : Int) + 1)] W fun e w' => e = .returned (.slice (some ⟨g, 0, none⟩) (L.length - 1) c) ∧ RowI w' g c (delI L i) ∧ Below g W w' := by
  have hcs := rowI_cells h
  obtain ⟨n, hn⟩ : ∃ n, n = L.length := ⟨_, rfl⟩
  obtain ⟨cur, hb, hs, hc, hm, hx⟩ := id h
  have hB0 : Below g W W := Below.refl g W
  have hfl := flat_len L
  have hf1 := flat_one L
  rw [← hn] at hi hl hc hx hfl ⊢
  obtain ⟨i0, hi0, hz0, hzs, hzb⟩ := info_parts infoIv
  have hdl : ((flatI L).drop ((i + 1) * 2)).length = (n - (i + 1)) * 2 := by rw [List.length_drop, hfl]; omega
  have hap : ∀ (A : Addr), (A = ⟨g, (i + 1) * 2, none⟩ ∨ n = i + 1) → ∀ ty e, (Builtin.append_ #[22, 22] ty #[.slice (some ⟨g, 0, none⟩) i c, .slice (some A) (n - (i + 1)) e]).run Try.prog W.drew = .ok (.slice (some ⟨g, 0, none⟩) (n - 1) c) (W.drew.setCells g (i * 2) ((flatI L).drop ((i + 1) * 2))) := fun A hA ty e => by
    have hsrc : Src Try.prog i0.size 22 (.slice (some A) (n - (i + 1)) e) (n - (i + 1)) ((flatI L).drop ((i + 1) * 2)) W.drew := by
      rw [hzs]
      refine Src.ofSlice W.drew undIv A (n - (i + 1)) e _ hdl (fun j u hj => ?_) (fun v hv => hf1 v (List.mem_of_mem_drop hv))
      rcases hA with rfl | hA
      · rw [Addr.add_lit]
        exact hcs _ u (by rwa [List.getElem?_drop] at hj)
      · have := (List.getElem?_eq_some_iff.1 hj).1
        omega
    have := run_append_room_src W.drew 22 22 ty 43 i0 undIv hi0 g 0 i c _ _ _ hsrc (by omega) (fun j hj => by
      rw [hdl] at hj
      show (W.cell? _).isSome = true
      rw [blk_cell hb, hzs, Array.getElem?_eq_getElem (by omega)]; rfl) (fun j hj => froz hb _)
    rw [hzs, Nat.zero_add, show i + (n - (i + 1)) = n - 1 by omega] at this
    exact this
  obtain ⟨VS, hVS⟩ : ∃ VS, VS = (flatI L).drop ((i + 1) * 2) := ⟨_, rfl⟩
  rw [← hVS] at hap hdl
  obtain ⟨c1, h1, s1, g1⟩ := blk_setCells VS (i * 2) W.drew cur hb
  obtain ⟨c2, h2, s2, g2⟩ := blk_setCells [Value.int .i64 0, .int .i64 0] ((n - 1) * 2) _ c1 h1
  obtain ⟨W1, hW1⟩ : ∃ W1, W1 = W.drew.setCells g (i * 2) VS := ⟨_, rfl⟩
  rw [← hW1] at hap h1 h2
  have hclr : ∀ (w : World), w.heap = W1.heap → ∀ ty e, (Builtin.clear_ #[22] ty #[.slice (some ⟨g, (n - 1) * 2, none⟩) 1 e]).run Try.prog w = .ok (.tuple #[]) (w.setCells g ((n - 1) * 2) [Value.int .i64 0, .int .i64 0]) := fun w hw ty e => by
    have hb2 : w.heap[g]? = some (.cells c1 43 (0, 0)) := by rw [hw]; exact h1
    exact run_clear_cells w 22 43 ty (.agg #[.int .i64 0, .int .i64 0]) _ undIv Try.zeroValue43 g _ 1 e (by omega) zc1 (flat_one [(0, 0)]) (fun j hj => by
      simp only [List.length_cons, List.length_nil] at hj
      rw [blk_cell hb2, Array.getElem?_eq_getElem (by omega)]; rfl) (fun j hj => froz hb2 _)
  have hfin : RowI (W1.setCells g ((n - 1) * 2) [Value.int .i64 0, .int .i64 0]) g c (delI L i) := by
    have hdn : (delI L i).length = n - 1 := by rw [delI_len L i (by omega), hn]
    refine ⟨c2, h2, by rw [s2, s1, hs], by omega, hm, fun j hj => ?_⟩
    rw [hdn] at hj
    rw [g2, flat_del L i (by omega), s1, hs]
    simp only [List.length_cons, List.length_nil]
    rw [if_neg (by omega), g1, hdl, hs]
    by_cases e1 : j < i * 2
    · rw [if_neg (by omega), if_pos e1]
      exact hx j (by omega)
    · rw [if_pos (by omega), if_neg e1, hVS, List.getElem?_drop]
      congr 1
      omega
  have hB1 : Below g W (W1.setCells g ((n - 1) * 2) [Value.int .i64 0, .int .i64 0]) := by
    rw [hW1]
    exact below_setCells' (Nat.le_refl _) _ _ (below_setCells' (Nat.le_refl _) _ _ (below_drew hB0))
  have FIN := Aside0.mk hfin
  have BFIN := Aside0.mk hB1
  clear hfin hB1 hB0 hx hcs hf1 hfl hi0 hz0 hzs hzb g1 g2 s1 s2 h1 h2 hb hs
  have HN := Aside0.mk hn
  clear hn hdl hVS
  have mixed : Try.prog.follows Departure.mixedOrders = true := by kernel_rfl
  have hin : i ≤ n := by omega
  have hic : i ≤ c := by omega
  have hi1 : i + 1 ≤ n := by omega
  have hb1 : (0 : Int) ≤ (i : Int) + 1 := by omega
  have hw2 : IntKind.i64.wrap ((i : Int) + 1) = (i : Int) + 1 := by rw [i64_w]; exact wrap_small _ (by omega) (by omega)
  have hm1 : ((n - 1 : Nat) : Int) < (n : Int) := by omega
  have hm2 : n - (n - 1) = 1 := by omega
  have hb5 : (i : Int) + 1 ≤ (n : Int) := by omega
  by_cases hci : c = i + 1
  · have hT : (c = i + 1) = True := eq_true hci
    have hap' := hap ⟨g, 0, none⟩ (.inr (by omega))
    clear hap hci
    go_enter Try.func30, Try.ntmps30
    go_wp2
    go_region_law_o (refine step_append_runI rfl _ _ 22 22 rfl (.slice (some ⟨g, 0, none⟩) i c) (.slice (some ⟨g, 0, none⟩) (n - (i + 1)) (c - (i + 1))) (by simp [Act.eval, Act.put]) (by simp [Act.eval, Act.put]) (hap' _ _) ?_)
    go_wp2_with (at_builtin; refine wpList_clear_runI _ rfl _ _ rfl _ rfl (hclr _ rfl _ _) ?_)
    go_ret
    exact ⟨rfl, by rw [← hW1]; exact FIN.out, by rw [← hW1]; exact BFIN.out⟩
  · have hap' := hap ⟨g, (i + 1) * 2, none⟩ (.inl rfl)
    clear hap
    go_enter Try.func30, Try.ntmps30
    go_wp2
    go_region_law_o (refine step_append_runI rfl _ _ 22 22 rfl (.slice (some ⟨g, 0, none⟩) i c) (.slice (some ⟨g, (i + 1) * 2, none⟩) (n - (i + 1)) (c - (i + 1))) (by simp [Act.eval, Act.put]) (by simp [Act.eval, Act.put]) (hap' _ _) ?_)
    go_wp2_with (at_builtin; refine wpList_clear_runI _ rfl _ _ rfl _ rfl (hclr _ rfl _ _) ?_)
    go_ret
    exact ⟨rfl, by rw [← hW1]; exact FIN.out, by rw [← hW1]; exact BFIN.out⟩
end
end Go.Proofs.Ytoidaakmmnlhgaa.Hand
