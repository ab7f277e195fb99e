/- Rows of handles; ArenaSlots: its walk. -/
import Derived.Test.YtdnpfnoobjbanaaHX
import Derived.Test.YtdnpfnoobjbanaaO0
set_option linter.unusedVariables false
set_option linter.unusedSimpArgs false
namespace Go.Proofs.Ytdnpfnoobjbanaa.Hand
open Go.RowKit Go.Proofs.Ytdnpfnoobjbanaa.PArenaPlays Go.Proofs.YtdnpfnoobjbanaaW.PrintWords Go.Proofs.YtdnpfnoobjbanaaW.PrintLast Go.Proofs.YtdnpfnoobjbanaaW.PrintMore
theorem infoH : (Try.prog.info? 28).map (fun i => (i.zero, i.size, i.bytes)) = some (some (.agg #[.int .u32 0, .int .u32 0]), 2, 8) := by kernel_rfl
def kH : Kd (Int × Int) := Kd.pair (Kd.int .u32) (Kd.int .u32)
/-- A row of handles. -/
def HRow (W : World) (base : Nat) (v : Value) (xs : List (Int × Int)) : Prop := kH.R 28 W base (fun _ => True) v xs
section
variable {W W1 : World} {g base : Nat} {v : Value} {xs : List (Int × Int)}
theorem HRow.none_ (W : World) (base : Nat) : HRow W base (.slice none 0 0) [] := Kd.R_nil _ _ _ _ _
theorem HRow.below (h : HRow W base v xs) (hb : Below W.heap.size W W1) : HRow W1 base v xs := Kd.R_below h hb
theorem HRow.fr (h : HRow W base v xs) (hF : Fr g W W1) : HRow W1 base v xs := hF.row h (by
  intro q hq
  have : q = 28 := by simpa [kH, Kd.pair, Kd.int, Kd.scalar] using hq
  subst this
  unfold AT; decide)
theorem HRow.typed (h : HRow W base v xs) : ∀ k, v.ownBlock = some k → ∃ cells, W.heap[k]? = some (.cells cells 28 (0, 0)) := Kd.R_typed h
theorem HRow.slice (h : HRow W base v xs) : ∃ A c, v = .slice A xs.length c := Kd.R_slice h
theorem HRow.addr (h : HRow W base v xs) (h0 : 0 < xs.length) : ∃ gb cb, v = .slice (some ⟨gb, 0, none⟩) xs.length cb := by
  obtain ⟨inner, ho⟩ := Kd.R_own h
  obtain ⟨gb, cb, e, _, _⟩ := ho.form h0
  exact ⟨gb, cb, e⟩
theorem HRow.at_ {gb n cb : Nat} (h : HRow W base (.slice (some ⟨gb, 0, none⟩) n cb) xs) (i : Nat) (hi : i < n) (p q : Int) (hp : xs.getD i (0, 0) = (p, q)) : W.cell? ⟨gb, i * 2, none⟩ = some (.int .u32 p) ∧ W.cell? ⟨gb, i * 2 + 1, none⟩ = some (.int .u32 q) ∧ gb < W.heap.size := by
  obtain ⟨c, hc, hM, hcc, hff⟩ := Kd.R_elem h (0, 0) (i : Int) (by omega) (by omega)
  rw [Int.toNat_natCast] at hM hcc
  rw [hp] at hM
  obtain ⟨_, _, rfl, rfl, rfl⟩ := hM
  have e0 := hcc 0 _ rfl
  have e1 := hcc 1 _ rfl
  obtain ⟨cells, hcl⟩ := HRow.typed h gb rfl
  exact ⟨e0, e1, blk_lt hcl⟩
end
theorem h_append {ops : Array Oper} {o : Oper} {rest : List Oper} {a : Act} {Q : Exit → Act → World → Prop} {w0 W : World} {z : Nat} (base : Nat) (hgd : o.guard = none) (s x : Operand)
    (ho : o.op = .call { callee := .builtin .append, args := #[s, x], argTypes := #[40, 40] }) (v : Value) (xs : List (Int × Int)) (p q : Int) (hs : a.eval s = v) (hx : a.eval x = .slice (some ⟨z, 0, none⟩) 1 1) (hz : W.heap.size = z)
    (HO : HRow W base v xs) (HB : Below base w0 W) (hbase : base ≤ W.heap.size) (hl : (xs.length + 1) * 8 ≤ 140737488355328)
    (h : ∀ v1 w1, HRow w1 base v1 (xs ++ [(p, q)]) → Below base w0 w1 → W.grownBy w1 v.ownBlock → wpList Try.prog ops Q rest (a.put o.dst v1) w1) :
    wpList Try.prog ops Q (o :: rest) a (W.alloc (.cells #[.int .u32 p, .int .u32 q] 28)) := by
  subst hz
  exact Kd.R_append kH base hgd s x 40 28 (.agg #[.int .u32 0, .int .u32 0]) 8 ho Try.underlying40 infoH rfl (by decide) (by decide) v xs (p, q) [.int .u32 p, .int .u32 q] (fun _ => True) (fun _ => False) hs hx ⟨[.int .u32 p], [.int .u32 q], rfl, rfl, rfl⟩ (fun _ hk => hk.elim) (fun _ _ => trivial) HO HB hbase hl (fun v1 w1 r1 b1 g1 _ => h v1 w1 r1 b1 g1)
/-- Another row, of none of its types, has been written: the arena is as it was. -/
theorem Ar.over {W W1 : World} {g : Nat} {cap lim chg : Int} {bv fv v : Value} {bs : List S77} {fs : List Int} {e' : Nat} (h : Ar W g cap lim chg bv bs fv fs) (hty : ∀ k, v.ownBlock = some k → ∃ cells, W.heap[k]? = some (.cells cells e' (0, 0))) (hq : ¬ AT e') (hg : W.grownBy W1 v.ownBlock) : Ar W1 g cap lim chg bv bs fv fs := by
  refine ⟨blk_grown h.1 hg ?_, Kd.R_over' h.2.1 hty ?_ hg, Kd.Q_over' h.2.2 hty ?_ hg⟩
  · intro e
    obtain ⟨cells, hc⟩ := hty g e.symm
    have h1 := h.1
    rw [hc] at h1
    injection h1 with h1
    injection h1 with _ e
    exact hq (.inl e)
  · intro q hq' e
    subst e
    exact hq (by
      have : q = 77 := by simpa [k77, Kd.iso, Kd.pair, Kd.int, Kd.string, Kd.scalar] using hq'
      exact .inr (.inl this))
  · intro q hq' e
    subst e
    exact hq (by
      have : q = 3 := by simpa [Kd.int, Kd.scalar] using hq'
      exact .inr (.inr this))
/-- The handles of so many blocks, none of which was freed. -/
def hxs (n : Nat) : List (Int × Int) := (List.range n).map (fun j : Nat => ((j : Int), (1 : Int)))
theorem hxs_succ (n : Nat) : hxs (n + 1) = hxs n ++ [((n : Int), 1)] := by simp [hxs, List.range_succ]
theorem hxs_len (n : Nat) : (hxs n).length = n := by simp [hxs]
theorem hxs_get (n k : Nat) (hk : k < n) : (hxs n).getD k (0, 0) = ((k : Int), 1) := by simp [hxs, hk]
theorem bk_rep (n k : Nat) (x : S77) (h : k < n) : bk (List.replicate n x) k = x := by simp [bk, h]
theorem bk_set (bs : List S77) (k : Nat) (x : S77) (h : k < bs.length) : bk (bs.set k x) k = x := by simp [bk, h]
theorem lives_rep (n k : Nat) (x : S77) (gen : Int) (h : k < n) (hx : 0 < x.f1) (hg : x.f0 = gen) : Lives (List.replicate n x) k gen := ⟨by rw [List.length_replicate]; exact h, by rw [bk_rep _ _ _ h]; exact hx, by rw [bk_rep _ _ _ h]; exact hg⟩
theorem live_at {W : World} {g : Nat} {cap lim chg : Int} {bv fv : Value} {bs : List S77} {fs : List Int} (h : Ar W g cap lim chg bv bs fv fs) (hb : bs.length ≤ 4096) (hf : fs.length ≤ 4096) (n : Int) (hn : (bs.length : Int) - (fs.length : Int) = n) : Calls Try.prog 18 #[.pointer (some ⟨g, 0, none⟩)] W fun e w' => e = .returned (.int .i64 n) ∧ Below W.heap.size W w' := by
  subst hn
  exact live_c h hb hf
/-- An empty text in a new slot, where all slots are so. -/
theorem alloc_rep {W : World} {g : Nat} {cap lim : Int} {bv fv : Value} (i : Nat) (h : Ar W g cap lim (16 * (i : Int)) bv (List.replicate i ⟨1, 16, ⟨#[]⟩⟩) fv []) (hi : i < 4096) (hl : 16 * (i : Int) + 16 ≤ lim) :
    Calls Try.prog 12 #[.pointer (some ⟨g, 0, none⟩), .string ⟨#[]⟩] W fun e w' => e = .returned (.tuple #[.agg #[.int .u32 (i : Int), .int .u32 1], .int .i64 0]) ∧ ∃ bv' fv', Ar w' g cap lim (16 * ((i + 1 : Nat) : Int)) bv' (List.replicate (i + 1) ⟨1, 16, ⟨#[]⟩⟩) fv' [] ∧ Fr g W w' := by
  refine (alloc_new h ⟨#[]⟩ 16 (by decide) (by decide) hl (by decide) (by decide) (by omega) (by omega) (by simpa using hi)).mono ?_
  rintro e w' ⟨rfl, bv', fv', hA, hF⟩
  rw [List.length_replicate]
  refine ⟨rfl, bv', fv', ?_, hF⟩
  rw [show (16 * ((i + 1 : Nat) : Int)) = 16 * (i : Int) + 16 by omega, List.replicate_succ']
  exact hA
set_option maxHeartbeats 1000000 in
set_option maxRecDepth 100000 in
theorem ArenaSlots_walk (a0 : Int) (w : World) (w0 : (Lit.int .u16 a0).wf = true) : Calls Try.prog 4 #[.int .u16 a0] w fun e w' => e = .returned (.bool true) ∧ Below w.heap.size w w' := by
  obtain ⟨n0, n1⟩ := Go.bounds_u16 w0
  clear w0
  obtain ⟨k, hk⟩ := Int.eq_ofNat_of_zero_le (show 0 ≤ a0 % 4096 by omega)
  have hk2 : k < 4096 := by omega
  have HB := Aside0.mk (Below.refl w.heap.size w)
  have HL := Aside0.mk (Below.refl w.heap.size w)
  go_enter Try.func4, Try.ntmps4
  go_wp2_with (first | (go_at_call 10; (with_reducible refine (examples_c _).mono ?_); rintro e w1 ⟨rfl, hb⟩; have n0_ := Aside0.mk (below_step (by repeat (first | (with_reducible first | exact HB.out | apply below_alloc | apply pw_below_drewN | apply below_drew1) | exact HB.out)) hb); clear HB; have HB := n0_; clear n0_; have hs_ := below_step (by repeat (first | (with_reducible first | exact HL.out | apply below_alloc | apply pw_below_drewN | apply below_drew1) | exact HL.out)) hb; have hg := below_size HB.out; clear HL hs_ hb; have HL := Aside0.mk (Below.refl w1.heap.size w1)) | (go_at_call 11; (with_reducible refine (anew_yes 1048576 _ (by first | decide | omega) (by first | decide | omega)).mono ?_); rintro e w2 ⟨rfl, hA, hb⟩; have HA := Aside0.mk hA; clear hA; have n0_ := Aside0.mk (below_step (by repeat (first | (with_reducible first | exact HB.out | apply below_alloc | apply pw_below_drewN | apply below_drew1) | exact HB.out)) hb); clear HB; have HB := n0_; clear n0_; have hs_ := below_step (by repeat (first | (with_reducible first | exact HL.out | apply below_alloc | apply pw_below_drewN | apply below_drew1) | exact HL.out)) hb; clear HL hs_ hb; have HL := Aside0.mk (Below.refl w2.heap.size w2)))
  go_loopw [5, 6] (fun v5 v6 wr => ∃ (i : Nat) (bv fv hv : Value), hv = v5 ∧ v6 = .int .i64 i ∧ i ≤ 4096 ∧ Aside0 (Below w.heap.size w wr) ∧ Aside0 (Ar wr w1.heap.size 1048576 1048576 (16 * (i : Int)) bv (List.replicate i ⟨1, 16, ⟨#[]⟩⟩) fv []) ∧ Aside0 (HRow wr w.heap.size hv (hxs i))) (fun _ v _ => 4096 - (intOf v).toNat)
  case atStart => exact ⟨0, .slice none 0 0, .slice none 0 0, _, rfl, rfl, by omega, ⟨(by repeat (first | (with_reducible first | exact HB.out | apply below_alloc | apply pw_below_drewN | apply below_drew1) | exact HB.out))⟩, ⟨HA.out.below (by repeat (first | (with_reducible first | exact HL.out | apply below_alloc | apply pw_below_drewN | apply below_drew1) | exact HL.out))⟩, ⟨HRow.none_ _ _⟩⟩
  case round =>
    clear HB HA HL
    obtain ⟨i, bv, fv, hv, rfl, rfl, hi, HB, HA, HS⟩ := hrel
    have HL := Aside0.mk (Below.refl wr.heap.size wr)
    by_cases hlt : i < 4096
    · go_wp2_with (first | (go_at_call 12; (with_reducible refine (alloc_rep i (HA.out.below (by repeat (first | (with_reducible first | exact HL.out | apply below_alloc | apply pw_below_drewN | apply below_drew1) | exact HL.out))) hlt (by omega)).mono ?_); rintro e w6 ⟨rfl, bv6, fv6, hA, hF⟩; have hF := Fr.trans (Fr.of_below (by repeat (first | (with_reducible first | exact HL.out | apply below_alloc | apply pw_below_drewN | apply below_drew1) | exact HL.out))) hF; have n0_ := Aside0.mk (Fr.below hF HB.out hg (below_size HB.out)); clear HB; have HB := n0_; clear n0_; have n_ := Aside0.mk (HRow.fr HS.out hF); clear HS; have HS := n_; clear n_; clear HA; have HA := Aside0.mk (show Ar w6 w1.heap.size 1048576 1048576 (16 * ((i + 1 : Nat) : Int)) bv6 (List.replicate (i + 1) ⟨1, 16, ⟨#[]⟩⟩) fv6 [] from hA); clear hA HL hF; have HL := Aside0.mk (Below.refl w6.heap.size w6)) | ((with_reducible refine gate_builtin (b := .append) (xs := #[.tmp 38, .tmp 40]) rfl ?_); at_builtin; refine h_append (w0 := w) w.heap.size rfl (.tmp 38) (.tmp 40) rfl hv (hxs i) (i : Int) 1 rfl rfl (by simp) (HRow.below HS.out (by repeat (first | (with_reducible first | exact HL.out | apply below_alloc | apply pw_below_drewN | apply below_drew1) | exact HL.out))) (by repeat (first | (with_reducible first | exact HB.out | apply below_alloc | apply pw_below_drewN | apply below_drew1) | exact HB.out)) (below_size (by repeat (first | (with_reducible first | exact HB.out | apply below_alloc | apply pw_below_drewN | apply below_drew1) | exact HB.out))) (by rw [hxs_len]; omega) ?_; intro v7 w7 r1 b1 g1; have n_ := Aside0.mk (Ar.over (HA.out.below (by repeat (first | (with_reducible first | exact HL.out | apply below_alloc | apply pw_below_drewN | apply below_drew1) | exact HL.out))) (HRow.typed (HRow.below HS.out (by repeat (first | (with_reducible first | exact HL.out | apply below_alloc | apply pw_below_drewN | apply below_drew1) | exact HL.out)))) (by unfold AT; decide) g1); clear HA HS HB HL; have HA := n_; have HB := Aside0.mk b1; have HS := Aside0.mk (show HRow w7 w.heap.size v7 (hxs (i + 1)) from (by rw [hxs_succ]; exact r1)); clear n_; clear r1 b1 g1; have HL := Aside0.mk (Below.refl w7.heap.size w7)))
      all_goals go_roundw
      all_goals (try (case rel => exact ⟨i + 1, bv6, fv6, _, rfl, by go_num, by omega, HB, HA, HS⟩))
      all_goals (try (case measure => simp [intOf]; omega))
    · obtain rfl : i = 4096 := by omega
      clear hlt hi
      obtain ⟨gb, cb, rfl⟩ := HRow.addr HS.out (by rw [hxs_len]; omega)
      rw [hxs_len] at *
      have ⟨qS0, qS1, lS⟩ := HRow.at_ HS.out k (by omega) (k : Int) 1 (hxs_get 4096 k (by omega))
      go_wp2_with (first | (go_at_call 12; (with_reducible refine (alloc_full (HA.out.below (by repeat (first | (with_reducible first | exact HL.out | apply below_alloc | apply pw_below_drewN | apply below_drew1) | exact HL.out))) ⟨#[]⟩ 16 true (by decide) (by decide) rfl (by decide) (by decide) (by decide) (by decide) (by decide) (by rw [List.length_replicate])).mono ?_); rintro e w8 ⟨rfl, hb⟩; have n0_ := Aside0.mk (below_step (by repeat (first | (with_reducible first | exact HB.out | apply below_alloc | apply pw_below_drewN | apply below_drew1) | exact HB.out)) hb); clear HB; have HB := n0_; clear n0_; have hs_ := below_step (by repeat (first | (with_reducible first | exact HL.out | apply below_alloc | apply pw_below_drewN | apply below_drew1) | exact HL.out)) hb; have n_ := Aside0.mk (Ar.below HA.out hs_); clear HA; have HA := n_; clear n_; have n_ := Aside0.mk (HRow.below HS.out hs_); clear qS0 qS1 lS; clear HS; have HS := n_; clear n_; have ⟨qS0, qS1, lS⟩ := HRow.at_ HS.out k (by omega) (k : Int) 1 (hxs_get 4096 k (by omega)); clear HL hs_ hb; have HL := Aside0.mk (Below.refl w8.heap.size w8)) | (go_at_call 18; (with_reducible refine (live_at (HA.out.below (by repeat (first | (with_reducible first | exact HL.out | apply below_alloc | apply pw_below_drewN | apply below_drew1) | exact HL.out))) (by rw [List.length_replicate]; exact Nat.le_refl _) (by decide) 4096 (by rw [List.length_replicate]; decide)).mono ?_); rintro e w9 ⟨rfl, hb⟩; have n0_ := Aside0.mk (below_step (by repeat (first | (with_reducible first | exact HB.out | apply below_alloc | apply pw_below_drewN | apply below_drew1) | exact HB.out)) hb); clear HB; have HB := n0_; clear n0_; have hs_ := below_step (by repeat (first | (with_reducible first | exact HL.out | apply below_alloc | apply pw_below_drewN | apply below_drew1) | exact HL.out)) hb; have n_ := Aside0.mk (Ar.below HA.out hs_); clear HA; have HA := n_; clear n_; have n_ := Aside0.mk (HRow.below HS.out hs_); clear qS0 qS1 lS; clear HS; have HS := n_; clear n_; have ⟨qS0, qS1, lS⟩ := HRow.at_ HS.out k (by omega) (k : Int) 1 (hxs_get 4096 k (by omega)); clear HL hs_ hb; have HL := Aside0.mk (Below.refl w9.heap.size w9)) | (go_at_call 13; (with_reducible refine ((show Calls Try.prog 13 #[.pointer (some ⟨w1.heap.size, 0, none⟩), .agg #[.int .u32 (k : Int), .int .u32 1]] _ _ from afree_yes (HA.out.below (by repeat (first | (with_reducible first | exact HL.out | apply below_alloc | apply pw_below_drewN | apply below_drew1) | exact HL.out))) k 1 (by rw [List.length_replicate]; exact Nat.le_refl _) (lives_rep _ _ _ _ hk2 (by decide) rfl) 16 (by rw [bk_rep _ _ _ hk2]) 2 65520 (by decide) (by decide) List.Pairwise.nil (by decide))).mono ?_); rintro e w10 ⟨rfl, fv10, hA, hF⟩; have hF := Fr.trans (Fr.of_below (by repeat (first | (with_reducible first | exact HL.out | apply below_alloc | apply pw_below_drewN | apply below_drew1) | exact HL.out))) hF; have n0_ := Aside0.mk (Fr.below hF HB.out hg (below_size HB.out)); clear HB; have HB := n0_; clear n0_; have n_ := Aside0.mk (HRow.fr HS.out hF); clear qS0 qS1 lS; clear HS; have HS := n_; clear n_; have ⟨qS0, qS1, lS⟩ := HRow.at_ HS.out k (by omega) (k : Int) 1 (hxs_get 4096 k (by omega)); clear HA; have HA := Aside0.mk (show Ar w10 w1.heap.size 1048576 1048576 65520 bv ((List.replicate 4096 ⟨1, 16, ⟨#[]⟩⟩).set k ⟨2, 0, ⟨#[]⟩⟩) fv10 [(k : Int)] from hA); clear hA HL hF; have HL := Aside0.mk (Below.refl w10.heap.size w10)) | (go_at_call 12; (with_reducible refine (alloc_free (i := k) (r := []) (HA.out.below (by repeat (first | (with_reducible first | exact HL.out | apply below_alloc | apply pw_below_drewN | apply below_drew1) | exact HL.out))) ⟨#[120]⟩ 16 (by decide) (by decide) (by decide) (by decide) (by decide) (by decide) (by decide) (by rw [List.length_set, List.length_replicate]; exact Nat.le_refl _) (by rw [List.length_set, List.length_replicate]; exact hk2) 2 (by rw [bk_set _ _ _ (by rw [List.length_replicate]; exact hk2)])).mono ?_); rintro e w11 ⟨rfl, bv11, fv11, hA, hF⟩; have hF := Fr.trans (Fr.of_below (by repeat (first | (with_reducible first | exact HL.out | apply below_alloc | apply pw_below_drewN | apply below_drew1) | exact HL.out))) hF; have n0_ := Aside0.mk (Fr.below hF HB.out hg (below_size HB.out)); clear HB; have HB := n0_; clear n0_; have n_ := Aside0.mk (HRow.fr HS.out hF); clear qS0 qS1 lS; clear HS; have HS := n_; clear n_; have ⟨qS0, qS1, lS⟩ := HRow.at_ HS.out k (by omega) (k : Int) 1 (hxs_get 4096 k (by omega)); clear HA; have HA := Aside0.mk (show Ar w11 w1.heap.size 1048576 1048576 65536 bv11 (((List.replicate 4096 ⟨1, 16, ⟨#[]⟩⟩).set k ⟨2, 0, ⟨#[]⟩⟩).set k ⟨2, 16, ⟨#[120]⟩⟩) fv11 [] from hA); clear hA HL hF; have HL := Aside0.mk (Below.refl w11.heap.size w11)))
      all_goals go_quiet (fail)
      all_goals go_wp2
      all_goals go_ret
      all_goals exact ⟨rfl, (by repeat (first | (with_reducible first | exact HB.out | apply below_alloc | apply pw_below_drewN | apply below_drew1) | exact HB.out))⟩
end Go.Proofs.Ytdnpfnoobjbanaa.Hand
