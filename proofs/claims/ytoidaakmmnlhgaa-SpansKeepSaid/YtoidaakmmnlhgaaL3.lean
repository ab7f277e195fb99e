/- Joined: L1, L2. -/
import Derived.Test.YtoidaakmmnlhgaaKY
import Derived.Test.YtoidaakmmnlhgaaKA
import Derived.Test.YtoidaakmmnlhgaaO0
import Derived.Deep.RegionLaw
import Derived.Deep.DeepCutAuto
import Derived.Deep.CutBlock
/- Intervals: rows of numbers that are appended to; typed rows of intervals. -/
set_option linter.unusedVariables false
set_option linter.unusedSimpArgs false
namespace Go.Proofs.Ytoidaakmmnlhgaa.Hand
open Go.RowKit Go.Proofs.YtoidaakmmnlhgaaW.PrintWords Go.Proofs.YtoidaakmmnlhgaaW.PrintLast Go.Proofs.YtoidaakmmnlhgaaW.PrintMore
theorem int_at' {W : World} {kd : IntKind} {ad : Addr} {n : Nat} {l : List Int} (h : Kd.C (Kd.int kd) W (some ad) n l) (k : Nat) (x : Int) (hx : l[k]? = some x) : W.cell? (ad.add k) = some (.int kd x) := by
  obtain ⟨hk, _⟩ := List.getElem?_eq_some_iff.1 hx
  obtain ⟨ad', e, hr⟩ := h.2.2 (by have := h.1; omega)
  have e' := Option.some.inj e
  subst e'
  obtain ⟨cs, hl, hK, hc⟩ := hr k x hx
  obtain rfl : cs = [.int kd x] := hK
  have a0 := hc 0 _ rfl
  have e1 : ad.add (k * (Kd.int kd).sz + 0) = ad.add k := by rw [show k * (Kd.int kd).sz + 0 = k from by rw [show (Kd.int kd).sz = 1 from rfl]; omega]
  rw [e1] at a0
  exact a0
def ARow (W : World) (base : Nat) (v : Value) (xs : List Int) : Prop := Kd.R (Kd.int .i64) 2 W base (fun _ => True) v xs
theorem ARow.nil_ (W : World) (base : Nat) : ARow W base (.slice none 0 0) [] := Kd.R_nil (Kd.int .i64) _ _ _ _
theorem ARow.below {W W1 : World} {base : Nat} {v : Value} {xs : List Int} (h : ARow W base v xs) (hb : Below W.heap.size W W1) : ARow W1 base v xs := Kd.R_below h hb
theorem ARow.reads {W : World} {base : Nat} {v : Value} {xs : List Int} (h : ARow W base v xs) : ∃ A c, v = .slice A xs.length c ∧ xs.length ≤ c ∧ Kd.C (Kd.int .i64) W A xs.length xs := Kd.R_reads h
theorem ARow.C {W : World} {base n c : Nat} {A : Option Addr} {xs : List Int} (h : ARow W base (.slice A n c) xs) : Kd.C (Kd.int .i64) W A n xs ∧ n = xs.length := by
  obtain ⟨A', c', e, _, hC⟩ := h.reads
  injection e with e1 e2 e3
  rw [e1, e2]
  exact ⟨hC, rfl⟩
theorem ARow.put {W : World} {base b : Nat} {v : Value} {xs : List Int} {cells : Array Value} (h : ARow W base v xs) (hb : W.heap[b]? = some (.cells cells 24 (0, 0))) (u : Value) : ARow (W.setCell ⟨b, 0, none⟩ u) base v xs := Kd.R_set h hb (fun q hq => by
    have : q = 2 := by simpa [Kd.int, Kd.scalar] using hq
    rw [this]
    decide) 0 u
theorem infoI8 : (Try.prog.info? 2).map (fun i => (i.zero, i.size, i.bytes)) = some (some (.int .i64 0), 1, 8) := by kernel_rfl
theorem a_append {ops : Array Oper} {o : Oper} {rest : List Oper} {a : Act} {Q : Exit → Act → World → Prop} {w0 W : World} {z : Nat} (base : Nat) (hgd : o.guard = none) (s x : Operand)
    (ho : o.op = .call { callee := .builtin .append, args := #[s, x], argTypes := #[25, 25] }) (v : Value) (xs : List Int) (p : Int) (hs : a.eval s = v) (hx : a.eval x = .slice (some ⟨z, 0, none⟩) 1 1) (hz : W.heap.size = z)
    (HO : ARow W base v xs) (HB : Below base w0 W) (hbase : base ≤ W.heap.size) (hl : (xs.length + 1) * 8 ≤ 140737488355328)
    (h : ∀ v1 w1, ARow w1 base v1 (xs ++ [p]) → Below base w0 w1 → W.grownBy w1 v.ownBlock → wpList Try.prog ops Q rest (a.put o.dst v1) w1) :
    wpList Try.prog ops Q (o :: rest) a (W.alloc (.cells #[.int .i64 p] 2)) := by
  subst hz
  exact Kd.R_append (Kd.int .i64) base hgd s x 25 2 (.int .i64 0) 8 ho Try.underlying25 infoI8 rfl (by decide) (by decide) v xs p [.int .i64 p] (fun _ => True) (fun _ => False) hs hx rfl (fun _ hk => hk.elim) (fun _ _ => trivial) HO HB hbase hl (fun v1 w1 r1 b1 g1 _ => h v1 w1 r1 b1 g1)
/-- A row of intervals: none, or in a block of its own. -/
def TyI (W : World) (A : Option Addr) (n c : Nat) (L : List Iv) : Prop := (A = none ∧ n = 0 ∧ L = []) ∨ ∃ g, A = some ⟨g, 0, none⟩ ∧ n = L.length ∧ RowI W g c L
section
variable {W W1 : World} {A : Option Addr} {n c : Nat} {L : List Iv}
theorem TyI.C (h : TyI W A n c L) : Kd.C kI W A n L := by
  rcases h with ⟨rfl, rfl, rfl⟩ | ⟨g, rfl, rfl, h⟩
  · exact ⟨rfl, by omega, fun h => absurd h (by omega)⟩
  · exact h.C
theorem TyI.cap (h : TyI W A n c L) : n ≤ c := by
  rcases h with ⟨rfl, rfl, rfl⟩ | ⟨g, rfl, rfl, h⟩
  · omega
  · exact h.cap
theorem TyI.below (h : TyI W A n c L) (hb : Below W.heap.size W W1) : TyI W1 A n c L := by
  rcases h with h | ⟨g, rfl, rfl, h⟩
  · exact .inl h
  · exact .inr ⟨g, rfl, rfl, h.below hb⟩
theorem TyI.put (h : TyI W A n c L) {b : Nat} {cells : Array Value} (hb : W.heap[b]? = some (.cells cells 24 (0, 0))) (u : Value) : TyI (W.setCell ⟨b, 0, none⟩ u) A n c L := by
  rcases h with h | ⟨g, rfl, rfl, h⟩
  · exact .inl h
  · refine .inr ⟨g, rfl, rfl, h.far ?_ u⟩
    obtain ⟨cur, hg, _⟩ := h
    exact blk_ne hg hb (by decide)
theorem TyI.grown (h : TyI W A n c L) {base : Nat} {v : Value} {xs : List Int} (hR : ARow W base v xs) (hg : W.grownBy W1 v.ownBlock) : TyI W1 A n c L := by
  rcases h with h | ⟨g, rfl, rfl, h⟩
  · exact .inl h
  · obtain ⟨cur, hb, hx⟩ := h
    exact .inr ⟨g, rfl, rfl, ⟨cur, blk_grown hb hg (Kd.R_ne hR hb (by decide)), hx⟩⟩
theorem add_t (h : TyI W A n c L) (hlm : n ≤ 140737488351232) (x : Int) (M : List Iv) (hM : addL L x = M) :
    Calls Try.prog 11 #[.agg #[.slice A n c], .int .i64 x] W fun e w' => ∃ A' n' c', e = .returned (.agg #[.slice A' n' c']) ∧ TyI w' A' n' c' M ∧ n' ≤ max n 4 ∧ Below W.heap.size W w' := by
  have hl := addL_len L x
  rw [hM, h.C.1] at hl
  refine (add_sc h.C h.cap hlm x M hM).mono ?_
  rintro e w1 ⟨A', c', rfl, hC, h2, h3, hb⟩
  refine ⟨A', M.length, c', rfl, ?_, hl, hb⟩
  rcases h3 with ⟨rfl, rfl, rfl⟩ | ⟨g, rfl, h3⟩
  · rw [h.C.1]
    exact h.below hb
  · exact .inr ⟨g, rfl, rfl, h3⟩
end
theorem adds_snoc (xs : List Int) (q : Int) : adds [] (xs ++ [q]) = addL (adds [] xs) q := by
  unfold adds
  rw [List.foldl_append]
  rfl
theorem ks_u8 {n : Int} (h : (Lit.int .u8 n).wf = true) : 0 ≤ n := by
  simp [Lit.wf, IntKind.min, IntKind.max, IntKind.signed, IntKind.bits] at h
  omega
end Go.Proofs.Ytoidaakmmnlhgaa.Hand

/- Intervals: SpansKeep, walked. -/
set_option linter.unusedVariables false
set_option linter.unusedSimpArgs false
namespace Go.Proofs.Ytoidaakmmnlhgaa.Hand
open Go.RowKit Go.Proofs.YtoidaakmmnlhgaaW.PrintWords Go.Proofs.YtoidaakmmnlhgaaW.PrintLast Go.Proofs.YtoidaakmmnlhgaaW.PrintMore
set_option maxHeartbeats 4000000 in
set_option maxRecDepth 100000 in
theorem keep_walk {W : World} {nl cl nh ch : Nat} {Al Ah : Option Addr} {l how : List Int} (hl : Kd.C (Kd.int .i64) W Al nl l) (hlc : nl ≤ cl) (hlm : nl ≤ 140737488351232) (hh : Kd.C (Kd.int .u8) W Ah nh how) (hhc : nh ≤ ch) (hhm : nh ≤ 140737488351232) (hhw : ∀ x ∈ how, 0 ≤ x) :
    Calls Try.prog 4 #[.slice Al nl cl, .slice Ah nh ch] W fun e w' => e = .returned (.bool true) ∧ Below W.heap.size W w' := by
  have HB := Aside0.mk (Below.refl W.heap.size W)
  have HL := Aside0.mk (Below.refl W.heap.size W)
  have HLR := Aside0.mk hl
  have HHR := Aside0.mk hh
  have HHW := Aside0.mk hhw
  clear hl hh hhw
  go_enter Try.func4, Try.ntmps4
  go_upto_block 0 with (first | (go_at_call 8; (with_reducible refine (examples_c _).mono ?_); rintro e w1 ⟨rfl, hb⟩; have n0_ := Aside0.mk (below_step (by repeat (first | (with_reducible first | exact HB.out | apply below_alloc | apply pw_below_drewN | apply below_drew1) | exact HB.out)) hb); clear HB; have HB := n0_; clear n0_; have hs_ := below_step (by repeat (first | (with_reducible first | exact HL.out | apply below_alloc | apply pw_below_drewN | apply below_drew1) | exact HL.out)) hb; clear HL hs_ hb; have HL := Aside0.mk (Below.refl w1.heap.size w1)))
  have hg0 : W.heap.size ≤ w1.heap.size := below_size HB.out
  go_cut [7, 8] (fun v7 v8 wx => ∃ (xs : List Int) (Aa : Option Addr) (na ca : Nat) (A : Option Addr) (m e : Nat), v7 = .slice Aa na ca ∧ m ≤ 4 ∧ Aside0 (Below W.heap.size W wx) ∧ Aside0 (wx.heap[w1.heap.size]? = some (.cells #[.slice A m e] 24 (0, 0))) ∧ Aside0 (TyI wx A m e (adds [] xs)) ∧ Aside0 (ARow wx W.heap.size (.slice Aa na ca) xs))
  case first => as_aux_lemma =>
    go_wp2
    go_loopw [7, 8] (fun v7 v8 wr => ∃ (j : Nat) (xs : List Int) (Aa : Option Addr) (na ca : Nat) (A : Option Addr) (m e : Nat), v8 = .int .i64 (j : Int) ∧ j ≤ nl ∧ xs.length = j ∧ v7 = .slice Aa na ca ∧ m ≤ 4 ∧ Aside0 (Below W.heap.size W wr) ∧ Aside0 (wr.heap[w1.heap.size]? = some (.cells #[.slice A m e] 24 (0, 0))) ∧ Aside0 (TyI wr A m e (adds [] xs)) ∧ Aside0 (ARow wr W.heap.size (.slice Aa na ca) xs)) (fun _ v _ => nl - (intOf v).toNat)
    case atStart => exact ⟨0, [], none, 0, 0, none, 0, 0, rfl, by omega, rfl, rfl, by omega, ⟨(by repeat (first | (with_reducible first | exact HB.out | apply below_alloc | apply pw_below_drewN | apply below_drew1) | exact HB.out))⟩, ⟨(by repeat (first | (with_reducible refine blk_drewN ?_ _) | (with_reducible refine blk_drew ?_) | exact blk_new' (by first | rfl | simp) | (with_reducible refine blk_alloc ?_ _)))⟩, ⟨.inl ⟨rfl, rfl, rfl⟩⟩, ⟨ARow.nil_ _ _⟩⟩
    case round =>
      clear HB HL
      obtain ⟨j, xs, Aa, na, ca, A, m, e, rfl, hj, hxl, rfl, hm4, HB, BS, HT, HA⟩ := hrel
      have qBS_0 := blk_cell BS.out 0
      have lBS := blk_lt BS.out
      simp only [List.getElem?_toArray, List.getElem?_cons_zero, List.getElem?_cons_succ] at qBS_0
      have fBS := blk_frozen BS.out 0
      have HL := Aside0.mk (Below.refl wr.heap.size wr)
      by_cases hlt : j < nl
      · by_cases h40 : j < 40
        · obtain ⟨ad, ea, _⟩ := HLR.out.2.2 (by omega)
          subst ea
          obtain ⟨x, hxj⟩ : ∃ x, l[j]? = some x := ⟨l[j]'(by rw [HLR.out.1]; exact hlt), List.getElem?_eq_getElem _⟩
          have d0 := int_at' (Kd.C_below HLR.out HB.out) j x hxj
          have hjl : (j : Int) < (nl : Int) := by omega
          have hjl40 : (j : Int) < 40 := by omega
          obtain ⟨q, hq⟩ : ∃ q, (if j < nh then nearF x (how.getD j 0) else x) = q := ⟨_, rfl⟩
          go_upto_if 32 with fail
          go_cut [9] (fun v9 wx => v9 = .int .i64 q ∧ Aside0 (Below wr.heap.size wr wx))
          case first => as_aux_lemma =>
            by_cases hjh : j < nh
            · obtain ⟨ah, eh, _⟩ := HHR.out.2.2 (by omega)
              subst eh
              have hjh2 : j < how.length := by rw [HHR.out.1]; exact hjh
              obtain ⟨y, hyj⟩ : ∃ y, how[j]? = some y := ⟨how[j], List.getElem?_eq_getElem hjh2⟩
              have hy0 : 0 ≤ y := HHW.out y (List.mem_of_getElem? hyj)
              have e0 := int_at' (Kd.C_below HHR.out HB.out) j y hyj
              have HNF := Aside0.mk (show nearF x y = q by rw [← hq, if_pos hjh, List.getD_eq_getElem?_getD, hyj]; rfl)
              have hjhi : (j : Int) < (nh : Int) := by omega
              clear hyj hxj hjh2 hq
              have HB0 := HB
              go_wp2_with (first | (go_at_call 10; (with_reducible refine (near_c x y hy0 _ HNF.out).mono ?_); rintro e w3 ⟨rfl, hb⟩; have n0_ := Aside0.mk (below_step (by repeat (first | (with_reducible first | exact HB.out | apply below_alloc | apply pw_below_drewN | apply below_drew1) | exact HB.out)) hb); clear HB; have HB := n0_; clear n0_; have hs_ := below_step (by repeat (first | (with_reducible first | exact HL.out | apply below_alloc | apply pw_below_drewN | apply below_drew1) | exact HL.out)) hb; have HBq_ := Aside0.mk hs_; clear HL hs_ hb; have HL := Aside0.mk (Below.refl w3.heap.size w3)))
              all_goals go_meet
              all_goals exact ⟨rfl, HBq_⟩
            · have HNF := Aside0.mk (show q = x by rw [← hq, if_neg hjh])
              clear hq
              go_wp2
              all_goals (try (exfalso; omega))
              all_goals go_meet
              all_goals exact ⟨by rw [HNF.out], ⟨Below.refl _ _⟩⟩
          case rest => as_aux_lemma =>
            obtain ⟨rfl, HBx⟩ := hcut
            have hB_ := Aside0.mk (below_step HB.out HBx.out)
            have hBS_ := Aside0.mk (blk_below BS.out HBx.out)
            have hT_ := Aside0.mk (TyI.below HT.out HBx.out)
            have hA_ := Aside0.mk (ARow.below HA.out HBx.out)
            clear hq d0 hxj HT HBx
            clear HB BS qBS_0 lBS fBS HL HA
            have HB := hB_
            have BS := hBS_
            have HA := hA_
            have HT := hT_
            clear hB_ hBS_ hA_ hT_
            have qBS_0 := blk_cell BS.out 0
            have lBS := blk_lt BS.out
            simp only [List.getElem?_toArray, List.getElem?_cons_zero, List.getElem?_cons_succ] at qBS_0
            have fBS := blk_frozen BS.out 0
            have HL := Aside0.mk (Below.refl wc.heap.size wc)
            go_upto_region 13 with (first | (go_at_call 11; (with_reducible refine (add_t (TyI.below HT.out (by repeat (first | (with_reducible first | exact HL.out | apply below_alloc | apply pw_below_drewN | apply below_drew1) | exact HL.out))) (by omega) q _ rfl).mono ?_); rintro e w5 ⟨A1, m1, e1, rfl, hT, hm1, hb⟩; have n0_ := Aside0.mk (below_step (by repeat (first | (with_reducible first | exact HB.out | apply below_alloc | apply pw_below_drewN | apply below_drew1) | exact HB.out)) hb); clear HB; have HB := n0_; clear n0_; have hs_ := below_step (by repeat (first | (with_reducible first | exact HL.out | apply below_alloc | apply pw_below_drewN | apply below_drew1) | exact HL.out)) hb; have n_ := Aside0.mk (blk_below BS.out hs_); clear qBS_0 lBS fBS; clear BS; have BS := n_; clear n_; have qBS_0 := blk_cell BS.out 0; have lBS := blk_lt BS.out; simp only [List.getElem?_toArray, List.getElem?_cons_zero, List.getElem?_cons_succ] at qBS_0; have fBS := blk_frozen BS.out 0; have n_ := Aside0.mk (ARow.below HA.out hs_); clear HA; have HA := n_; clear n_; have HT1 := Aside0.mk (show TyI w5 A1 m1 e1 (adds [] (xs ++ [q])) by rw [adds_snoc]; exact hT); clear hT HT; clear HL hs_ hb; have HL := Aside0.mk (Below.refl w5.heap.size w5)))
            have hB_ := Aside0.mk (show Below W.heap.size W (w5.setCell ⟨w1.heap.size, 0, none⟩ (.slice A1 m1 e1)) from below_set HB.out hg0)
            have hBS_ := Aside0.mk (blk_put BS.out (.slice A1 m1 e1))
            have hT_ := Aside0.mk (TyI.put HT1.out BS.out (.slice A1 m1 e1))
            have hA_ := Aside0.mk (ARow.put HA.out BS.out (.slice A1 m1 e1))
            clear HT1
            clear HB BS qBS_0 lBS fBS HL HA
            generalize w5.setCell ⟨w1.heap.size, 0, none⟩ (.slice A1 m1 e1) = w6 at *
            have HB := hB_
            have BS := hBS_
            have HA := hA_
            have HT := hT_
            clear hB_ hBS_ hA_ hT_
            have qBS_0 := blk_cell BS.out 0
            have lBS := blk_lt BS.out
            simp only [List.getElem?_toArray, List.getElem?_cons_zero, List.getElem?_cons_succ] at qBS_0
            have fBS := blk_frozen BS.out 0
            have HL := Aside0.mk (Below.refl w6.heap.size w6)
            obtain ⟨xs1, hx1⟩ : ∃ xs1, xs ++ [q] = xs1 := ⟨_, rfl⟩
            have hxl1 : xs1.length = j + 1 := by rw [← hx1, List.length_append, hxl]; rfl
            have HXL1 := Aside0.mk hxl1
            have HX1 := Aside0.mk hx1
            rw [hx1] at HT
            clear hx1 hxl1
            obtain ⟨k1, k2, k3, k4⟩ := keep_law xs1
            have hm14 : m1 ≤ 4 := by rw [← HT.out.C.1]; exact k2
            have hm1i : (m1 : Int) ≤ 4 := by omega
            have HR1 := Aside0.mk k1
            have HCV := Aside0.mk k3
            have HEND := Aside0.mk k4
            have HLEN := Aside0.mk (show xs1.length ≤ 140737488351232 by rw [HXL1.out]; omega)
            clear k1 k2 k3 k4
            go_upto_block 2 with (first | ((with_reducible refine gate_builtin (b := .append) (xs := #[.tmp 42, .tmp 44]) rfl ?_); at_builtin; refine a_append (w0 := W) W.heap.size rfl (.tmp 42) (.tmp 44) rfl (.slice Aa na ca) xs q rfl rfl (by simp) (ARow.below HA.out (by repeat (first | (with_reducible first | exact HL.out | apply below_alloc | apply pw_below_drewN | apply below_drew1) | exact HL.out))) (by repeat (first | (with_reducible first | exact HB.out | apply below_alloc | apply pw_below_drewN | apply below_drew1) | exact HB.out)) (below_size (by repeat (first | (with_reducible first | exact HB.out | apply below_alloc | apply pw_below_drewN | apply below_drew1) | exact HB.out))) (by omega) ?_; intro v7 w7 r1 b1 g1; rw [HX1.out] at r1; have n1_ := Aside0.mk (blk_grown (by repeat (first | exact BS.out | (with_reducible refine blk_drewN ?_ _) | (with_reducible refine blk_drew ?_))) g1 (Kd.R_ne (ARow.below HA.out (by repeat (first | (with_reducible first | exact HL.out | apply below_alloc | apply pw_below_drewN | apply below_drew1) | exact HL.out))) (by repeat (first | exact BS.out | (with_reducible refine blk_drewN ?_ _) | (with_reducible refine blk_drew ?_))) (by decide))); have n2_ := Aside0.mk (TyI.grown (TyI.below HT.out (by repeat (first | (with_reducible first | exact HL.out | apply below_alloc | apply pw_below_drewN | apply below_drew1) | exact HL.out))) (ARow.below HA.out (by repeat (first | (with_reducible first | exact HL.out | apply below_alloc | apply pw_below_drewN | apply below_drew1) | exact HL.out))) g1); clear BS HT HA HB HL qBS_0 lBS fBS; have BS := n1_; have HT := n2_; have HB := Aside0.mk b1; obtain ⟨Ab, cb, rfl, hcb, _⟩ := ARow.reads r1; have HA := Aside0.mk r1; clear n1_ n2_ r1 b1 g1; have qBS_0 := blk_cell BS.out 0; have lBS := blk_lt BS.out; simp only [List.getElem?_toArray, List.getElem?_cons_zero, List.getElem?_cons_succ] at qBS_0; have fBS := blk_frozen BS.out 0; have HL := Aside0.mk (Below.refl w7.heap.size w7)) | (go_at_call 20; (with_reducible refine (right_c (TyI.C (TyI.below HT.out (by repeat (first | (with_reducible first | exact HL.out | apply below_alloc | apply pw_below_drewN | apply below_drew1) | exact HL.out)))) (TyI.cap HT.out) (by omega) true HR1.out).mono ?_); rintro e w8 ⟨rfl, hb⟩; have n0_ := Aside0.mk (below_step (by repeat (first | (with_reducible first | exact HB.out | apply below_alloc | apply pw_below_drewN | apply below_drew1) | exact HB.out)) hb); clear HB; have HB := n0_; clear n0_; have hs_ := below_step (by repeat (first | (with_reducible first | exact HL.out | apply below_alloc | apply pw_below_drewN | apply below_drew1) | exact HL.out)) hb; have n_ := Aside0.mk (blk_below BS.out hs_); clear qBS_0 lBS fBS; clear BS; have BS := n_; clear n_; have qBS_0 := blk_cell BS.out 0; have lBS := blk_lt BS.out; simp only [List.getElem?_toArray, List.getElem?_cons_zero, List.getElem?_cons_succ] at qBS_0; have fBS := blk_frozen BS.out 0; have n_ := Aside0.mk (TyI.below HT.out hs_); clear HT; have HT := n_; clear n_; have n_ := Aside0.mk (ARow.below HA.out hs_); clear HA; have HA := n_; clear n_; clear HL hs_ hb; have HL := Aside0.mk (Below.refl w8.heap.size w8)) | (go_at_call 18; (with_reducible refine (cover_c (TyI.C (TyI.below HT.out (by repeat (first | (with_reducible first | exact HL.out | apply below_alloc | apply pw_below_drewN | apply below_drew1) | exact HL.out)))) (ARow.C (ARow.below HA.out (by repeat (first | (with_reducible first | exact HL.out | apply below_alloc | apply pw_below_drewN | apply below_drew1) | exact HL.out)))).1 (TyI.cap HT.out) HLEN.out (by omega) true HCV.out).mono ?_); rintro e w9 ⟨rfl, hb⟩; have n0_ := Aside0.mk (below_step (by repeat (first | (with_reducible first | exact HB.out | apply below_alloc | apply pw_below_drewN | apply below_drew1) | exact HB.out)) hb); clear HB; have HB := n0_; clear n0_; have hs_ := below_step (by repeat (first | (with_reducible first | exact HL.out | apply below_alloc | apply pw_below_drewN | apply below_drew1) | exact HL.out)) hb; have n_ := Aside0.mk (blk_below BS.out hs_); clear qBS_0 lBS fBS; clear BS; have BS := n_; clear n_; have qBS_0 := blk_cell BS.out 0; have lBS := blk_lt BS.out; simp only [List.getElem?_toArray, List.getElem?_cons_zero, List.getElem?_cons_succ] at qBS_0; have fBS := blk_frozen BS.out 0; have n_ := Aside0.mk (TyI.below HT.out hs_); clear HT; have HT := n_; clear n_; have n_ := Aside0.mk (ARow.below HA.out hs_); clear HA; have HA := n_; clear n_; clear HL hs_ hb; have HL := Aside0.mk (Below.refl w9.heap.size w9)))
            go_wp2
            go_loopw [10] (fun v10 wr => ∃ k : Nat, v10 = .int .i64 (k : Int) ∧ k ≤ m1 ∧ Aside0 (Below W.heap.size W wr) ∧ Aside0 (wr.heap[w1.heap.size]? = some (.cells #[.slice A1 m1 e1] 24 (0, 0))) ∧ Aside0 (TyI wr A1 m1 e1 (adds [] xs1)) ∧ Aside0 (ARow wr W.heap.size (.slice Ab xs1.length cb) xs1)) (fun v _ => m1 - (intOf v).toNat)
            case atStart => exact ⟨0, rfl, by omega, ⟨(by repeat (first | (with_reducible first | exact HB.out | apply below_alloc | apply pw_below_drewN | apply below_drew1) | exact HB.out))⟩, ⟨(by repeat (first | exact BS.out | (with_reducible refine blk_drewN ?_ _) | (with_reducible refine blk_drew ?_)))⟩, ⟨(TyI.below HT.out (by repeat (first | (with_reducible first | exact HL.out | apply below_alloc | apply pw_below_drewN | apply below_drew1) | exact HL.out)))⟩, ⟨(ARow.below HA.out (by repeat (first | (with_reducible first | exact HL.out | apply below_alloc | apply pw_below_drewN | apply below_drew1) | exact HL.out)))⟩⟩
            case round =>
              clear HB BS qBS_0 lBS fBS HL HA HT
              obtain ⟨k, rfl, hk, HB, BS, HT, HA⟩ := hrel
              have qBS_0 := blk_cell BS.out 0
              have lBS := blk_lt BS.out
              simp only [List.getElem?_toArray, List.getElem?_cons_zero, List.getElem?_cons_succ] at qBS_0
              have fBS := blk_frozen BS.out 0
              have HL := Aside0.mk (Below.refl wr.heap.size wr)
              by_cases hlt2 : k < m1
              · obtain ⟨ad1, ea1, _⟩ := HT.out.C.2.2 (by omega)
                subst ea1
                obtain ⟨⟨y1, y2⟩, hyk⟩ : ∃ y, (adds [] xs1)[k]? = some y := ⟨(adds [] xs1)[k]'(by rw [HT.out.C.1]; exact hlt2), List.getElem?_eq_getElem _⟩
                obtain ⟨z0, z1⟩ := iv_at HT.out.C k _ hyk
                simp only at z0 z1
                obtain ⟨eh1, eh2⟩ := HEND.out _ (List.mem_of_getElem? hyk)
                have EH1 := Aside0.mk eh1
                have EH2 := Aside0.mk eh2
                have HYK := Aside0.mk hyk
                clear eh1 eh2 hyk
                have hkm : (k : Int) < (m1 : Int) := by omega
                go_wp2_with (first | (go_at_call 23; (with_reducible refine (lhas_c (ARow.C (ARow.below HA.out (by repeat (first | (with_reducible first | exact HL.out | apply below_alloc | apply pw_below_drewN | apply below_drew1) | exact HL.out)))).1 HLEN.out y1 true EH1.out).mono ?_); rintro e w10 ⟨rfl, hb⟩; have n0_ := Aside0.mk (below_step (by repeat (first | (with_reducible first | exact HB.out | apply below_alloc | apply pw_below_drewN | apply below_drew1) | exact HB.out)) hb); clear HB; have HB := n0_; clear n0_; have hs_ := below_step (by repeat (first | (with_reducible first | exact HL.out | apply below_alloc | apply pw_below_drewN | apply below_drew1) | exact HL.out)) hb; have n_ := Aside0.mk (blk_below BS.out hs_); clear qBS_0 lBS fBS; clear BS; have BS := n_; clear n_; have qBS_0 := blk_cell BS.out 0; have lBS := blk_lt BS.out; simp only [List.getElem?_toArray, List.getElem?_cons_zero, List.getElem?_cons_succ] at qBS_0; have fBS := blk_frozen BS.out 0; have n_ := Aside0.mk (TyI.below HT.out hs_); clear HT; have HT := n_; clear n_; have n_ := Aside0.mk (ARow.below HA.out hs_); clear HA; have HA := n_; clear n_; clear z0 z1; obtain ⟨z0, z1⟩ := iv_at HT.out.C k _ HYK.out; simp only at z0 z1; clear HL hs_ hb; have HL := Aside0.mk (Below.refl w10.heap.size w10)) | (go_at_call 23; (with_reducible refine (lhas_c (ARow.C (ARow.below HA.out (by repeat (first | (with_reducible first | exact HL.out | apply below_alloc | apply pw_below_drewN | apply below_drew1) | exact HL.out)))).1 HLEN.out y2 true EH2.out).mono ?_); rintro e w11 ⟨rfl, hb⟩; have n0_ := Aside0.mk (below_step (by repeat (first | (with_reducible first | exact HB.out | apply below_alloc | apply pw_below_drewN | apply below_drew1) | exact HB.out)) hb); clear HB; have HB := n0_; clear n0_; have hs_ := below_step (by repeat (first | (with_reducible first | exact HL.out | apply below_alloc | apply pw_below_drewN | apply below_drew1) | exact HL.out)) hb; have n_ := Aside0.mk (blk_below BS.out hs_); clear qBS_0 lBS fBS; clear BS; have BS := n_; clear n_; have qBS_0 := blk_cell BS.out 0; have lBS := blk_lt BS.out; simp only [List.getElem?_toArray, List.getElem?_cons_zero, List.getElem?_cons_succ] at qBS_0; have fBS := blk_frozen BS.out 0; have n_ := Aside0.mk (TyI.below HT.out hs_); clear HT; have HT := n_; clear n_; have n_ := Aside0.mk (ARow.below HA.out hs_); clear HA; have HA := n_; clear n_; clear HL hs_ hb; have HL := Aside0.mk (Below.refl w11.heap.size w11)))
                all_goals (try (exfalso; omega))
                all_goals go_roundw
                all_goals (try (case rel => first | exact ⟨k + 1, by go_num, by omega, HB, BS, HT, HA⟩ | ((repeat apply Exists.intro); exact ⟨⟨k + 1, by go_num, by omega, HB, BS, HT, HA⟩, rfl⟩)))
                all_goals (try (case measure => (simp [intOf] <;> omega)))
              · obtain rfl : k = m1 := by omega
                go_wp2
                all_goals (try (exfalso; omega))
                all_goals go_roundw
                all_goals (try (case rel => first | exact ⟨j + 1, xs1, Ab, xs1.length, cb, A1, k, e1, by go_num, by omega, HXL1.out, rfl, by omega, HB, BS, HT, HA⟩ | ((repeat apply Exists.intro); exact ⟨⟨j + 1, xs1, Ab, xs1.length, cb, A1, k, e1, by go_num, by omega, HXL1.out, rfl, by omega, HB, BS, HT, HA⟩, rfl⟩)))
                all_goals (try (case measure => (simp [intOf] <;> omega)))
        · go_wp2
          all_goals (try (exfalso; omega))
          all_goals go_meet
          all_goals exact ⟨xs, Aa, na, ca, A, m, e, rfl, hm4, HB, BS, HT, HA⟩
      · go_wp2
        all_goals (try (exfalso; omega))
        all_goals go_meet
        all_goals exact ⟨xs, Aa, na, ca, A, m, e, rfl, hm4, HB, BS, HT, HA⟩
  case rest => as_aux_lemma =>
    clear HB HL
    obtain ⟨xs, Aa, na, ca, A, m, e, rfl, hm4, HB, BS, HT, HA⟩ := hcut
    have qBS_0 := blk_cell BS.out 0
    have lBS := blk_lt BS.out
    simp only [List.getElem?_toArray, List.getElem?_cons_zero, List.getElem?_cons_succ] at qBS_0
    have fBS := blk_frozen BS.out 0
    have HL := Aside0.mk (Below.refl wc.heap.size wc)
    have hna := HA.out.C.2
    have hm := HT.out.C.1
    rcases xs with _ | ⟨x0, xs⟩
    · obtain rfl : m = 0 := hm.symm
      obtain rfl : na = 0 := hna
      go_wp2
      all_goals (try (exfalso; omega))
      go_ret
      exact ⟨rfl, (by repeat (first | (with_reducible first | exact HB.out | apply below_alloc | apply pw_below_drewN | apply below_drew1) | exact HB.out))⟩
    · have hna0 : (0 : Int) < (na : Int) := by rw [hna, List.length_cons]; omega
      clear hm hna
      go_wp2
      all_goals (try (exfalso; omega))
      go_ret
      exact ⟨rfl, (by repeat (first | (with_reducible first | exact HB.out | apply below_alloc | apply pw_below_drewN | apply below_drew1) | exact HB.out))⟩
theorem SpansKeep_walk (y0 : List Int) (a0 : Option Addr) (cap0 : Nat) (y1 : List Int) (a1 : Option Addr) (cap1 : Nat) (W : World) (hl0 : y0.length ≤ cap0) (hk0 : ∀ W', Has W W' → Kd.C (Kd.int .i64) W' a0 y0.length y0) {G0 : Int → Prop} (gy0 : ShortRow (Try.prog.bytesOf 2) G0 y0) (hl1 : y1.length ≤ cap1) (hk1 : ∀ W', Has W W' → Kd.C (Kd.int .u8) W' a1 y1.length y1) (gy1 : ShortRow (Try.prog.bytesOf 5) (fun n => (Lit.int .u8 n).wf = true) y1) :
    Calls Try.prog 4 #[.slice a0 y0.length cap0, .slice a1 y1.length cap1] W fun e W' => e = .returned (.bool true) ∧ Below W.heap.size W W' := by
  have e : Try.prog.bytesOf 2 = 8 := by kernel_rfl
  have e1 : Try.prog.bytesOf 5 = 1 := by kernel_rfl
  have h0 := gy0.1
  have h1 := gy1.1
  rw [e] at h0
  rw [e1] at h1
  exact keep_walk (hk0 W (Has.refl W)) hl0 (by omega) (hk1 W (Has.refl W)) hl1 (by omega) (fun x hx => ks_u8 (gy1.2 x hx))
end Go.Proofs.Ytoidaakmmnlhgaa.Hand
