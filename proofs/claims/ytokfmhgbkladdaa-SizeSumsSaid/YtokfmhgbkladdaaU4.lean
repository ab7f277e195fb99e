/- SizeSums: the walk. -/
import Derived.Test.YtokfmhgbkladdaaU2
import Derived.OpenShut
set_option linter.unusedVariables false
namespace Go.Proofs.Ytokfmhgbkladdaa.Hand
open Go.RowKit Go.Proofs.Ytokfmhgbkladdaa.PSizeTells Go.Proofs.YtokfmhgbkladdaaW.PrintWords Go.Proofs.YtokfmhgbkladdaaW.PrintLast Go.Proofs.YtokfmhgbkladdaaW.PrintMore
set_option maxHeartbeats 1000000 in
set_option maxRecDepth 100000 in
theorem sums_ge_all_true (A0 : Option Addr) (c0 : Nat) (l0 : List Int) (A1 : Option Addr) (c1 : Nat) (l1 : List Int) (bad : Int) (w : World) (hr0 : ReadsInt w .u16 A0 l0.length l0) (hw0 : ∀ x ∈ l0, (Lit.int .u16 x).wf = true) (hr1 : ReadsInt w .u16 A1 l1.length l1) (hw1 : ∀ x ∈ l1, (Lit.int .u16 x).wf = true)
    (hf : fit bad = true) (ha : 6 < l0.length) (hb' : l1.length ≤ 6) :
    Calls Try.prog 5 #[.slice A0 l0.length c0, .slice A1 l1.length c1, .int .i64 bad] w fun e w' => e = .returned (.bool true) ∧ Below w.heap.size w w' := by
  have HB := Aside0.mk (Below.refl w.heap.size w)
  have HR0 := Aside0.mk hr0; clear hr0
  have HW0 := Aside0.mk hw0; clear hw0
  have HR1 := Aside0.mk hr1; clear hr1
  have HW1 := Aside0.mk hw1; clear hw1
  go_enter Try.func5, Try.ntmps5
  go_wp2_with (first | (go_at_call 8; (with_reducible refine (examples_c _).mono ?_); rintro e w1 ⟨rfl, hb⟩; have n0_ := Aside0.mk (below_step (by repeat (first | (with_reducible first | exact HB.out | apply below_alloc | apply pw_below_drewN | apply below_drew1) | exact HB.out)) hb); clear HB; have HB := n0_; clear n0_))
  go_loopw [8, 10] (fun vr v wr => ∃ i : Nat, i ≤ 6 ∧ v = .int .i64 i ∧ Aside0 (Below w1.heap.size w1 wr) ∧ Aside0 (Row wr w1.heap.size vr (mods (l0.take i)))) (fun _ v _ => 6 - (intOf v).toNat)
  case atStart => exact ⟨0, by omega, rfl, ⟨Below.refl _ _⟩, ⟨Row.nil _ _⟩⟩
  case round =>
    obtain ⟨i, hi, rfl, HB2, HO⟩ := hrel
    by_cases hlt : i < 6
    · obtain ⟨x, ex⟩ : ∃ x, l0.getD i 0 = x := ⟨_, rfl⟩
      obtain ⟨ad, eA, hcell⟩ := cellAt HR0.out (below_step (by repeat (first | (with_reducible first | exact HB.out | apply below_alloc | apply pw_below_drewN | apply below_drew1) | exact HB.out)) HB2.out) i (by omega) x ex
      subst eA
      obtain ⟨hx0, hx1⟩ := u16_at HW0.out i (by omega) x ex
      have EX := Aside0.mk ex; clear ex
      go_wp2_with (first | ((with_reducible refine gate_builtin (b := .append) (xs := #[.tmp 35, .tmp 42]) rfl ?_); at_builtin; refine app1 (w0 := w1) w1.heap.size rfl (.tmp 35) (.tmp 42) rfl u8 (mods (l0.take i)) (x % 1025) rfl rfl ?aO ?aB ?aS ?aL ?_; (case aO => exact HO.out); (case aB => exact HB2.out); (case aS => exact HB2.out.size); (case aL => rw [mods_len, List.length_take]; omega); intro v1 w5 ho hb; have HO3 := Aside0.mk ho; have HB3 := Aside0.mk hb; clear ho hb HO HB2))
      go_roundw
      case rel => exact ⟨i + 1, by omega, by go_num, HB3, ⟨by rw [mods_snoc _ i x (by omega) EX.out]; exact HO3.out⟩⟩
      case measure => simp [intOf]; omega
    · obtain rfl : i = 6 := by omega

      generalize hL : mods (l0.take 6) = L at HO
      have fL : ∀ a ∈ L, fit a = true := by rw [← hL]; exact mods_fit _
      have lL : L.length ≤ 6 := by rw [← hL, mods_len, List.length_take]; omega
      clear hL
      have HB4 := Aside0.mk (below_step HB.out HB2.out)
      clear HB HB2
      have HB := HB4
      clear HB4
      have HOL := HO
      clear HO
      obtain ⟨wo, rfl⟩ : ∃ wo : World, wo = wr := ⟨_, rfl⟩
      go_wp2
      go_loopw [9, 11] (fun vr v wr => ∃ i : Nat, i ≤ l1.length ∧ v = .int .i64 i ∧ Aside0 (Below wo.heap.size wo wr) ∧ Aside0 (Row wr wo.heap.size vr (mods (l1.take i)))) (fun _ v _ => l1.length - (intOf v).toNat)
      case atStart => exact ⟨0, by omega, rfl, ⟨Below.refl _ _⟩, ⟨Row.nil _ _⟩⟩
      case round =>
        obtain ⟨i, hi, rfl, HB2, HO⟩ := hrel
        by_cases hlt : i < l1.length
        · obtain ⟨x, ex⟩ : ∃ x, l1.getD i 0 = x := ⟨_, rfl⟩
          obtain ⟨ad, eA, hcell⟩ := cellAt HR1.out (below_step (by repeat (first | (with_reducible first | exact HB.out | apply below_alloc | apply pw_below_drewN | apply below_drew1) | exact HB.out)) HB2.out) i (by omega) x ex
          subst eA
          obtain ⟨hx0, hx1⟩ := u16_at HW1.out i (by omega) x ex
          have EX := Aside0.mk ex; clear ex
          go_wp2_with (first | ((with_reducible refine gate_builtin (b := .append) (xs := #[.tmp 54, .tmp 61]) rfl ?_); at_builtin; refine app1 (w0 := wo) wo.heap.size rfl (.tmp 54) (.tmp 61) rfl u9 (mods (l1.take i)) (x % 1025) rfl rfl ?aO ?aB ?aS ?aL ?_; (case aO => exact HO.out); (case aB => exact HB2.out); (case aS => exact HB2.out.size); (case aL => rw [mods_len, List.length_take]; omega); intro v1 w5 ho hb; have HO3 := Aside0.mk ho; have HB3 := Aside0.mk hb; clear ho hb HO HB2))
          go_roundw
          case rel => exact ⟨i + 1, by omega, by go_num, HB3, ⟨by rw [mods_snoc _ i x (by omega) EX.out]; exact HO3.out⟩⟩
          case measure => simp [intOf]; omega
        · obtain rfl : i = l1.length := by omega

          generalize hM : mods (l1.take l1.length) = M at HO
          have fM : ∀ a ∈ M, fit a = true := by rw [← hM]; exact mods_fit _
          have lM : M.length ≤ 6 := by rw [← hM, mods_len, List.length_take]; omega
          clear hM
          have HOL2 := Aside0.mk (HOL.out.below HB2.out)
          clear HOL
          have HB4 := Aside0.mk (below_step HB.out HB2.out)
          clear HB HB2
          have HB := HB4
          clear HB4
          have tL := tot_bound L
          have tM := tot_bound M
          have eL := sumV_ok L fL (by omega)
          have eM := sumV_ok M fM (by omega)
          have eLM : sumV (L ++ M) = (tot L + tot M, true) := by
            rw [sumV_ok (L ++ M) (fun a ha => (List.mem_append.1 ha).elim (fL a) (fM a)) (by rw [List.length_append]; omega), tot_append]
          have eB : sumV (L ++ [bad]) = (tot L + rnd bad, true) := by
            rw [sumV_ok (L ++ [bad]) (fun a ha => (List.mem_append.1 ha).elim (fL a) (fun h => by rw [List.mem_singleton.1 h]; exact hf)) (by rw [List.length_append]; simp; omega), tot_append]; simp [tot]
          obtain ⟨hk0, hk1⟩ := rnd_le bad
          obtain ⟨LM, hLM⟩ : ∃ x, L ++ M = x := ⟨_, rfl⟩
          obtain ⟨LB, hLB⟩ : ∃ x, L ++ [bad] = x := ⟨_, rfl⟩
          have lLM : LM.length ≤ 12 := by rw [← hLM, List.length_append]; omega
          have lLB : LB.length ≤ 7 := by rw [← hLB, List.length_append]; simp; omega
          rw [hLM] at eLM
          rw [hLB] at eB
          have NLM := Aside0.mk hLM; have NLB := Aside0.mk hLB; clear hLM hLB
          obtain ⟨K, hK⟩ : ∃ K, rnd bad = K := ⟨_, rfl⟩
          rw [hK] at hk0 hk1 eB
          have RK := Aside0.mk hK; clear hK
          generalize tot L = X at *
          generalize tot M = Y at *
          obtain ⟨AL, cL, eqL, lcL, CL⟩ := HOL2.out.shape
          subst eqL
          obtain ⟨AM, cM, eqM, lcM, CM⟩ := HO.out.shape
          subst eqM
          clear HOL2 HO
          have EL := Aside0.mk eL; have EM := Aside0.mk eM; have ELM := Aside0.mk eLM; have EB := Aside0.mk eB; have CL' := Aside0.mk CL; have CM' := Aside0.mk CM
          clear eL eM eLM eB CL CM fL fM
          obtain ⟨wq, hwq⟩ : ∃ wq : World, wq = wr := ⟨_, rfl⟩
          have CL := Aside0.mk (show Kd.C (Kd.int .i64) wq AL L.length L by rw [hwq]; exact CL'.out)
          have CM := Aside0.mk (show Kd.C (Kd.int .i64) wq AM M.length M by rw [hwq]; exact CM'.out)
          have HQ : Aside0 (Below wq.heap.size wq wr) := by rw [hwq]; exact ⟨Below.refl _ _⟩
          have HBq : Aside0 (Below w.heap.size w wq) := by rw [hwq]; exact HB
          clear hwq CL' CM' HB
          go_wp2_with (first | (go_at_call 11; (with_reducible refine (sum_at AL L.length cL L _ _ _ rfl (Kd.C_below CL.out (by repeat (first | (with_reducible first | exact HQ.out | apply below_alloc | apply pw_below_drewN | apply below_drew1) | exact HQ.out))) (by omega) (by omega) EL.out).mono ?_); rintro e w' ⟨rfl, ⟨nd, rfl⟩⟩) | (go_at_call 11; (with_reducible refine (sum_at AM M.length cM M _ _ _ rfl (Kd.C_below CM.out (by repeat (first | (with_reducible first | exact HQ.out | apply below_alloc | apply pw_below_drewN | apply below_drew1) | exact HQ.out))) (by omega) (by omega) EM.out).mono ?_); rintro e w' ⟨rfl, ⟨nd, rfl⟩⟩) | ((with_reducible refine gate_builtin (b := .append) (xs := #[.const (.slice none 0 0), .tmp 74]) rfl ?_); at_builtin; refine appRow (w0 := wq) wq.heap.size rfl (.const (.slice none 0 0)) (.tmp 74) rfl (.slice none 0 0) [] L AL L.length cL rfl rfl ?rO ?rR ?rB ?rS ?rL ?_; (case rO => exact (Row.nil _ _)); (case rR => exact (Kd.C_below CL.out (by repeat (first | (with_reducible first | exact HQ.out | apply below_alloc | apply pw_below_drewN | apply below_drew1) | exact HQ.out)))); (case rB => exact (by repeat (first | (with_reducible first | exact HQ.out | apply below_alloc | apply pw_below_drewN | apply below_drew1) | exact HQ.out))); (case rS => exact (below_size (by repeat (first | (with_reducible first | exact HQ.out | apply below_alloc | apply pw_below_drewN | apply below_drew1) | exact HQ.out)))); (case rL => simp; omega); intro v1 w6 ho hb; rw [List.nil_append] at ho; have HO1 := Aside0.mk ho; clear ho; have HQ' := Aside0.mk hb; clear HQ hb; have HQ := HQ'; clear HQ') | ((with_reducible refine gate_builtin (b := .append) (xs := #[.tmp 75, .tmp 76]) rfl ?_); at_builtin; refine appRow (w0 := wq) wq.heap.size rfl (.tmp 75) (.tmp 76) rfl v1 L M AM M.length cM rfl rfl ?rO ?rR ?rB ?rS ?rL ?_; (case rO => exact HO1.out); (case rR => exact (Kd.C_below CM.out (by repeat (first | (with_reducible first | exact HQ.out | apply below_alloc | apply pw_below_drewN | apply below_drew1) | exact HQ.out)))); (case rB => exact (by repeat (first | (with_reducible first | exact HQ.out | apply below_alloc | apply pw_below_drewN | apply below_drew1) | exact HQ.out))); (case rS => exact (below_size (by repeat (first | (with_reducible first | exact HQ.out | apply below_alloc | apply pw_below_drewN | apply below_drew1) | exact HQ.out)))); (case rL => omega); intro v1 w7 ho hb; rw [NLM.out] at ho; clear HO1; obtain ⟨A5, c5, eq5, lA5, CA5⟩ := ho.shape; subst eq5; have DA5 := Aside0.mk CA5; clear CA5 ho; have HQ' := Aside0.mk hb; clear HQ hb; have HQ := HQ'; clear HQ') | (go_at_call 11; (with_reducible refine (sum_at A5 LM.length c5 LM _ _ _ rfl (by repeat (first | exact DA5.out | (with_reducible refine Kd.C_alloc ?_ _) | (with_reducible refine Kd.C_drewN ?_ _) | (with_reducible refine Kd.C_drew ?_))) (by omega) (by omega) ELM.out).mono ?_); rintro e w' ⟨rfl, ⟨nd, rfl⟩⟩) | ((with_reducible refine gate_builtin (b := .append) (xs := #[.const (.slice none 0 0), .tmp 82]) rfl ?_); at_builtin; refine appRow (w0 := wq) wq.heap.size rfl (.const (.slice none 0 0)) (.tmp 82) rfl (.slice none 0 0) [] L AL L.length cL rfl rfl ?rO ?rR ?rB ?rS ?rL ?_; (case rO => exact (Row.nil _ _)); (case rR => exact (Kd.C_below CL.out (by repeat (first | (with_reducible first | exact HQ.out | apply below_alloc | apply pw_below_drewN | apply below_drew1) | exact HQ.out)))); (case rB => exact (by repeat (first | (with_reducible first | exact HQ.out | apply below_alloc | apply pw_below_drewN | apply below_drew1) | exact HQ.out))); (case rS => exact (below_size (by repeat (first | (with_reducible first | exact HQ.out | apply below_alloc | apply pw_below_drewN | apply below_drew1) | exact HQ.out)))); (case rL => simp; omega); intro v1 w6 ho hb; rw [List.nil_append] at ho; have HO2 := Aside0.mk ho; clear ho; have HQ' := Aside0.mk hb; clear HQ hb; have HQ := HQ'; clear HQ') | ((with_reducible refine gate_builtin (b := .append) (xs := #[.tmp 83, .tmp 85]) rfl ?_); at_builtin; refine app1 (w0 := wq) wq.heap.size rfl (.tmp 83) (.tmp 85) rfl v1 L bad rfl rfl ?aO ?aB ?aS ?aL ?_; (case aO => exact HO2.out); (case aB => exact (by repeat (first | (with_reducible first | exact HQ.out | apply below_alloc | apply pw_below_drewN | apply below_drew1) | exact HQ.out))); (case aS => exact (below_size (by repeat (first | (with_reducible first | exact HQ.out | apply below_alloc | apply pw_below_drewN | apply below_drew1) | exact HQ.out)))); (case aL => omega); intro v1 w8 ho hb; rw [NLB.out] at ho; clear HO2; obtain ⟨A6, c6, eq5, lA6, CA6⟩ := ho.shape; subst eq5; have DA6 := Aside0.mk CA6; clear CA6 ho; have HQ' := Aside0.mk hb; clear HQ hb; have HQ := HQ'; clear HQ') | (go_at_call 11; (with_reducible refine (sum_at A6 LB.length c6 LB _ _ _ rfl (by repeat (first | exact DA6.out | (with_reducible refine Kd.C_alloc ?_ _) | (with_reducible refine Kd.C_drewN ?_ _) | (with_reducible refine Kd.C_drew ?_))) (by omega) (by omega) EB.out).mono ?_); rintro e w' ⟨rfl, ⟨nd, rfl⟩⟩) | (go_at_call 9; (with_reducible refine (round_at' bad K _ _ RK.out hf).mono ?_); rintro e w' ⟨rfl, ⟨nd, rfl⟩⟩))
          go_ret
          exact ⟨rfl, below_step HBq.out (by repeat (first | (with_reducible first | exact HQ.out | apply below_alloc | apply pw_below_drewN | apply below_drew1) | exact HQ.out))⟩
set_option maxHeartbeats 1000000 in
set_option maxRecDepth 100000 in
theorem sums_ge_all_false (A0 : Option Addr) (c0 : Nat) (l0 : List Int) (A1 : Option Addr) (c1 : Nat) (l1 : List Int) (bad : Int) (w : World) (hr0 : ReadsInt w .u16 A0 l0.length l0) (hw0 : ∀ x ∈ l0, (Lit.int .u16 x).wf = true) (hr1 : ReadsInt w .u16 A1 l1.length l1) (hw1 : ∀ x ∈ l1, (Lit.int .u16 x).wf = true)
    (hf : fit bad = false) (ha : 6 < l0.length) (hb' : l1.length ≤ 6) :
    Calls Try.prog 5 #[.slice A0 l0.length c0, .slice A1 l1.length c1, .int .i64 bad] w fun e w' => e = .returned (.bool true) ∧ Below w.heap.size w w' := by
  have HB := Aside0.mk (Below.refl w.heap.size w)
  have HR0 := Aside0.mk hr0; clear hr0
  have HW0 := Aside0.mk hw0; clear hw0
  have HR1 := Aside0.mk hr1; clear hr1
  have HW1 := Aside0.mk hw1; clear hw1
  go_enter Try.func5, Try.ntmps5
  go_wp2_with (first | (go_at_call 8; (with_reducible refine (examples_c _).mono ?_); rintro e w1 ⟨rfl, hb⟩; have n0_ := Aside0.mk (below_step (by repeat (first | (with_reducible first | exact HB.out | apply below_alloc | apply pw_below_drewN | apply below_drew1) | exact HB.out)) hb); clear HB; have HB := n0_; clear n0_))
  go_loopw [8, 10] (fun vr v wr => ∃ i : Nat, i ≤ 6 ∧ v = .int .i64 i ∧ Aside0 (Below w1.heap.size w1 wr) ∧ Aside0 (Row wr w1.heap.size vr (mods (l0.take i)))) (fun _ v _ => 6 - (intOf v).toNat)
  case atStart => exact ⟨0, by omega, rfl, ⟨Below.refl _ _⟩, ⟨Row.nil _ _⟩⟩
  case round =>
    obtain ⟨i, hi, rfl, HB2, HO⟩ := hrel
    by_cases hlt : i < 6
    · obtain ⟨x, ex⟩ : ∃ x, l0.getD i 0 = x := ⟨_, rfl⟩
      obtain ⟨ad, eA, hcell⟩ := cellAt HR0.out (below_step (by repeat (first | (with_reducible first | exact HB.out | apply below_alloc | apply pw_below_drewN | apply below_drew1) | exact HB.out)) HB2.out) i (by omega) x ex
      subst eA
      obtain ⟨hx0, hx1⟩ := u16_at HW0.out i (by omega) x ex
      have EX := Aside0.mk ex; clear ex
      go_wp2_with (first | ((with_reducible refine gate_builtin (b := .append) (xs := #[.tmp 35, .tmp 42]) rfl ?_); at_builtin; refine app1 (w0 := w1) w1.heap.size rfl (.tmp 35) (.tmp 42) rfl u8 (mods (l0.take i)) (x % 1025) rfl rfl ?aO ?aB ?aS ?aL ?_; (case aO => exact HO.out); (case aB => exact HB2.out); (case aS => exact HB2.out.size); (case aL => rw [mods_len, List.length_take]; omega); intro v1 w5 ho hb; have HO3 := Aside0.mk ho; have HB3 := Aside0.mk hb; clear ho hb HO HB2))
      go_roundw
      case rel => exact ⟨i + 1, by omega, by go_num, HB3, ⟨by rw [mods_snoc _ i x (by omega) EX.out]; exact HO3.out⟩⟩
      case measure => simp [intOf]; omega
    · obtain rfl : i = 6 := by omega

      generalize hL : mods (l0.take 6) = L at HO
      have fL : ∀ a ∈ L, fit a = true := by rw [← hL]; exact mods_fit _
      have lL : L.length ≤ 6 := by rw [← hL, mods_len, List.length_take]; omega
      clear hL
      have HB4 := Aside0.mk (below_step HB.out HB2.out)
      clear HB HB2
      have HB := HB4
      clear HB4
      have HOL := HO
      clear HO
      obtain ⟨wo, rfl⟩ : ∃ wo : World, wo = wr := ⟨_, rfl⟩
      go_wp2
      go_loopw [9, 11] (fun vr v wr => ∃ i : Nat, i ≤ l1.length ∧ v = .int .i64 i ∧ Aside0 (Below wo.heap.size wo wr) ∧ Aside0 (Row wr wo.heap.size vr (mods (l1.take i)))) (fun _ v _ => l1.length - (intOf v).toNat)
      case atStart => exact ⟨0, by omega, rfl, ⟨Below.refl _ _⟩, ⟨Row.nil _ _⟩⟩
      case round =>
        obtain ⟨i, hi, rfl, HB2, HO⟩ := hrel
        by_cases hlt : i < l1.length
        · obtain ⟨x, ex⟩ : ∃ x, l1.getD i 0 = x := ⟨_, rfl⟩
          obtain ⟨ad, eA, hcell⟩ := cellAt HR1.out (below_step (by repeat (first | (with_reducible first | exact HB.out | apply below_alloc | apply pw_below_drewN | apply below_drew1) | exact HB.out)) HB2.out) i (by omega) x ex
          subst eA
          obtain ⟨hx0, hx1⟩ := u16_at HW1.out i (by omega) x ex
          have EX := Aside0.mk ex; clear ex
          go_wp2_with (first | ((with_reducible refine gate_builtin (b := .append) (xs := #[.tmp 54, .tmp 61]) rfl ?_); at_builtin; refine app1 (w0 := wo) wo.heap.size rfl (.tmp 54) (.tmp 61) rfl u9 (mods (l1.take i)) (x % 1025) rfl rfl ?aO ?aB ?aS ?aL ?_; (case aO => exact HO.out); (case aB => exact HB2.out); (case aS => exact HB2.out.size); (case aL => rw [mods_len, List.length_take]; omega); intro v1 w5 ho hb; have HO3 := Aside0.mk ho; have HB3 := Aside0.mk hb; clear ho hb HO HB2))
          go_roundw
          case rel => exact ⟨i + 1, by omega, by go_num, HB3, ⟨by rw [mods_snoc _ i x (by omega) EX.out]; exact HO3.out⟩⟩
          case measure => simp [intOf]; omega
        · obtain rfl : i = l1.length := by omega

          generalize hM : mods (l1.take l1.length) = M at HO
          have fM : ∀ a ∈ M, fit a = true := by rw [← hM]; exact mods_fit _
          have lM : M.length ≤ 6 := by rw [← hM, mods_len, List.length_take]; omega
          clear hM
          have HOL2 := Aside0.mk (HOL.out.below HB2.out)
          clear HOL
          have HB4 := Aside0.mk (below_step HB.out HB2.out)
          clear HB HB2
          have HB := HB4
          clear HB4
          have tL := tot_bound L
          have tM := tot_bound M
          have eL := sumV_ok L fL (by omega)
          have eM := sumV_ok M fM (by omega)
          have eLM : sumV (L ++ M) = (tot L + tot M, true) := by
            rw [sumV_ok (L ++ M) (fun a ha => (List.mem_append.1 ha).elim (fL a) (fM a)) (by rw [List.length_append]; omega), tot_append]
          have eB : sumV (L ++ [bad]) = (0, false) := by
            exact sumGo_bad L 0 bad fL hf
          obtain ⟨hk0, hk1⟩ := rnd_le bad
          obtain ⟨LM, hLM⟩ : ∃ x, L ++ M = x := ⟨_, rfl⟩
          obtain ⟨LB, hLB⟩ : ∃ x, L ++ [bad] = x := ⟨_, rfl⟩
          have lLM : LM.length ≤ 12 := by rw [← hLM, List.length_append]; omega
          have lLB : LB.length ≤ 7 := by rw [← hLB, List.length_append]; simp; omega
          rw [hLM] at eLM
          rw [hLB] at eB
          have NLM := Aside0.mk hLM; have NLB := Aside0.mk hLB; clear hLM hLB
          obtain ⟨K, hK⟩ : ∃ K, rnd bad = K := ⟨_, rfl⟩
          rw [hK] at hk0 hk1
          have RK := Aside0.mk hK; clear hK
          generalize tot L = X at *
          generalize tot M = Y at *
          obtain ⟨AL, cL, eqL, lcL, CL⟩ := HOL2.out.shape
          subst eqL
          obtain ⟨AM, cM, eqM, lcM, CM⟩ := HO.out.shape
          subst eqM
          clear HOL2 HO
          have EL := Aside0.mk eL; have EM := Aside0.mk eM; have ELM := Aside0.mk eLM; have EB := Aside0.mk eB; have CL' := Aside0.mk CL; have CM' := Aside0.mk CM
          clear eL eM eLM eB CL CM fL fM
          obtain ⟨wq, hwq⟩ : ∃ wq : World, wq = wr := ⟨_, rfl⟩
          have CL := Aside0.mk (show Kd.C (Kd.int .i64) wq AL L.length L by rw [hwq]; exact CL'.out)
          have CM := Aside0.mk (show Kd.C (Kd.int .i64) wq AM M.length M by rw [hwq]; exact CM'.out)
          have HQ : Aside0 (Below wq.heap.size wq wr) := by rw [hwq]; exact ⟨Below.refl _ _⟩
          have HBq : Aside0 (Below w.heap.size w wq) := by rw [hwq]; exact HB
          clear hwq CL' CM' HB
          go_wp2_with (first | (go_at_call 11; (with_reducible refine (sum_at AL L.length cL L _ _ _ rfl (Kd.C_below CL.out (by repeat (first | (with_reducible first | exact HQ.out | apply below_alloc | apply pw_below_drewN | apply below_drew1) | exact HQ.out))) (by omega) (by omega) EL.out).mono ?_); rintro e w' ⟨rfl, ⟨nd, rfl⟩⟩) | (go_at_call 11; (with_reducible refine (sum_at AM M.length cM M _ _ _ rfl (Kd.C_below CM.out (by repeat (first | (with_reducible first | exact HQ.out | apply below_alloc | apply pw_below_drewN | apply below_drew1) | exact HQ.out))) (by omega) (by omega) EM.out).mono ?_); rintro e w' ⟨rfl, ⟨nd, rfl⟩⟩) | ((with_reducible refine gate_builtin (b := .append) (xs := #[.const (.slice none 0 0), .tmp 74]) rfl ?_); at_builtin; refine appRow (w0 := wq) wq.heap.size rfl (.const (.slice none 0 0)) (.tmp 74) rfl (.slice none 0 0) [] L AL L.length cL rfl rfl ?rO ?rR ?rB ?rS ?rL ?_; (case rO => exact (Row.nil _ _)); (case rR => exact (Kd.C_below CL.out (by repeat (first | (with_reducible first | exact HQ.out | apply below_alloc | apply pw_below_drewN | apply below_drew1) | exact HQ.out)))); (case rB => exact (by repeat (first | (with_reducible first | exact HQ.out | apply below_alloc | apply pw_below_drewN | apply below_drew1) | exact HQ.out))); (case rS => exact (below_size (by repeat (first | (with_reducible first | exact HQ.out | apply below_alloc | apply pw_below_drewN | apply below_drew1) | exact HQ.out)))); (case rL => simp; omega); intro v1 w6 ho hb; rw [List.nil_append] at ho; have HO1 := Aside0.mk ho; clear ho; have HQ' := Aside0.mk hb; clear HQ hb; have HQ := HQ'; clear HQ') | ((with_reducible refine gate_builtin (b := .append) (xs := #[.tmp 75, .tmp 76]) rfl ?_); at_builtin; refine appRow (w0 := wq) wq.heap.size rfl (.tmp 75) (.tmp 76) rfl v1 L M AM M.length cM rfl rfl ?rO ?rR ?rB ?rS ?rL ?_; (case rO => exact HO1.out); (case rR => exact (Kd.C_below CM.out (by repeat (first | (with_reducible first | exact HQ.out | apply below_alloc | apply pw_below_drewN | apply below_drew1) | exact HQ.out)))); (case rB => exact (by repeat (first | (with_reducible first | exact HQ.out | apply below_alloc | apply pw_below_drewN | apply below_drew1) | exact HQ.out))); (case rS => exact (below_size (by repeat (first | (with_reducible first | exact HQ.out | apply below_alloc | apply pw_below_drewN | apply below_drew1) | exact HQ.out)))); (case rL => omega); intro v1 w7 ho hb; rw [NLM.out] at ho; clear HO1; obtain ⟨A5, c5, eq5, lA5, CA5⟩ := ho.shape; subst eq5; have DA5 := Aside0.mk CA5; clear CA5 ho; have HQ' := Aside0.mk hb; clear HQ hb; have HQ := HQ'; clear HQ') | (go_at_call 11; (with_reducible refine (sum_at A5 LM.length c5 LM _ _ _ rfl (by repeat (first | exact DA5.out | (with_reducible refine Kd.C_alloc ?_ _) | (with_reducible refine Kd.C_drewN ?_ _) | (with_reducible refine Kd.C_drew ?_))) (by omega) (by omega) ELM.out).mono ?_); rintro e w' ⟨rfl, ⟨nd, rfl⟩⟩) | ((with_reducible refine gate_builtin (b := .append) (xs := #[.const (.slice none 0 0), .tmp 82]) rfl ?_); at_builtin; refine appRow (w0 := wq) wq.heap.size rfl (.const (.slice none 0 0)) (.tmp 82) rfl (.slice none 0 0) [] L AL L.length cL rfl rfl ?rO ?rR ?rB ?rS ?rL ?_; (case rO => exact (Row.nil _ _)); (case rR => exact (Kd.C_below CL.out (by repeat (first | (with_reducible first | exact HQ.out | apply below_alloc | apply pw_below_drewN | apply below_drew1) | exact HQ.out)))); (case rB => exact (by repeat (first | (with_reducible first | exact HQ.out | apply below_alloc | apply pw_below_drewN | apply below_drew1) | exact HQ.out))); (case rS => exact (below_size (by repeat (first | (with_reducible first | exact HQ.out | apply below_alloc | apply pw_below_drewN | apply below_drew1) | exact HQ.out)))); (case rL => simp; omega); intro v1 w6 ho hb; rw [List.nil_append] at ho; have HO2 := Aside0.mk ho; clear ho; have HQ' := Aside0.mk hb; clear HQ hb; have HQ := HQ'; clear HQ') | ((with_reducible refine gate_builtin (b := .append) (xs := #[.tmp 83, .tmp 85]) rfl ?_); at_builtin; refine app1 (w0 := wq) wq.heap.size rfl (.tmp 83) (.tmp 85) rfl v1 L bad rfl rfl ?aO ?aB ?aS ?aL ?_; (case aO => exact HO2.out); (case aB => exact (by repeat (first | (with_reducible first | exact HQ.out | apply below_alloc | apply pw_below_drewN | apply below_drew1) | exact HQ.out))); (case aS => exact (below_size (by repeat (first | (with_reducible first | exact HQ.out | apply below_alloc | apply pw_below_drewN | apply below_drew1) | exact HQ.out)))); (case aL => omega); intro v1 w8 ho hb; rw [NLB.out] at ho; clear HO2; obtain ⟨A6, c6, eq5, lA6, CA6⟩ := ho.shape; subst eq5; have DA6 := Aside0.mk CA6; clear CA6 ho; have HQ' := Aside0.mk hb; clear HQ hb; have HQ := HQ'; clear HQ') | (go_at_call 11; (with_reducible refine (sum_at A6 LB.length c6 LB _ _ _ rfl (by repeat (first | exact DA6.out | (with_reducible refine Kd.C_alloc ?_ _) | (with_reducible refine Kd.C_drewN ?_ _) | (with_reducible refine Kd.C_drew ?_))) (by omega) (by omega) EB.out).mono ?_); rintro e w' ⟨rfl, ⟨nd, rfl⟩⟩) | (go_at_call 9; (with_reducible refine (round_at' bad K _ _ RK.out hf).mono ?_); rintro e w' ⟨rfl, ⟨nd, rfl⟩⟩))
          go_ret
          exact ⟨rfl, below_step HBq.out (by repeat (first | (with_reducible first | exact HQ.out | apply below_alloc | apply pw_below_drewN | apply below_drew1) | exact HQ.out))⟩
set_option maxHeartbeats 1000000 in
set_option maxRecDepth 100000 in
theorem sums_ge_ge_true (A0 : Option Addr) (c0 : Nat) (l0 : List Int) (A1 : Option Addr) (c1 : Nat) (l1 : List Int) (bad : Int) (w : World) (hr0 : ReadsInt w .u16 A0 l0.length l0) (hw0 : ∀ x ∈ l0, (Lit.int .u16 x).wf = true) (hr1 : ReadsInt w .u16 A1 l1.length l1) (hw1 : ∀ x ∈ l1, (Lit.int .u16 x).wf = true)
    (hf : fit bad = true) (ha : 6 < l0.length) (hb' : 6 < l1.length) :
    Calls Try.prog 5 #[.slice A0 l0.length c0, .slice A1 l1.length c1, .int .i64 bad] w fun e w' => e = .returned (.bool true) ∧ Below w.heap.size w w' := by
  have HB := Aside0.mk (Below.refl w.heap.size w)
  have HR0 := Aside0.mk hr0; clear hr0
  have HW0 := Aside0.mk hw0; clear hw0
  have HR1 := Aside0.mk hr1; clear hr1
  have HW1 := Aside0.mk hw1; clear hw1
  go_enter Try.func5, Try.ntmps5
  go_wp2_with (first | (go_at_call 8; (with_reducible refine (examples_c _).mono ?_); rintro e w1 ⟨rfl, hb⟩; have n0_ := Aside0.mk (below_step (by repeat (first | (with_reducible first | exact HB.out | apply below_alloc | apply pw_below_drewN | apply below_drew1) | exact HB.out)) hb); clear HB; have HB := n0_; clear n0_))
  go_loopw [8, 10] (fun vr v wr => ∃ i : Nat, i ≤ 6 ∧ v = .int .i64 i ∧ Aside0 (Below w1.heap.size w1 wr) ∧ Aside0 (Row wr w1.heap.size vr (mods (l0.take i)))) (fun _ v _ => 6 - (intOf v).toNat)
  case atStart => exact ⟨0, by omega, rfl, ⟨Below.refl _ _⟩, ⟨Row.nil _ _⟩⟩
  case round =>
    obtain ⟨i, hi, rfl, HB2, HO⟩ := hrel
    by_cases hlt : i < 6
    · obtain ⟨x, ex⟩ : ∃ x, l0.getD i 0 = x := ⟨_, rfl⟩
      obtain ⟨ad, eA, hcell⟩ := cellAt HR0.out (below_step (by repeat (first | (with_reducible first | exact HB.out | apply below_alloc | apply pw_below_drewN | apply below_drew1) | exact HB.out)) HB2.out) i (by omega) x ex
      subst eA
      obtain ⟨hx0, hx1⟩ := u16_at HW0.out i (by omega) x ex
      have EX := Aside0.mk ex; clear ex
      go_wp2_with (first | ((with_reducible refine gate_builtin (b := .append) (xs := #[.tmp 35, .tmp 42]) rfl ?_); at_builtin; refine app1 (w0 := w1) w1.heap.size rfl (.tmp 35) (.tmp 42) rfl u8 (mods (l0.take i)) (x % 1025) rfl rfl ?aO ?aB ?aS ?aL ?_; (case aO => exact HO.out); (case aB => exact HB2.out); (case aS => exact HB2.out.size); (case aL => rw [mods_len, List.length_take]; omega); intro v1 w5 ho hb; have HO3 := Aside0.mk ho; have HB3 := Aside0.mk hb; clear ho hb HO HB2))
      go_roundw
      case rel => exact ⟨i + 1, by omega, by go_num, HB3, ⟨by rw [mods_snoc _ i x (by omega) EX.out]; exact HO3.out⟩⟩
      case measure => simp [intOf]; omega
    · obtain rfl : i = 6 := by omega

      generalize hL : mods (l0.take 6) = L at HO
      have fL : ∀ a ∈ L, fit a = true := by rw [← hL]; exact mods_fit _
      have lL : L.length ≤ 6 := by rw [← hL, mods_len, List.length_take]; omega
      clear hL
      have HB4 := Aside0.mk (below_step HB.out HB2.out)
      clear HB HB2
      have HB := HB4
      clear HB4
      have HOL := HO
      clear HO
      obtain ⟨wo, rfl⟩ : ∃ wo : World, wo = wr := ⟨_, rfl⟩
      go_wp2
      go_loopw [9, 11] (fun vr v wr => ∃ i : Nat, i ≤ 6 ∧ v = .int .i64 i ∧ Aside0 (Below wo.heap.size wo wr) ∧ Aside0 (Row wr wo.heap.size vr (mods (l1.take i)))) (fun _ v _ => 6 - (intOf v).toNat)
      case atStart => exact ⟨0, by omega, rfl, ⟨Below.refl _ _⟩, ⟨Row.nil _ _⟩⟩
      case round =>
        obtain ⟨i, hi, rfl, HB2, HO⟩ := hrel
        by_cases hlt : i < 6
        · obtain ⟨x, ex⟩ : ∃ x, l1.getD i 0 = x := ⟨_, rfl⟩
          obtain ⟨ad, eA, hcell⟩ := cellAt HR1.out (below_step (by repeat (first | (with_reducible first | exact HB.out | apply below_alloc | apply pw_below_drewN | apply below_drew1) | exact HB.out)) HB2.out) i (by omega) x ex
          subst eA
          obtain ⟨hx0, hx1⟩ := u16_at HW1.out i (by omega) x ex
          have EX := Aside0.mk ex; clear ex
          go_wp2_with (first | ((with_reducible refine gate_builtin (b := .append) (xs := #[.tmp 54, .tmp 61]) rfl ?_); at_builtin; refine app1 (w0 := wo) wo.heap.size rfl (.tmp 54) (.tmp 61) rfl u9 (mods (l1.take i)) (x % 1025) rfl rfl ?aO ?aB ?aS ?aL ?_; (case aO => exact HO.out); (case aB => exact HB2.out); (case aS => exact HB2.out.size); (case aL => rw [mods_len, List.length_take]; omega); intro v1 w5 ho hb; have HO3 := Aside0.mk ho; have HB3 := Aside0.mk hb; clear ho hb HO HB2))
          go_roundw
          case rel => exact ⟨i + 1, by omega, by go_num, HB3, ⟨by rw [mods_snoc _ i x (by omega) EX.out]; exact HO3.out⟩⟩
          case measure => simp [intOf]; omega
        · obtain rfl : i = 6 := by omega

          generalize hM : mods (l1.take 6) = M at HO
          have fM : ∀ a ∈ M, fit a = true := by rw [← hM]; exact mods_fit _
          have lM : M.length ≤ 6 := by rw [← hM, mods_len, List.length_take]; omega
          clear hM
          have HOL2 := Aside0.mk (HOL.out.below HB2.out)
          clear HOL
          have HB4 := Aside0.mk (below_step HB.out HB2.out)
          clear HB HB2
          have HB := HB4
          clear HB4
          have tL := tot_bound L
          have tM := tot_bound M
          have eL := sumV_ok L fL (by omega)
          have eM := sumV_ok M fM (by omega)
          have eLM : sumV (L ++ M) = (tot L + tot M, true) := by
            rw [sumV_ok (L ++ M) (fun a ha => (List.mem_append.1 ha).elim (fL a) (fM a)) (by rw [List.length_append]; omega), tot_append]
          have eB : sumV (L ++ [bad]) = (tot L + rnd bad, true) := by
            rw [sumV_ok (L ++ [bad]) (fun a ha => (List.mem_append.1 ha).elim (fL a) (fun h => by rw [List.mem_singleton.1 h]; exact hf)) (by rw [List.length_append]; simp; omega), tot_append]; simp [tot]
          obtain ⟨hk0, hk1⟩ := rnd_le bad
          obtain ⟨LM, hLM⟩ : ∃ x, L ++ M = x := ⟨_, rfl⟩
          obtain ⟨LB, hLB⟩ : ∃ x, L ++ [bad] = x := ⟨_, rfl⟩
          have lLM : LM.length ≤ 12 := by rw [← hLM, List.length_append]; omega
          have lLB : LB.length ≤ 7 := by rw [← hLB, List.length_append]; simp; omega
          rw [hLM] at eLM
          rw [hLB] at eB
          have NLM := Aside0.mk hLM; have NLB := Aside0.mk hLB; clear hLM hLB
          obtain ⟨K, hK⟩ : ∃ K, rnd bad = K := ⟨_, rfl⟩
          rw [hK] at hk0 hk1 eB
          have RK := Aside0.mk hK; clear hK
          generalize tot L = X at *
          generalize tot M = Y at *
          obtain ⟨AL, cL, eqL, lcL, CL⟩ := HOL2.out.shape
          subst eqL
          obtain ⟨AM, cM, eqM, lcM, CM⟩ := HO.out.shape
          subst eqM
          clear HOL2 HO
          have EL := Aside0.mk eL; have EM := Aside0.mk eM; have ELM := Aside0.mk eLM; have EB := Aside0.mk eB; have CL' := Aside0.mk CL; have CM' := Aside0.mk CM
          clear eL eM eLM eB CL CM fL fM
          obtain ⟨wq, hwq⟩ : ∃ wq : World, wq = wr := ⟨_, rfl⟩
          have CL := Aside0.mk (show Kd.C (Kd.int .i64) wq AL L.length L by rw [hwq]; exact CL'.out)
          have CM := Aside0.mk (show Kd.C (Kd.int .i64) wq AM M.length M by rw [hwq]; exact CM'.out)
          have HQ : Aside0 (Below wq.heap.size wq wr) := by rw [hwq]; exact ⟨Below.refl _ _⟩
          have HBq : Aside0 (Below w.heap.size w wq) := by rw [hwq]; exact HB
          clear hwq CL' CM' HB
          go_wp2_with (first | (go_at_call 11; (with_reducible refine (sum_at AL L.length cL L _ _ _ rfl (Kd.C_below CL.out (by repeat (first | (with_reducible first | exact HQ.out | apply below_alloc | apply pw_below_drewN | apply below_drew1) | exact HQ.out))) (by omega) (by omega) EL.out).mono ?_); rintro e w' ⟨rfl, ⟨nd, rfl⟩⟩) | (go_at_call 11; (with_reducible refine (sum_at AM M.length cM M _ _ _ rfl (Kd.C_below CM.out (by repeat (first | (with_reducible first | exact HQ.out | apply below_alloc | apply pw_below_drewN | apply below_drew1) | exact HQ.out))) (by omega) (by omega) EM.out).mono ?_); rintro e w' ⟨rfl, ⟨nd, rfl⟩⟩) | ((with_reducible refine gate_builtin (b := .append) (xs := #[.const (.slice none 0 0), .tmp 74]) rfl ?_); at_builtin; refine appRow (w0 := wq) wq.heap.size rfl (.const (.slice none 0 0)) (.tmp 74) rfl (.slice none 0 0) [] L AL L.length cL rfl rfl ?rO ?rR ?rB ?rS ?rL ?_; (case rO => exact (Row.nil _ _)); (case rR => exact (Kd.C_below CL.out (by repeat (first | (with_reducible first | exact HQ.out | apply below_alloc | apply pw_below_drewN | apply below_drew1) | exact HQ.out)))); (case rB => exact (by repeat (first | (with_reducible first | exact HQ.out | apply below_alloc | apply pw_below_drewN | apply below_drew1) | exact HQ.out))); (case rS => exact (below_size (by repeat (first | (with_reducible first | exact HQ.out | apply below_alloc | apply pw_below_drewN | apply below_drew1) | exact HQ.out)))); (case rL => simp; omega); intro v1 w6 ho hb; rw [List.nil_append] at ho; have HO1 := Aside0.mk ho; clear ho; have HQ' := Aside0.mk hb; clear HQ hb; have HQ := HQ'; clear HQ') | ((with_reducible refine gate_builtin (b := .append) (xs := #[.tmp 75, .tmp 76]) rfl ?_); at_builtin; refine appRow (w0 := wq) wq.heap.size rfl (.tmp 75) (.tmp 76) rfl v1 L M AM M.length cM rfl rfl ?rO ?rR ?rB ?rS ?rL ?_; (case rO => exact HO1.out); (case rR => exact (Kd.C_below CM.out (by repeat (first | (with_reducible first | exact HQ.out | apply below_alloc | apply pw_below_drewN | apply below_drew1) | exact HQ.out)))); (case rB => exact (by repeat (first | (with_reducible first | exact HQ.out | apply below_alloc | apply pw_below_drewN | apply below_drew1) | exact HQ.out))); (case rS => exact (below_size (by repeat (first | (with_reducible first | exact HQ.out | apply below_alloc | apply pw_below_drewN | apply below_drew1) | exact HQ.out)))); (case rL => omega); intro v1 w7 ho hb; rw [NLM.out] at ho; clear HO1; obtain ⟨A5, c5, eq5, lA5, CA5⟩ := ho.shape; subst eq5; have DA5 := Aside0.mk CA5; clear CA5 ho; have HQ' := Aside0.mk hb; clear HQ hb; have HQ := HQ'; clear HQ') | (go_at_call 11; (with_reducible refine (sum_at A5 LM.length c5 LM _ _ _ rfl (by repeat (first | exact DA5.out | (with_reducible refine Kd.C_alloc ?_ _) | (with_reducible refine Kd.C_drewN ?_ _) | (with_reducible refine Kd.C_drew ?_))) (by omega) (by omega) ELM.out).mono ?_); rintro e w' ⟨rfl, ⟨nd, rfl⟩⟩) | ((with_reducible refine gate_builtin (b := .append) (xs := #[.const (.slice none 0 0), .tmp 82]) rfl ?_); at_builtin; refine appRow (w0 := wq) wq.heap.size rfl (.const (.slice none 0 0)) (.tmp 82) rfl (.slice none 0 0) [] L AL L.length cL rfl rfl ?rO ?rR ?rB ?rS ?rL ?_; (case rO => exact (Row.nil _ _)); (case rR => exact (Kd.C_below CL.out (by repeat (first | (with_reducible first | exact HQ.out | apply below_alloc | apply pw_below_drewN | apply below_drew1) | exact HQ.out)))); (case rB => exact (by repeat (first | (with_reducible first | exact HQ.out | apply below_alloc | apply pw_below_drewN | apply below_drew1) | exact HQ.out))); (case rS => exact (below_size (by repeat (first | (with_reducible first | exact HQ.out | apply below_alloc | apply pw_below_drewN | apply below_drew1) | exact HQ.out)))); (case rL => simp; omega); intro v1 w6 ho hb; rw [List.nil_append] at ho; have HO2 := Aside0.mk ho; clear ho; have HQ' := Aside0.mk hb; clear HQ hb; have HQ := HQ'; clear HQ') | ((with_reducible refine gate_builtin (b := .append) (xs := #[.tmp 83, .tmp 85]) rfl ?_); at_builtin; refine app1 (w0 := wq) wq.heap.size rfl (.tmp 83) (.tmp 85) rfl v1 L bad rfl rfl ?aO ?aB ?aS ?aL ?_; (case aO => exact HO2.out); (case aB => exact (by repeat (first | (with_reducible first | exact HQ.out | apply below_alloc | apply pw_below_drewN | apply below_drew1) | exact HQ.out))); (case aS => exact (below_size (by repeat (first | (with_reducible first | exact HQ.out | apply below_alloc | apply pw_below_drewN | apply below_drew1) | exact HQ.out)))); (case aL => omega); intro v1 w8 ho hb; rw [NLB.out] at ho; clear HO2; obtain ⟨A6, c6, eq5, lA6, CA6⟩ := ho.shape; subst eq5; have DA6 := Aside0.mk CA6; clear CA6 ho; have HQ' := Aside0.mk hb; clear HQ hb; have HQ := HQ'; clear HQ') | (go_at_call 11; (with_reducible refine (sum_at A6 LB.length c6 LB _ _ _ rfl (by repeat (first | exact DA6.out | (with_reducible refine Kd.C_alloc ?_ _) | (with_reducible refine Kd.C_drewN ?_ _) | (with_reducible refine Kd.C_drew ?_))) (by omega) (by omega) EB.out).mono ?_); rintro e w' ⟨rfl, ⟨nd, rfl⟩⟩) | (go_at_call 9; (with_reducible refine (round_at' bad K _ _ RK.out hf).mono ?_); rintro e w' ⟨rfl, ⟨nd, rfl⟩⟩))
          go_ret
          exact ⟨rfl, below_step HBq.out (by repeat (first | (with_reducible first | exact HQ.out | apply below_alloc | apply pw_below_drewN | apply below_drew1) | exact HQ.out))⟩
set_option maxHeartbeats 1000000 in
set_option maxRecDepth 100000 in
theorem sums_ge_ge_false (A0 : Option Addr) (c0 : Nat) (l0 : List Int) (A1 : Option Addr) (c1 : Nat) (l1 : List Int) (bad : Int) (w : World) (hr0 : ReadsInt w .u16 A0 l0.length l0) (hw0 : ∀ x ∈ l0, (Lit.int .u16 x).wf = true) (hr1 : ReadsInt w .u16 A1 l1.length l1) (hw1 : ∀ x ∈ l1, (Lit.int .u16 x).wf = true)
    (hf : fit bad = false) (ha : 6 < l0.length) (hb' : 6 < l1.length) :
    Calls Try.prog 5 #[.slice A0 l0.length c0, .slice A1 l1.length c1, .int .i64 bad] w fun e w' => e = .returned (.bool true) ∧ Below w.heap.size w w' := by
  have HB := Aside0.mk (Below.refl w.heap.size w)
  have HR0 := Aside0.mk hr0; clear hr0
  have HW0 := Aside0.mk hw0; clear hw0
  have HR1 := Aside0.mk hr1; clear hr1
  have HW1 := Aside0.mk hw1; clear hw1
  go_enter Try.func5, Try.ntmps5
  go_wp2_with (first | (go_at_call 8; (with_reducible refine (examples_c _).mono ?_); rintro e w1 ⟨rfl, hb⟩; have n0_ := Aside0.mk (below_step (by repeat (first | (with_reducible first | exact HB.out | apply below_alloc | apply pw_below_drewN | apply below_drew1) | exact HB.out)) hb); clear HB; have HB := n0_; clear n0_))
  go_loopw [8, 10] (fun vr v wr => ∃ i : Nat, i ≤ 6 ∧ v = .int .i64 i ∧ Aside0 (Below w1.heap.size w1 wr) ∧ Aside0 (Row wr w1.heap.size vr (mods (l0.take i)))) (fun _ v _ => 6 - (intOf v).toNat)
  case atStart => exact ⟨0, by omega, rfl, ⟨Below.refl _ _⟩, ⟨Row.nil _ _⟩⟩
  case round =>
    obtain ⟨i, hi, rfl, HB2, HO⟩ := hrel
    by_cases hlt : i < 6
    · obtain ⟨x, ex⟩ : ∃ x, l0.getD i 0 = x := ⟨_, rfl⟩
      obtain ⟨ad, eA, hcell⟩ := cellAt HR0.out (below_step (by repeat (first | (with_reducible first | exact HB.out | apply below_alloc | apply pw_below_drewN | apply below_drew1) | exact HB.out)) HB2.out) i (by omega) x ex
      subst eA
      obtain ⟨hx0, hx1⟩ := u16_at HW0.out i (by omega) x ex
      have EX := Aside0.mk ex; clear ex
      go_wp2_with (first | ((with_reducible refine gate_builtin (b := .append) (xs := #[.tmp 35, .tmp 42]) rfl ?_); at_builtin; refine app1 (w0 := w1) w1.heap.size rfl (.tmp 35) (.tmp 42) rfl u8 (mods (l0.take i)) (x % 1025) rfl rfl ?aO ?aB ?aS ?aL ?_; (case aO => exact HO.out); (case aB => exact HB2.out); (case aS => exact HB2.out.size); (case aL => rw [mods_len, List.length_take]; omega); intro v1 w5 ho hb; have HO3 := Aside0.mk ho; have HB3 := Aside0.mk hb; clear ho hb HO HB2))
      go_roundw
      case rel => exact ⟨i + 1, by omega, by go_num, HB3, ⟨by rw [mods_snoc _ i x (by omega) EX.out]; exact HO3.out⟩⟩
      case measure => simp [intOf]; omega
    · obtain rfl : i = 6 := by omega

      generalize hL : mods (l0.take 6) = L at HO
      have fL : ∀ a ∈ L, fit a = true := by rw [← hL]; exact mods_fit _
      have lL : L.length ≤ 6 := by rw [← hL, mods_len, List.length_take]; omega
      clear hL
      have HB4 := Aside0.mk (below_step HB.out HB2.out)
      clear HB HB2
      have HB := HB4
      clear HB4
      have HOL := HO
      clear HO
      obtain ⟨wo, rfl⟩ : ∃ wo : World, wo = wr := ⟨_, rfl⟩
      go_wp2
      go_loopw [9, 11] (fun vr v wr => ∃ i : Nat, i ≤ 6 ∧ v = .int .i64 i ∧ Aside0 (Below wo.heap.size wo wr) ∧ Aside0 (Row wr wo.heap.size vr (mods (l1.take i)))) (fun _ v _ => 6 - (intOf v).toNat)
      case atStart => exact ⟨0, by omega, rfl, ⟨Below.refl _ _⟩, ⟨Row.nil _ _⟩⟩
      case round =>
        obtain ⟨i, hi, rfl, HB2, HO⟩ := hrel
        by_cases hlt : i < 6
        · obtain ⟨x, ex⟩ : ∃ x, l1.getD i 0 = x := ⟨_, rfl⟩
          obtain ⟨ad, eA, hcell⟩ := cellAt HR1.out (below_step (by repeat (first | (with_reducible first | exact HB.out | apply below_alloc | apply pw_below_drewN | apply below_drew1) | exact HB.out)) HB2.out) i (by omega) x ex
          subst eA
          obtain ⟨hx0, hx1⟩ := u16_at HW1.out i (by omega) x ex
          have EX := Aside0.mk ex; clear ex
          go_wp2_with (first | ((with_reducible refine gate_builtin (b := .append) (xs := #[.tmp 54, .tmp 61]) rfl ?_); at_builtin; refine app1 (w0 := wo) wo.heap.size rfl (.tmp 54) (.tmp 61) rfl u9 (mods (l1.take i)) (x % 1025) rfl rfl ?aO ?aB ?aS ?aL ?_; (case aO => exact HO.out); (case aB => exact HB2.out); (case aS => exact HB2.out.size); (case aL => rw [mods_len, List.length_take]; omega); intro v1 w5 ho hb; have HO3 := Aside0.mk ho; have HB3 := Aside0.mk hb; clear ho hb HO HB2))
          go_roundw
          case rel => exact ⟨i + 1, by omega, by go_num, HB3, ⟨by rw [mods_snoc _ i x (by omega) EX.out]; exact HO3.out⟩⟩
          case measure => simp [intOf]; omega
        · obtain rfl : i = 6 := by omega

          generalize hM : mods (l1.take 6) = M at HO
          have fM : ∀ a ∈ M, fit a = true := by rw [← hM]; exact mods_fit _
          have lM : M.length ≤ 6 := by rw [← hM, mods_len, List.length_take]; omega
          clear hM
          have HOL2 := Aside0.mk (HOL.out.below HB2.out)
          clear HOL
          have HB4 := Aside0.mk (below_step HB.out HB2.out)
          clear HB HB2
          have HB := HB4
          clear HB4
          have tL := tot_bound L
          have tM := tot_bound M
          have eL := sumV_ok L fL (by omega)
          have eM := sumV_ok M fM (by omega)
          have eLM : sumV (L ++ M) = (tot L + tot M, true) := by
            rw [sumV_ok (L ++ M) (fun a ha => (List.mem_append.1 ha).elim (fL a) (fM a)) (by rw [List.length_append]; omega), tot_append]
          have eB : sumV (L ++ [bad]) = (0, false) := by
            exact sumGo_bad L 0 bad fL hf
          obtain ⟨hk0, hk1⟩ := rnd_le bad
          obtain ⟨LM, hLM⟩ : ∃ x, L ++ M = x := ⟨_, rfl⟩
          obtain ⟨LB, hLB⟩ : ∃ x, L ++ [bad] = x := ⟨_, rfl⟩
          have lLM : LM.length ≤ 12 := by rw [← hLM, List.length_append]; omega
          have lLB : LB.length ≤ 7 := by rw [← hLB, List.length_append]; simp; omega
          rw [hLM] at eLM
          rw [hLB] at eB
          have NLM := Aside0.mk hLM; have NLB := Aside0.mk hLB; clear hLM hLB
          obtain ⟨K, hK⟩ : ∃ K, rnd bad = K := ⟨_, rfl⟩
          rw [hK] at hk0 hk1
          have RK := Aside0.mk hK; clear hK
          generalize tot L = X at *
          generalize tot M = Y at *
          obtain ⟨AL, cL, eqL, lcL, CL⟩ := HOL2.out.shape
          subst eqL
          obtain ⟨AM, cM, eqM, lcM, CM⟩ := HO.out.shape
          subst eqM
          clear HOL2 HO
          have EL := Aside0.mk eL; have EM := Aside0.mk eM; have ELM := Aside0.mk eLM; have EB := Aside0.mk eB; have CL' := Aside0.mk CL; have CM' := Aside0.mk CM
          clear eL eM eLM eB CL CM fL fM
          obtain ⟨wq, hwq⟩ : ∃ wq : World, wq = wr := ⟨_, rfl⟩
          have CL := Aside0.mk (show Kd.C (Kd.int .i64) wq AL L.length L by rw [hwq]; exact CL'.out)
          have CM := Aside0.mk (show Kd.C (Kd.int .i64) wq AM M.length M by rw [hwq]; exact CM'.out)
          have HQ : Aside0 (Below wq.heap.size wq wr) := by rw [hwq]; exact ⟨Below.refl _ _⟩
          have HBq : Aside0 (Below w.heap.size w wq) := by rw [hwq]; exact HB
          clear hwq CL' CM' HB
          go_wp2_with (first | (go_at_call 11; (with_reducible refine (sum_at AL L.length cL L _ _ _ rfl (Kd.C_below CL.out (by repeat (first | (with_reducible first | exact HQ.out | apply below_alloc | apply pw_below_drewN | apply below_drew1) | exact HQ.out))) (by omega) (by omega) EL.out).mono ?_); rintro e w' ⟨rfl, ⟨nd, rfl⟩⟩) | (go_at_call 11; (with_reducible refine (sum_at AM M.length cM M _ _ _ rfl (Kd.C_below CM.out (by repeat (first | (with_reducible first | exact HQ.out | apply below_alloc | apply pw_below_drewN | apply below_drew1) | exact HQ.out))) (by omega) (by omega) EM.out).mono ?_); rintro e w' ⟨rfl, ⟨nd, rfl⟩⟩) | ((with_reducible refine gate_builtin (b := .append) (xs := #[.const (.slice none 0 0), .tmp 74]) rfl ?_); at_builtin; refine appRow (w0 := wq) wq.heap.size rfl (.const (.slice none 0 0)) (.tmp 74) rfl (.slice none 0 0) [] L AL L.length cL rfl rfl ?rO ?rR ?rB ?rS ?rL ?_; (case rO => exact (Row.nil _ _)); (case rR => exact (Kd.C_below CL.out (by repeat (first | (with_reducible first | exact HQ.out | apply below_alloc | apply pw_below_drewN | apply below_drew1) | exact HQ.out)))); (case rB => exact (by repeat (first | (with_reducible first | exact HQ.out | apply below_alloc | apply pw_below_drewN | apply below_drew1) | exact HQ.out))); (case rS => exact (below_size (by repeat (first | (with_reducible first | exact HQ.out | apply below_alloc | apply pw_below_drewN | apply below_drew1) | exact HQ.out)))); (case rL => simp; omega); intro v1 w6 ho hb; rw [List.nil_append] at ho; have HO1 := Aside0.mk ho; clear ho; have HQ' := Aside0.mk hb; clear HQ hb; have HQ := HQ'; clear HQ') | ((with_reducible refine gate_builtin (b := .append) (xs := #[.tmp 75, .tmp 76]) rfl ?_); at_builtin; refine appRow (w0 := wq) wq.heap.size rfl (.tmp 75) (.tmp 76) rfl v1 L M AM M.length cM rfl rfl ?rO ?rR ?rB ?rS ?rL ?_; (case rO => exact HO1.out); (case rR => exact (Kd.C_below CM.out (by repeat (first | (with_reducible first | exact HQ.out | apply below_alloc | apply pw_below_drewN | apply below_drew1) | exact HQ.out)))); (case rB => exact (by repeat (first | (with_reducible first | exact HQ.out | apply below_alloc | apply pw_below_drewN | apply below_drew1) | exact HQ.out))); (case rS => exact (below_size (by repeat (first | (with_reducible first | exact HQ.out | apply below_alloc | apply pw_below_drewN | apply below_drew1) | exact HQ.out)))); (case rL => omega); intro v1 w7 ho hb; rw [NLM.out] at ho; clear HO1; obtain ⟨A5, c5, eq5, lA5, CA5⟩ := ho.shape; subst eq5; have DA5 := Aside0.mk CA5; clear CA5 ho; have HQ' := Aside0.mk hb; clear HQ hb; have HQ := HQ'; clear HQ') | (go_at_call 11; (with_reducible refine (sum_at A5 LM.length c5 LM _ _ _ rfl (by repeat (first | exact DA5.out | (with_reducible refine Kd.C_alloc ?_ _) | (with_reducible refine Kd.C_drewN ?_ _) | (with_reducible refine Kd.C_drew ?_))) (by omega) (by omega) ELM.out).mono ?_); rintro e w' ⟨rfl, ⟨nd, rfl⟩⟩) | ((with_reducible refine gate_builtin (b := .append) (xs := #[.const (.slice none 0 0), .tmp 82]) rfl ?_); at_builtin; refine appRow (w0 := wq) wq.heap.size rfl (.const (.slice none 0 0)) (.tmp 82) rfl (.slice none 0 0) [] L AL L.length cL rfl rfl ?rO ?rR ?rB ?rS ?rL ?_; (case rO => exact (Row.nil _ _)); (case rR => exact (Kd.C_below CL.out (by repeat (first | (with_reducible first | exact HQ.out | apply below_alloc | apply pw_below_drewN | apply below_drew1) | exact HQ.out)))); (case rB => exact (by repeat (first | (with_reducible first | exact HQ.out | apply below_alloc | apply pw_below_drewN | apply below_drew1) | exact HQ.out))); (case rS => exact (below_size (by repeat (first | (with_reducible first | exact HQ.out | apply below_alloc | apply pw_below_drewN | apply below_drew1) | exact HQ.out)))); (case rL => simp; omega); intro v1 w6 ho hb; rw [List.nil_append] at ho; have HO2 := Aside0.mk ho; clear ho; have HQ' := Aside0.mk hb; clear HQ hb; have HQ := HQ'; clear HQ') | ((with_reducible refine gate_builtin (b := .append) (xs := #[.tmp 83, .tmp 85]) rfl ?_); at_builtin; refine app1 (w0 := wq) wq.heap.size rfl (.tmp 83) (.tmp 85) rfl v1 L bad rfl rfl ?aO ?aB ?aS ?aL ?_; (case aO => exact HO2.out); (case aB => exact (by repeat (first | (with_reducible first | exact HQ.out | apply below_alloc | apply pw_below_drewN | apply below_drew1) | exact HQ.out))); (case aS => exact (below_size (by repeat (first | (with_reducible first | exact HQ.out | apply below_alloc | apply pw_below_drewN | apply below_drew1) | exact HQ.out)))); (case aL => omega); intro v1 w8 ho hb; rw [NLB.out] at ho; clear HO2; obtain ⟨A6, c6, eq5, lA6, CA6⟩ := ho.shape; subst eq5; have DA6 := Aside0.mk CA6; clear CA6 ho; have HQ' := Aside0.mk hb; clear HQ hb; have HQ := HQ'; clear HQ') | (go_at_call 11; (with_reducible refine (sum_at A6 LB.length c6 LB _ _ _ rfl (by repeat (first | exact DA6.out | (with_reducible refine Kd.C_alloc ?_ _) | (with_reducible refine Kd.C_drewN ?_ _) | (with_reducible refine Kd.C_drew ?_))) (by omega) (by omega) EB.out).mono ?_); rintro e w' ⟨rfl, ⟨nd, rfl⟩⟩) | (go_at_call 9; (with_reducible refine (round_at' bad K _ _ RK.out hf).mono ?_); rintro e w' ⟨rfl, ⟨nd, rfl⟩⟩))
          go_ret
          exact ⟨rfl, below_step HBq.out (by repeat (first | (with_reducible first | exact HQ.out | apply below_alloc | apply pw_below_drewN | apply below_drew1) | exact HQ.out))⟩
end Go.Proofs.Ytokfmhgbkladdaa.Hand
