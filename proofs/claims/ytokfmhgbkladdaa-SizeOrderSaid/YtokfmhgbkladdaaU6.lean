/- SizeOrder: the walk. -/
import Derived.Test.YtokfmhgbkladdaaU2
import Derived.OpenShut
import Derived.Deep.RegionHeld3
set_option linter.unusedVariables false
namespace Go.Proofs.Ytokfmhgbkladdaa.Hand
open Go.RowKit Go.Proofs.Ytokfmhgbkladdaa.PSizeTells Go.Proofs.YtokfmhgbkladdaaW.PrintWords Go.Proofs.YtokfmhgbkladdaaW.PrintLast Go.Proofs.YtokfmhgbkladdaaW.PrintMore
theorem Row.shape_nil {W : World} {base : Nat} (h : Row W base (.slice none 0 0) []) : Kd.C (Kd.int .i64) W none 0 [] := (Kd.R_reads' h).2.2
set_option maxHeartbeats 1000000 in
set_option maxRecDepth 100000 in
theorem order_all (A0 : Option Addr) (c0 : Nat) (l0 : List Int) (cut more : Int) (w : World) (hr0 : ReadsInt w .u16 A0 l0.length l0) (hw0 : ∀ x ∈ l0, (Lit.int .u16 x).wf = true) (hcut0 : 0 ≤ cut) (hcut1 : cut ≤ 255) (hm0 : 0 ≤ more) (hm1 : more ≤ 65535) (ha : l0.length ≤ 10) :
    Calls Try.prog 7 #[.slice A0 l0.length c0, .int .u8 cut, .int .u16 more] w fun e w' => e = .returned (.bool true) ∧ Below w.heap.size w w' := by
  have HB := Aside0.mk (Below.refl w.heap.size w)
  have HR0 := Aside0.mk hr0; clear hr0
  have HW0 := Aside0.mk hw0; clear hw0
  go_enter Try.func7, Try.ntmps7
  go_wp2_with (first | (go_at_call 8; (with_reducible refine (examples_c _).mono ?_); rintro e w1 ⟨rfl, hb⟩; have n0_ := Aside0.mk (below_step (by repeat (first | (with_reducible first | exact HB.out | apply below_alloc | apply pw_below_drewN | apply below_drew1) | exact HB.out)) hb); clear HB; have HB := n0_; clear n0_))
  go_loopw [8, 9] (fun vr v wr => ∃ i : Nat, i ≤ l0.length ∧ v = .int .i64 i ∧ Aside0 (Below w1.heap.size w1 wr) ∧ Aside0 (Row wr w1.heap.size vr (mods (l0.take i)))) (fun _ v _ => l0.length - (intOf v).toNat)
  case atStart => exact ⟨0, by omega, rfl, ⟨Below.refl _ _⟩, ⟨Row.nil _ _⟩⟩
  case round =>
    obtain ⟨i, hi, rfl, HB2, HO⟩ := hrel
    by_cases hlt : i < l0.length
    · obtain ⟨x, ex⟩ : ∃ x, l0.getD i 0 = x := ⟨_, rfl⟩
      obtain ⟨ad, eA, hcell⟩ := cellAt HR0.out (below_step (by repeat (first | (with_reducible first | exact HB.out | apply below_alloc | apply pw_below_drewN | apply below_drew1) | exact HB.out)) HB2.out) i (by omega) x ex
      subst eA
      obtain ⟨hx0, hx1⟩ := u16_at HW0.out i (by omega) x ex
      have EX := Aside0.mk ex; clear ex
      go_wp2_with (first | ((with_reducible refine gate_builtin (b := .append) (xs := #[.tmp 33, .tmp 40]) rfl ?_); at_builtin; refine app1 (w0 := w1) w1.heap.size rfl (.tmp 33) (.tmp 40) rfl u8 (mods (l0.take i)) (x % 1025) rfl rfl ?aO ?aB ?aS ?aL ?_; (case aO => exact HO.out); (case aB => exact HB2.out); (case aS => exact HB2.out.size); (case aL => rw [mods_len, List.length_take]; omega); intro v1 w5 ho hb; have HO3 := Aside0.mk ho; have HB3 := Aside0.mk hb; clear ho hb HO HB2))
      go_roundw
      case rel => exact ⟨i + 1, by omega, by go_num, HB3, ⟨by rw [mods_snoc _ i x (by omega) EX.out]; exact HO3.out⟩⟩
      case measure => simp [intOf]; omega
    · obtain rfl : i = l0.length := by omega
      generalize hL : mods (l0.take l0.length) = L at HO
      have fL : ∀ a ∈ L, fit a = true := by rw [← hL]; exact mods_fit _
      have lL : L.length ≤ 10 := by rw [← hL, mods_len, List.length_take]; omega
      clear hL
      obtain ⟨AL, cL, eqL, lcL, CL'⟩ := HO.out.shape
      subst eqL
      have CL2 := Aside0.mk CL'; clear CL' HO
      have HB4 := Aside0.mk (below_step HB.out HB2.out)
      clear HB HB2
      obtain ⟨K, hK⟩ : ∃ K : Nat, cut % ((L.length : Int) + 1) = (K : Int) := ⟨(cut % ((L.length : Int) + 1)).toNat, by have := Int.emod_nonneg cut (show ((L.length : Int) + 1) ≠ 0 by omega); omega⟩
      have hKL : K ≤ L.length := by have := Int.emod_lt_of_pos cut (show 0 < (L.length : Int) + 1 by omega); omega
      have hK0 : (0 : Int) ≤ (K : Int) := by omega
      have hK1 : (K : Int) ≤ (L.length : Int) := by omega
      have hK2 : (L.length : Int) ≤ (cL : Int) := by omega
      have hK3 : (K : Int) ≤ (cL : Int) := by omega
      obtain ⟨wq, hwq⟩ : ∃ wq : World, wq = wr := ⟨_, rfl⟩
      have CL := Aside0.mk (show Kd.C (Kd.int .i64) wq AL L.length L by rw [hwq]; exact CL2.out)
      have HQ : Aside0 (Below wq.heap.size wq wr) := by rw [hwq]; exact ⟨Below.refl _ _⟩
      have HBq : Aside0 (Below w.heap.size w wq) := by rw [hwq]; exact HB4
      clear hwq CL2 HB4
      obtain ⟨AD, hdrop, CD'⟩ := cut_from AL cL L.length L K rfl hKL lcL CL.out
      obtain ⟨htake, CT'⟩ := cut_to AL cL L.length L K rfl hKL lcL CL.out
      have CD := Aside0.mk CD'; have CT := Aside0.mk CT'; clear CD' CT'
      obtain ⟨B, hB⟩ : ∃ B, L.drop K ++ L.take K = B := ⟨_, rfl⟩
      have lB : B.length ≤ 10 := by rw [← hB, List.length_append, List.length_drop, List.length_take]; omega
      have tB : tot B = tot L := by
        have h1 := tot_append (L.take K) (L.drop K)
        rw [List.take_append_drop] at h1
        rw [← hB, tot_append, h1]; omega
      have fB : ∀ a ∈ B, fit a = true := by
        intro a ha
        rw [← hB] at ha
        rcases List.mem_append.1 ha with h | h
        · exact fL a (List.mem_of_mem_drop h)
        · exact fL a (List.mem_of_mem_take h)
      obtain ⟨M, hM⟩ : ∃ M, B ++ [more % 1025] = M := ⟨_, rfl⟩
      have lM : M.length ≤ 11 := by rw [← hM, List.length_append]; simp; omega
      have fm := fit_yes (more % 1025) (by omega) (by omega)
      have eL := sumV_ok L fL (by omega)
      have eB := sumV_ok B fB (by omega)
      have eM : sumV M = (tot L + rnd (more % 1025), true) := by
        rw [← hM, sumV_ok _ (fun a ha => (List.mem_append.1 ha).elim (fB a) (fun h => by rw [List.mem_singleton.1 h]; exact fm)) (by rw [List.length_append]; simp; omega), tot_append, tB]; simp [tot]
      have e0 : sumV [] = (0, true) := rfl
      rw [tB] at eB
      have hr16 : 16 ≤ rnd (more % 1025) := (rnd_facts (more % 1025) (by omega) (by omega)).2.2.2.2.1
      have hr17 := (rnd_le (more % 1025)).2
      have tL := tot_bound L
      generalize rnd (more % 1025) = R at *
      generalize tot L = X at *
      have C0 : Aside0 (∀ W : World, Kd.C (Kd.int .i64) W none 0 []) := ⟨fun W => (Row.nil W 0).shape_nil⟩
      have EL := Aside0.mk eL; have EB := Aside0.mk eB; have EM := Aside0.mk eM; have E0 := Aside0.mk e0; have NB := Aside0.mk hB; have NM := Aside0.mk hM
      clear eL eB eM e0 hB hM fL fB tB fm
      go_wp2_with fail
      go_region_held3 (fun _ => True) (trivial) (first | (refine appRow_step (w0 := wq) wq.heap.size (by rfl) (.const (.slice none 0 0)) (.tmp 50) (by rfl) (.slice none 0 0) [] (L.drop K) AD (L.length - K) (cL - K) (by rfl) (by rfl) ?rO ?rR ?rB ?rS ?rL ?_; (case rO => exact (Row.nil _ _)); (case rR => exact (Kd.C_below CD.out (by repeat (first | (with_reducible first | exact HQ.out | apply below_alloc | apply pw_below_drewN | apply below_drew1) | exact HQ.out)))); (case rB => exact (by repeat (first | (with_reducible first | exact HQ.out | apply below_alloc | apply pw_below_drewN | apply below_drew1) | exact HQ.out))); (case rS => exact (below_size (by repeat (first | (with_reducible first | exact HQ.out | apply below_alloc | apply pw_below_drewN | apply below_drew1) | exact HQ.out)))); (case rL => simp; omega); intro v1 w6 ho hb; rw [List.nil_append] at ho; have HO1 := Aside0.mk ho; clear ho; have HQ' := Aside0.mk hb; clear HQ hb; have HQ := HQ'; clear HQ') | (refine appRow_step (w0 := wq) wq.heap.size (by rfl) (.tmp 51) (.tmp 54) (by rfl) v1 (L.drop K) (L.take K) AL K cL (by rfl) (by rfl) ?rO ?rR ?rB ?rS ?rL ?_; (case rO => exact HO1.out); (case rR => exact (Kd.C_below CT.out (by repeat (first | (with_reducible first | exact HQ.out | apply below_alloc | apply pw_below_drewN | apply below_drew1) | exact HQ.out)))); (case rB => exact (by repeat (first | (with_reducible first | exact HQ.out | apply below_alloc | apply pw_below_drewN | apply below_drew1) | exact HQ.out))); (case rS => exact (below_size (by repeat (first | (with_reducible first | exact HQ.out | apply below_alloc | apply pw_below_drewN | apply below_drew1) | exact HQ.out)))); (case rL => simp; omega); intro v1 w6 ho hb; rw [NB.out] at ho; clear HO1; have HO2 := Aside0.mk ho; clear ho; have HQ' := Aside0.mk hb; clear HQ hb; have HQ := HQ'; clear HQ'))
      obtain ⟨AB, cB, eqB, lcB, CB'⟩ := HO2.out.shape
      subst eqB
      have CB := Aside0.mk CB'; clear CB'
      go_wp2_with (first | (go_at_call 11; (with_reducible refine (sum_at AL L.length cL L _ _ _ rfl (Kd.C_below CL.out (by repeat (first | (with_reducible first | exact HQ.out | apply below_alloc | apply pw_below_drewN | apply below_drew1) | exact HQ.out))) (by omega) (by omega) EL.out).mono ?_); rintro e w' ⟨rfl, ⟨nd, rfl⟩⟩) | (go_at_call 11; (with_reducible refine (sum_at AB B.length cB B _ _ _ rfl (by repeat (first | exact CB.out | (with_reducible refine Kd.C_alloc ?_ _) | (with_reducible refine Kd.C_drewN ?_ _) | (with_reducible refine Kd.C_drew ?_))) (by omega) (by omega) EB.out).mono ?_); rintro e w' ⟨rfl, ⟨nd, rfl⟩⟩) | ((with_reducible refine gate_builtin (b := .append) (xs := #[.tmp 67, .tmp 71]) rfl ?_); at_builtin; refine app1 (w0 := wq) wq.heap.size rfl (.tmp 67) (.tmp 71) rfl (.slice AB B.length cB) B (more % 1025) rfl rfl ?aO ?aB ?aS ?aL ?_; (case aO => exact (by repeat (first | exact HO2.out | (with_reducible refine Row.drewN ?_ _)))); (case aB => exact (by repeat (first | (with_reducible first | exact HQ.out | apply below_alloc | apply pw_below_drewN | apply below_drew1) | exact HQ.out))); (case aS => exact (below_size (by repeat (first | (with_reducible first | exact HQ.out | apply below_alloc | apply pw_below_drewN | apply below_drew1) | exact HQ.out)))); (case aL => omega); intro v1 w8 ho hb; rw [NM.out] at ho; clear HO2; obtain ⟨AM, cM, eqM, lcM, CM'⟩ := ho.shape; subst eqM; have CM := Aside0.mk CM'; clear CM' ho; have HQ' := Aside0.mk hb; clear HQ hb; have HQ := HQ'; clear HQ') | (go_at_call 11; (with_reducible refine (sum_at AM M.length cM M _ _ _ rfl (by repeat (first | exact CM.out | (with_reducible refine Kd.C_alloc ?_ _) | (with_reducible refine Kd.C_drewN ?_ _) | (with_reducible refine Kd.C_drew ?_))) (by omega) (by omega) EM.out).mono ?_); rintro e w' ⟨rfl, ⟨nd, rfl⟩⟩) | (go_at_call 11; (with_reducible refine (sum_at none 0 0 [] _ _ _ rfl (C0.out _) (by omega) (by omega) E0.out).mono ?_); rintro e w' ⟨rfl, ⟨nd, rfl⟩⟩))
      go_ret
      exact ⟨rfl, below_step HBq.out (by repeat (first | (with_reducible first | exact HQ.out | apply below_alloc | apply pw_below_drewN | apply below_drew1) | exact HQ.out))⟩
set_option maxHeartbeats 1000000 in
set_option maxRecDepth 100000 in
theorem order_ge (A0 : Option Addr) (c0 : Nat) (l0 : List Int) (cut more : Int) (w : World) (hr0 : ReadsInt w .u16 A0 l0.length l0) (hw0 : ∀ x ∈ l0, (Lit.int .u16 x).wf = true) (hcut0 : 0 ≤ cut) (hcut1 : cut ≤ 255) (hm0 : 0 ≤ more) (hm1 : more ≤ 65535) (ha : 10 < l0.length) :
    Calls Try.prog 7 #[.slice A0 l0.length c0, .int .u8 cut, .int .u16 more] w fun e w' => e = .returned (.bool true) ∧ Below w.heap.size w w' := by
  have HB := Aside0.mk (Below.refl w.heap.size w)
  have HR0 := Aside0.mk hr0; clear hr0
  have HW0 := Aside0.mk hw0; clear hw0
  go_enter Try.func7, Try.ntmps7
  go_wp2_with (first | (go_at_call 8; (with_reducible refine (examples_c _).mono ?_); rintro e w1 ⟨rfl, hb⟩; have n0_ := Aside0.mk (below_step (by repeat (first | (with_reducible first | exact HB.out | apply below_alloc | apply pw_below_drewN | apply below_drew1) | exact HB.out)) hb); clear HB; have HB := n0_; clear n0_))
  go_loopw [8, 9] (fun vr v wr => ∃ i : Nat, i ≤ 10 ∧ v = .int .i64 i ∧ Aside0 (Below w1.heap.size w1 wr) ∧ Aside0 (Row wr w1.heap.size vr (mods (l0.take i)))) (fun _ v _ => 10 - (intOf v).toNat)
  case atStart => exact ⟨0, by omega, rfl, ⟨Below.refl _ _⟩, ⟨Row.nil _ _⟩⟩
  case round =>
    obtain ⟨i, hi, rfl, HB2, HO⟩ := hrel
    by_cases hlt : i < 10
    · obtain ⟨x, ex⟩ : ∃ x, l0.getD i 0 = x := ⟨_, rfl⟩
      obtain ⟨ad, eA, hcell⟩ := cellAt HR0.out (below_step (by repeat (first | (with_reducible first | exact HB.out | apply below_alloc | apply pw_below_drewN | apply below_drew1) | exact HB.out)) HB2.out) i (by omega) x ex
      subst eA
      obtain ⟨hx0, hx1⟩ := u16_at HW0.out i (by omega) x ex
      have EX := Aside0.mk ex; clear ex
      go_wp2_with (first | ((with_reducible refine gate_builtin (b := .append) (xs := #[.tmp 33, .tmp 40]) rfl ?_); at_builtin; refine app1 (w0 := w1) w1.heap.size rfl (.tmp 33) (.tmp 40) rfl u8 (mods (l0.take i)) (x % 1025) rfl rfl ?aO ?aB ?aS ?aL ?_; (case aO => exact HO.out); (case aB => exact HB2.out); (case aS => exact HB2.out.size); (case aL => rw [mods_len, List.length_take]; omega); intro v1 w5 ho hb; have HO3 := Aside0.mk ho; have HB3 := Aside0.mk hb; clear ho hb HO HB2))
      go_roundw
      case rel => exact ⟨i + 1, by omega, by go_num, HB3, ⟨by rw [mods_snoc _ i x (by omega) EX.out]; exact HO3.out⟩⟩
      case measure => simp [intOf]; omega
    · obtain rfl : i = 10 := by omega
      generalize hL : mods (l0.take 10) = L at HO
      have fL : ∀ a ∈ L, fit a = true := by rw [← hL]; exact mods_fit _
      have lL : L.length ≤ 10 := by rw [← hL, mods_len, List.length_take]; omega
      clear hL
      obtain ⟨AL, cL, eqL, lcL, CL'⟩ := HO.out.shape
      subst eqL
      have CL2 := Aside0.mk CL'; clear CL' HO
      have HB4 := Aside0.mk (below_step HB.out HB2.out)
      clear HB HB2
      obtain ⟨K, hK⟩ : ∃ K : Nat, cut % ((L.length : Int) + 1) = (K : Int) := ⟨(cut % ((L.length : Int) + 1)).toNat, by have := Int.emod_nonneg cut (show ((L.length : Int) + 1) ≠ 0 by omega); omega⟩
      have hKL : K ≤ L.length := by have := Int.emod_lt_of_pos cut (show 0 < (L.length : Int) + 1 by omega); omega
      have hK0 : (0 : Int) ≤ (K : Int) := by omega
      have hK1 : (K : Int) ≤ (L.length : Int) := by omega
      have hK2 : (L.length : Int) ≤ (cL : Int) := by omega
      have hK3 : (K : Int) ≤ (cL : Int) := by omega
      obtain ⟨wq, hwq⟩ : ∃ wq : World, wq = wr := ⟨_, rfl⟩
      have CL := Aside0.mk (show Kd.C (Kd.int .i64) wq AL L.length L by rw [hwq]; exact CL2.out)
      have HQ : Aside0 (Below wq.heap.size wq wr) := by rw [hwq]; exact ⟨Below.refl _ _⟩
      have HBq : Aside0 (Below w.heap.size w wq) := by rw [hwq]; exact HB4
      clear hwq CL2 HB4
      obtain ⟨AD, hdrop, CD'⟩ := cut_from AL cL L.length L K rfl hKL lcL CL.out
      obtain ⟨htake, CT'⟩ := cut_to AL cL L.length L K rfl hKL lcL CL.out
      have CD := Aside0.mk CD'; have CT := Aside0.mk CT'; clear CD' CT'
      obtain ⟨B, hB⟩ : ∃ B, L.drop K ++ L.take K = B := ⟨_, rfl⟩
      have lB : B.length ≤ 10 := by rw [← hB, List.length_append, List.length_drop, List.length_take]; omega
      have tB : tot B = tot L := by
        have h1 := tot_append (L.take K) (L.drop K)
        rw [List.take_append_drop] at h1
        rw [← hB, tot_append, h1]; omega
      have fB : ∀ a ∈ B, fit a = true := by
        intro a ha
        rw [← hB] at ha
        rcases List.mem_append.1 ha with h | h
        · exact fL a (List.mem_of_mem_drop h)
        · exact fL a (List.mem_of_mem_take h)
      obtain ⟨M, hM⟩ : ∃ M, B ++ [more % 1025] = M := ⟨_, rfl⟩
      have lM : M.length ≤ 11 := by rw [← hM, List.length_append]; simp; omega
      have fm := fit_yes (more % 1025) (by omega) (by omega)
      have eL := sumV_ok L fL (by omega)
      have eB := sumV_ok B fB (by omega)
      have eM : sumV M = (tot L + rnd (more % 1025), true) := by
        rw [← hM, sumV_ok _ (fun a ha => (List.mem_append.1 ha).elim (fB a) (fun h => by rw [List.mem_singleton.1 h]; exact fm)) (by rw [List.length_append]; simp; omega), tot_append, tB]; simp [tot]
      have e0 : sumV [] = (0, true) := rfl
      rw [tB] at eB
      have hr16 : 16 ≤ rnd (more % 1025) := (rnd_facts (more % 1025) (by omega) (by omega)).2.2.2.2.1
      have hr17 := (rnd_le (more % 1025)).2
      have tL := tot_bound L
      generalize rnd (more % 1025) = R at *
      generalize tot L = X at *
      have C0 : Aside0 (∀ W : World, Kd.C (Kd.int .i64) W none 0 []) := ⟨fun W => (Row.nil W 0).shape_nil⟩
      have EL := Aside0.mk eL; have EB := Aside0.mk eB; have EM := Aside0.mk eM; have E0 := Aside0.mk e0; have NB := Aside0.mk hB; have NM := Aside0.mk hM
      clear eL eB eM e0 hB hM fL fB tB fm
      go_wp2_with fail
      go_region_held3 (fun _ => True) (trivial) (first | (refine appRow_step (w0 := wq) wq.heap.size (by rfl) (.const (.slice none 0 0)) (.tmp 50) (by rfl) (.slice none 0 0) [] (L.drop K) AD (L.length - K) (cL - K) (by rfl) (by rfl) ?rO ?rR ?rB ?rS ?rL ?_; (case rO => exact (Row.nil _ _)); (case rR => exact (Kd.C_below CD.out (by repeat (first | (with_reducible first | exact HQ.out | apply below_alloc | apply pw_below_drewN | apply below_drew1) | exact HQ.out)))); (case rB => exact (by repeat (first | (with_reducible first | exact HQ.out | apply below_alloc | apply pw_below_drewN | apply below_drew1) | exact HQ.out))); (case rS => exact (below_size (by repeat (first | (with_reducible first | exact HQ.out | apply below_alloc | apply pw_below_drewN | apply below_drew1) | exact HQ.out)))); (case rL => simp; omega); intro v1 w6 ho hb; rw [List.nil_append] at ho; have HO1 := Aside0.mk ho; clear ho; have HQ' := Aside0.mk hb; clear HQ hb; have HQ := HQ'; clear HQ') | (refine appRow_step (w0 := wq) wq.heap.size (by rfl) (.tmp 51) (.tmp 54) (by rfl) v1 (L.drop K) (L.take K) AL K cL (by rfl) (by rfl) ?rO ?rR ?rB ?rS ?rL ?_; (case rO => exact HO1.out); (case rR => exact (Kd.C_below CT.out (by repeat (first | (with_reducible first | exact HQ.out | apply below_alloc | apply pw_below_drewN | apply below_drew1) | exact HQ.out)))); (case rB => exact (by repeat (first | (with_reducible first | exact HQ.out | apply below_alloc | apply pw_below_drewN | apply below_drew1) | exact HQ.out))); (case rS => exact (below_size (by repeat (first | (with_reducible first | exact HQ.out | apply below_alloc | apply pw_below_drewN | apply below_drew1) | exact HQ.out)))); (case rL => simp; omega); intro v1 w6 ho hb; rw [NB.out] at ho; clear HO1; have HO2 := Aside0.mk ho; clear ho; have HQ' := Aside0.mk hb; clear HQ hb; have HQ := HQ'; clear HQ'))
      obtain ⟨AB, cB, eqB, lcB, CB'⟩ := HO2.out.shape
      subst eqB
      have CB := Aside0.mk CB'; clear CB'
      go_wp2_with (first | (go_at_call 11; (with_reducible refine (sum_at AL L.length cL L _ _ _ rfl (Kd.C_below CL.out (by repeat (first | (with_reducible first | exact HQ.out | apply below_alloc | apply pw_below_drewN | apply below_drew1) | exact HQ.out))) (by omega) (by omega) EL.out).mono ?_); rintro e w' ⟨rfl, ⟨nd, rfl⟩⟩) | (go_at_call 11; (with_reducible refine (sum_at AB B.length cB B _ _ _ rfl (by repeat (first | exact CB.out | (with_reducible refine Kd.C_alloc ?_ _) | (with_reducible refine Kd.C_drewN ?_ _) | (with_reducible refine Kd.C_drew ?_))) (by omega) (by omega) EB.out).mono ?_); rintro e w' ⟨rfl, ⟨nd, rfl⟩⟩) | ((with_reducible refine gate_builtin (b := .append) (xs := #[.tmp 67, .tmp 71]) rfl ?_); at_builtin; refine app1 (w0 := wq) wq.heap.size rfl (.tmp 67) (.tmp 71) rfl (.slice AB B.length cB) B (more % 1025) rfl rfl ?aO ?aB ?aS ?aL ?_; (case aO => exact (by repeat (first | exact HO2.out | (with_reducible refine Row.drewN ?_ _)))); (case aB => exact (by repeat (first | (with_reducible first | exact HQ.out | apply below_alloc | apply pw_below_drewN | apply below_drew1) | exact HQ.out))); (case aS => exact (below_size (by repeat (first | (with_reducible first | exact HQ.out | apply below_alloc | apply pw_below_drewN | apply below_drew1) | exact HQ.out)))); (case aL => omega); intro v1 w8 ho hb; rw [NM.out] at ho; clear HO2; obtain ⟨AM, cM, eqM, lcM, CM'⟩ := ho.shape; subst eqM; have CM := Aside0.mk CM'; clear CM' ho; have HQ' := Aside0.mk hb; clear HQ hb; have HQ := HQ'; clear HQ') | (go_at_call 11; (with_reducible refine (sum_at AM M.length cM M _ _ _ rfl (by repeat (first | exact CM.out | (with_reducible refine Kd.C_alloc ?_ _) | (with_reducible refine Kd.C_drewN ?_ _) | (with_reducible refine Kd.C_drew ?_))) (by omega) (by omega) EM.out).mono ?_); rintro e w' ⟨rfl, ⟨nd, rfl⟩⟩) | (go_at_call 11; (with_reducible refine (sum_at none 0 0 [] _ _ _ rfl (C0.out _) (by omega) (by omega) E0.out).mono ?_); rintro e w' ⟨rfl, ⟨nd, rfl⟩⟩))
      go_ret
      exact ⟨rfl, below_step HBq.out (by repeat (first | (with_reducible first | exact HQ.out | apply below_alloc | apply pw_below_drewN | apply below_drew1) | exact HQ.out))⟩

theorem SizeOrder_walk (A0 : Option Addr) (c0 : Nat) (l0 : List Int) (cut more : Int) (w : World) (hr0 : ReadsInt w .u16 A0 l0.length l0) (hm0 : l0.length ≤ maxLen) (hw0 : ∀ x ∈ l0, (Lit.int .u16 x).wf = true) (hc0 : l0.length ≤ c0) (hy0 : l0.length * 2 ≤ 140737488351232)
    (w1 : (Lit.int .u8 cut).wf = true) (w2 : (Lit.int .u16 more).wf = true) :
    Calls Try.prog 7 #[.slice A0 l0.length c0, .int .u8 cut, .int .u16 more] w fun e w' => e = .returned (.bool true) ∧ Below w.heap.size w w' := by
  obtain ⟨p0, p1⟩ := Go.bounds_u8 w1
  obtain ⟨q0, q1⟩ := Go.bounds_u16 w2
  rcases Nat.lt_or_ge 10 l0.length with ha | ha
  · exact order_ge A0 c0 l0 cut more w hr0 hw0 p0 p1 q0 q1 ha
  · exact order_all A0 c0 l0 cut more w hr0 hw0 p0 p1 q0 q1 ha
end Go.Proofs.Ytokfmhgbkladdaa.Hand
