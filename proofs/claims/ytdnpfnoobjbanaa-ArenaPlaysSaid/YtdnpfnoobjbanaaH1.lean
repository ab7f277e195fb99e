/- Package arena's small methods. -/
import Derived.Test.YtdnpfnoobjbanaaH0
import Derived.Test.YtdnpfnoobjbanaaPArenaPlaysx1
import Derived.Test.YtdnpfnoobjbanaaPArenaPlaysx2
import Derived.OpenShut
import Derived.Deep.QuietTactic
import Derived.BigQuiet
import Derived.BigGuardPart
set_option linter.unusedVariables false
set_option linter.unusedSimpArgs false
namespace Go.Proofs.Ytdnpfnoobjbanaa.Hand
open Go.RowKit Go.Proofs.Ytdnpfnoobjbanaa.PArenaPlays Go.Proofs.YtdnpfnoobjbanaaW.PrintWords Go.Proofs.YtdnpfnoobjbanaaW.PrintLast Go.Proofs.YtdnpfnoobjbanaaW.PrintMore
theorem infoBlk : (Try.prog.info? 77).map (fun i => (i.zero, i.size, i.bytes)) = some (some (.agg #[.int .u32 0, .int .i64 0, .string ⟨#[]⟩]), 3, 32) := by kernel_rfl
set_option maxHeartbeats 1000000 in
set_option maxRecDepth 100000 in
theorem charged_c {W : World} {g : Nat} {cap lim chg : Int} {bv fv : Value} {bs : List S77} {fs : List Int} (h : Ar W g cap lim chg bv bs fv fs) : Calls Try.prog 17 #[.pointer (some ⟨g, 0, none⟩)] W fun e w' => e = .returned (.int .i64 chg) ∧ Below W.heap.size W w' := by
  have HB := Aside0.mk (Below.refl W.heap.size W)
  have h5 := h.1
  obtain ⟨Ab, cb, rfl⟩ := h.bval
  obtain ⟨Af, cf, rfl, hfl⟩ := h.fval
  have q0 := blk_cell h5 0
  have q1 := blk_cell h5 1
  have q2 := blk_cell h5 2
  have q3 := blk_cell h5 3
  have q4 := blk_cell h5 4
  have f1 := blk_frozen h5 1
  have f2 := blk_frozen h5 2
  have f3 := blk_frozen h5 3
  have f4 := blk_frozen h5 4
  have hlt := h.lt
  simp only [List.getElem?_toArray, List.getElem?_cons_zero, List.getElem?_cons_succ] at q0 q1 q2 q3 q4
  have H := Aside0.mk h
  clear h h5
  go_enter Try.func17, Try.ntmps17
  go_wp2
  go_ret
  exact ⟨rfl, (by repeat (first | (with_reducible first | exact HB.out | apply below_alloc | apply pw_below_drewN | apply below_drew1) | exact HB.out))⟩
set_option maxHeartbeats 1000000 in
set_option maxRecDepth 100000 in
theorem limit_c {W : World} {g : Nat} {cap lim chg : Int} {bv fv : Value} {bs : List S77} {fs : List Int} (h : Ar W g cap lim chg bv bs fv fs) : Calls Try.prog 32 #[.pointer (some ⟨g, 0, none⟩)] W fun e w' => e = .returned (.int .i64 lim) ∧ Below W.heap.size W w' := by
  have HB := Aside0.mk (Below.refl W.heap.size W)
  have h5 := h.1
  obtain ⟨Ab, cb, rfl⟩ := h.bval
  obtain ⟨Af, cf, rfl, hfl⟩ := h.fval
  have q0 := blk_cell h5 0
  have q1 := blk_cell h5 1
  have q2 := blk_cell h5 2
  have q3 := blk_cell h5 3
  have q4 := blk_cell h5 4
  have f1 := blk_frozen h5 1
  have f2 := blk_frozen h5 2
  have f3 := blk_frozen h5 3
  have f4 := blk_frozen h5 4
  have hlt := h.lt
  simp only [List.getElem?_toArray, List.getElem?_cons_zero, List.getElem?_cons_succ] at q0 q1 q2 q3 q4
  have H := Aside0.mk h
  clear h h5
  go_enter Try.func32, Try.ntmps32
  go_wp2
  go_ret
  exact ⟨rfl, (by repeat (first | (with_reducible first | exact HB.out | apply below_alloc | apply pw_below_drewN | apply below_drew1) | exact HB.out))⟩
set_option maxHeartbeats 1000000 in
set_option maxRecDepth 100000 in
theorem live_c {W : World} {g : Nat} {cap lim chg : Int} {bv fv : Value} {bs : List S77} {fs : List Int} (h : Ar W g cap lim chg bv bs fv fs) (hb : bs.length ≤ 4096) (hf : fs.length ≤ 4096) : Calls Try.prog 18 #[.pointer (some ⟨g, 0, none⟩)] W fun e w' => e = .returned (.int .i64 ((bs.length : Int) - (fs.length : Int))) ∧ Below W.heap.size W w' := by
  have HB := Aside0.mk (Below.refl W.heap.size W)
  have h5 := h.1
  obtain ⟨Ab, cb, rfl⟩ := h.bval
  obtain ⟨Af, cf, rfl, hfl⟩ := h.fval
  have q0 := blk_cell h5 0
  have q1 := blk_cell h5 1
  have q2 := blk_cell h5 2
  have q3 := blk_cell h5 3
  have q4 := blk_cell h5 4
  have f1 := blk_frozen h5 1
  have f2 := blk_frozen h5 2
  have f3 := blk_frozen h5 3
  have f4 := blk_frozen h5 4
  have hlt := h.lt
  simp only [List.getElem?_toArray, List.getElem?_cons_zero, List.getElem?_cons_succ] at q0 q1 q2 q3 q4
  have H := Aside0.mk h
  clear h h5
  go_enter Try.func18, Try.ntmps18
  go_wp2
  go_quiet (fail)
  go_wp2
  go_ret
  exact ⟨rfl, (by repeat (first | (with_reducible first | exact HB.out | apply below_alloc | apply pw_below_drewN | apply below_drew1) | exact HB.out))⟩
set_option maxHeartbeats 1000000 in
set_option maxRecDepth 100000 in
theorem slot_free {W : World} {g : Nat} {cap lim chg : Int} {bv fv : Value} {bs : List S77} {x : Int} {r : List Int} (h : Ar W g cap lim chg bv bs fv (x :: r)) :
    Calls Try.prog 33 #[.pointer (some ⟨g, 0, none⟩)] W fun e w' => e = .returned (.tuple #[.int .i64 x, .bool true]) ∧ ∃ fv', Ar w' g cap lim chg bv bs fv' r ∧ Fr g W w' := by
  have HB := Aside0.mk (Below.refl W.heap.size W)
  have h5 := h.1
  obtain ⟨Ab, cb, rfl⟩ := h.bval
  obtain ⟨Af, cf, rfl, hfl⟩ := h.fval
  have q0 := blk_cell h5 0
  have q1 := blk_cell h5 1
  have q2 := blk_cell h5 2
  have q3 := blk_cell h5 3
  have q4 := blk_cell h5 4
  have f1 := blk_frozen h5 1
  have f2 := blk_frozen h5 2
  have f3 := blk_frozen h5 3
  have f4 := blk_frozen h5 4
  have hlt := h.lt
  simp only [List.getElem?_toArray, List.getElem?_cons_zero, List.getElem?_cons_succ] at q0 q1 q2 q3 q4
  have H := Aside0.mk h
  clear h h5
  have hd := H.out.2.2
  have hrd := Kd.Q_reads' hd
  obtain ⟨ad, rfl, hcell⟩ := Kd.at_int hrd.2.2 0 (by omega) (by simp)
  obtain ⟨i, hi, hsz⟩ := Option.map_eq_some_iff.1 info3
  have hc0 : W.cell? ad = some (.int .i64 x) := by simpa [Addr.add, rd] using hcell
  have hcut := cut_from (P := Try.prog) 51 3 .i64 Try.underlying51 hi 1 (by simp at hsz; exact hsz.2.1) (some ad) (r.length + 1) cf 1 (by omega) (by omega)
  have hD := Kd.Q_drop (k := 1) hd (by simp)
  obtain ⟨A', hA⟩ : ∃ A', (if cf = 1 then some ad else (some ad).map (·.add (1 * 1))) = A' := ⟨_, rfl⟩
  have hsz1 : (Kd.int .i64).sz = 1 := rfl
  have e1 : (1 : Int).toNat = 1 := rfl
  rw [e1, hA] at hcut
  simp only [Nat.add_sub_cancel] at hcut
  rw [hsz1, hA] at hD
  simp only [List.length_cons, Nat.add_sub_cancel, List.drop_succ_cons, List.drop_zero] at hD
  have HD := Aside0.mk hD
  clear hD hA hd hrd hcell hsz1 e1 hsz hi
  go_enter Try.func33, Try.ntmps33
  go_wp2
  go_ret2
  exact ⟨rfl, _, H.out.put 4 _ rfl H.out.2.1 HD.out, H.out.fr 4 _⟩
set_option maxHeartbeats 1000000 in
set_option maxRecDepth 100000 in
theorem slot_full {W : World} {g : Nat} {cap lim chg : Int} {bv fv : Value} {bs : List S77} (h : Ar W g cap lim chg bv bs fv []) (hb : bs.length = 4096) :
    Calls Try.prog 33 #[.pointer (some ⟨g, 0, none⟩)] W fun e w' => e = .returned (.tuple #[.int .i64 0, .bool false]) ∧ Below W.heap.size W w' := by
  have HB := Aside0.mk (Below.refl W.heap.size W)
  have h5 := h.1
  obtain ⟨Ab, cb, rfl⟩ := h.bval
  obtain ⟨Af, cf, rfl, hfl⟩ := h.fval
  have q0 := blk_cell h5 0
  have q1 := blk_cell h5 1
  have q2 := blk_cell h5 2
  have q3 := blk_cell h5 3
  have q4 := blk_cell h5 4
  have f1 := blk_frozen h5 1
  have f2 := blk_frozen h5 2
  have f3 := blk_frozen h5 3
  have f4 := blk_frozen h5 4
  have hlt := h.lt
  simp only [List.getElem?_toArray, List.getElem?_cons_zero, List.getElem?_cons_succ] at q0 q1 q2 q3 q4
  have H := Aside0.mk h
  clear h h5
  have hbi : (bs.length : Int) = 4096 := by omega
  go_enter Try.func33, Try.ntmps33
  go_wp2
  go_ret2
  exact ⟨rfl, (by repeat (first | (with_reducible first | exact HB.out | apply below_alloc | apply pw_below_drewN | apply below_drew1) | exact HB.out))⟩
set_option maxHeartbeats 1000000 in
set_option maxRecDepth 100000 in
theorem slot_new {W : World} {g : Nat} {cap lim chg : Int} {bv fv : Value} {bs : List S77} (h : Ar W g cap lim chg bv bs fv []) (hb : bs.length < 4096) :
    Calls Try.prog 33 #[.pointer (some ⟨g, 0, none⟩)] W fun e w' => e = .returned (.tuple #[.int .i64 (bs.length : Int), .bool true]) ∧ ∃ bv', Ar w' g cap lim chg bv' (bs ++ [⟨1, 0, ⟨#[]⟩⟩]) fv [] ∧ Fr g W w' := by
  have HB := Aside0.mk (Below.refl W.heap.size W)
  have h5 := h.1
  obtain ⟨Ab, cb, rfl⟩ := h.bval
  obtain ⟨Af, cf, rfl, hfl⟩ := h.fval
  have q0 := blk_cell h5 0
  have q1 := blk_cell h5 1
  have q2 := blk_cell h5 2
  have q3 := blk_cell h5 3
  have q4 := blk_cell h5 4
  have f1 := blk_frozen h5 1
  have f2 := blk_frozen h5 2
  have f3 := blk_frozen h5 3
  have f4 := blk_frozen h5 4
  have hlt := h.lt
  simp only [List.getElem?_toArray, List.getElem?_cons_zero, List.getElem?_cons_succ] at q0 q1 q2 q3 q4
  have H := Aside0.mk h
  clear h h5
  have hbi : (bs.length : Int) < 4096 := by omega
  have hbe : ((bs.length : Int) == 4096) = false := by simp; omega
  have HS : Aside0 ((bs.length + 1) * 32 ≤ 140737488355328) := ⟨by omega⟩
  clear hb
  go_enter Try.func33, Try.ntmps33
  go_wp2_with (first | ((with_reducible refine gate_builtin (b := .append) (xs := #[.tmp 36, .tmp 38]) rfl ?_); at_builtin; refine Kd.R_append k77 (w0 := W) g rfl (.tmp 36) (.tmp 38) 71 77 (.agg #[.int .u32 0, .int .i64 0, .string ⟨#[]⟩]) 32 rfl Try.underlying71 infoBlk rfl (by decide) (by decide) (.slice Ab bs.length cb) bs (⟨1, 0, ⟨#[]⟩⟩ : S77) [.int .u32 1, .int .i64 0, .string ⟨#[]⟩] (fun _ => True) (fun _ => False) rfl rfl ?aP (fun _ hk => hk.elim) (fun _ _ => trivial) H.out.2.1 (Below.refl _ _) (Nat.le_of_lt H.out.lt) HS.out ?_; (case aP => exact ⟨[.int .u32 1], [.int .i64 0, .string ⟨#[]⟩], rfl, rfl, [.int .i64 0], [.string ⟨#[]⟩], rfl, rfl, rfl⟩); intro v1 w5 r1 b1 g1 e1; obtain ⟨A1, c1, e2⟩ := Kd.R_slice r1; subst e2; have hn := Kd.R_ne H.out.2.1 H.out.1 (by decide); have h5 := blk_grown H.out.1 g1 hn; have N5 := Aside0.mk h5; have p3 := blk_cell h5 3; have pf := blk_frozen h5 3; clear h5; simp only [List.getElem?_toArray, List.getElem?_cons_zero, List.getElem?_cons_succ] at p3; have R1 := Aside0.mk r1; have G1 := Aside0.mk g1; have E1 := Aside0.mk e1; clear r1 g1 e1 b1 hn q0 q1 q2 q3 q4))
  go_ret2
  have e3 : (bs ++ [(⟨1, 0, ⟨#[]⟩⟩ : S77)]).length = bs.length + 1 := by simp
  have R2 := R1.out
  rw [e3] at R2
  exact ⟨rfl, _, Ar.mk' N5.out 3 _ rfl R2 (Kd.Q_over' H.out.2.2 H.out.bty (by decide) G1.out), (Fr.grown G1.out H.out.bown).trans (Fr.set N5.out (.inl rfl) (Nat.le_refl g) 3 _)⟩
end Go.Proofs.Ytdnpfnoobjbanaa.Hand
