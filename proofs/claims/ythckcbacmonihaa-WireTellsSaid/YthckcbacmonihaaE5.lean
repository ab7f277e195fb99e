/- Package wire's reader: what its steps read, and when they panic. -/
import Derived.Test.YthckcbacmonihaaE4
import Derived.Deep.RegionHeld3
import Derived.OpenShut
set_option linter.unusedVariables false
namespace Go.Proofs.Ythckcbacmonihaa.Hand
open Go.RowKit Go.Proofs.Ythckcbacmonihaa.PWireTells Go.Proofs.YthckcbacmonihaaW.PrintWords Go.Proofs.YthckcbacmonihaaW.PrintLast Go.Proofs.YthckcbacmonihaaW.PrintMore

def bad : List PanicEntry := [{ v := .iface 35 (.int .i64 7), recovered := false }]
theorem must_yes (w : World) : Calls Try.prog 29 #[.bool true] w fun e w' => e = .returned (.tuple #[]) ∧ w = w' := by
  go_enter Try.func29, Try.ntmps29
  go_wp2
  go_end0
  exact ⟨rfl, rfl⟩
theorem must_no (w : World) : Calls Try.prog 29 #[.bool false] w fun e w' => e = .panicked bad ∧ w = w' := by
  go_enter Try.func29, Try.ntmps29
  go_wp2
  exact ⟨rfl, rfl, rfl⟩
def Rd (W : World) (g : Nat) (s : ByteArray) (a : Int) : Prop := W.cell? ⟨g, 0, none⟩ = some (.string s) ∧ W.cell? ⟨g, 1, none⟩ = some (.int .i64 a) ∧ W.frozen? ⟨g, 1, none⟩ = false
theorem Rd.lt {W : World} {g : Nat} {s : ByteArray} {a : Int} (h : Rd W g s a) : g < W.heap.size := World.block_lt_of_cell? _ _ h.1
theorem Rd.keep {W W1 : World} {g : Nat} {s : ByteArray} {a : Int} (hb : Below W.heap.size W W1) (h : Rd W g s a) : Rd W1 g s a :=
  ⟨(hb.cell (p := ⟨g, 0, none⟩) h.lt).trans h.1, (hb.cell (p := ⟨g, 1, none⟩) h.lt).trans h.2.1, (hb.frozen (p := ⟨g, 1, none⟩) h.lt).trans h.2.2⟩
theorem Rd.put {W : World} {g : Nat} {s : ByteArray} {a : Int} (h : Rd W g s a) (b : Int) : Rd (W.setCell ⟨g, 1, none⟩ (.int .i64 b)) g s b :=
  ⟨(World.cell?_setCell_other _ _ _ _ (by simp)).trans h.1, World.cell?_setCell_same _ _ _ h.2.1, (World.frozen?_setCell _ _ _ _).trans h.2.2⟩
/-- But for a number stored into block g all is as it was. -/
def Turn (g : Nat) (a : Int) (w w' : World) : Prop := ∃ W, Below w.heap.size w W ∧ w' = W.setCell ⟨g, 1, none⟩ (.int .i64 a)
theorem get_at (s : ByteArray) (a n x : Int) (b : Bool) (w : World) (hs : s.size ≤ 1000000000000000) (e : getV s a n = (x, b)) :
    Calls Try.prog 36 #[.string s, .int .i64 a, .int .i64 n] w fun e w' => e = .returned (.tuple #[.int .u64 x, .bool b]) ∧ Below w.heap.size w w' := by
  have := get_c s a n w hs; rw [e] at this; exact this
theorem gint_at (s : ByteArray) (a x : Int) (b : Bool) (w : World) (hs : s.size ≤ 1000000000000000) (e : gintV s a = (x, b)) :
    Calls Try.prog 37 #[.string s, .int .i64 a] w fun e w' => e = .returned (.tuple #[.int .i64 x, .bool b]) ∧ Below w.heap.size w w' := by
  have := gint_c s a w hs; rw [e] at this; exact this
set_option maxHeartbeats 1000000 in
set_option maxRecDepth 100000 in
theorem rbyte_yes (g : Nat) (s : ByteArray) (a x : Int) (w : World) (hs : s.size ≤ 1000000000000000) (h : Rd w g s a) (e : Aside0 (getV s a 1 = (x, true))) (x0 : 0 ≤ x) (x1 : x ≤ 255) (a0 : 0 ≤ a) (a1 : a ≤ 1000000000000000) :
    Calls Try.prog 28 #[.pointer (some ⟨g, 0, none⟩)] w fun e w' => e = .returned (.int .i64 x) ∧ Turn g (a + 1) w w' := by
  have HB := Aside0.mk (Below.refl w.heap.size w)
  have hlt := h.lt
  have HR := Aside0.mk h
  have z := h
  unfold Rd at z
  clear h
  go_enter Try.func28, Try.ntmps28
  go_wp2_with fail
  go_region_held3 (fun w' => w'.cell? ⟨g, 0, none⟩ = some (.string s) ∧ w'.cell? ⟨g, 1, none⟩ = some (.int .i64 a) ∧ w'.frozen? ⟨g, 1, none⟩ = false) (first | (exact Rd.keep hb (by assumption)) | go_keep) (first | (go_at_call 36; (with_reducible refine (get_at s a 1 x true _ hs e.out).mono ?_); rintro y w9 ⟨rfl, hb⟩; have n0_ := Aside0.mk (below_step (by repeat (first | (with_reducible first | exact HB.out | apply below_alloc | apply pw_below_drewN | apply below_drew1) | exact HB.out)) hb); clear HB; have HB := n0_; clear n0_))
  go_wp2_with (go_at_call 29; refine (must_yes _).mono ?_; rintro y w8 ⟨rfl, rfl⟩)
  go_wp2
  go_ret
  exact ⟨rfl, _, (by repeat (first | (with_reducible first | exact HB.out | apply below_alloc | apply pw_below_drewN | apply below_drew1) | exact HB.out)), rfl⟩
set_option maxHeartbeats 1000000 in
set_option maxRecDepth 100000 in
theorem rbyte_no (g : Nat) (s : ByteArray) (a x : Int) (w : World) (hs : s.size ≤ 1000000000000000) (h : Rd w g s a) (e : Aside0 (getV s a 1 = (x, false))) :
    Calls Try.prog 28 #[.pointer (some ⟨g, 0, none⟩)] w fun e w' => e = .panicked bad ∧ Below w.heap.size w w' := by
  have HB := Aside0.mk (Below.refl w.heap.size w)
  have hlt := h.lt
  have HR := Aside0.mk h
  have z := h
  unfold Rd at z
  clear h
  go_enter Try.func28, Try.ntmps28
  go_wp2_with fail
  go_region_held3 (fun w' => w'.cell? ⟨g, 0, none⟩ = some (.string s) ∧ w'.cell? ⟨g, 1, none⟩ = some (.int .i64 a) ∧ w'.frozen? ⟨g, 1, none⟩ = false) (first | (exact Rd.keep hb (by assumption)) | go_keep) (first | (go_at_call 36; (with_reducible refine (get_at s a 1 x false _ hs e.out).mono ?_); rintro y w9 ⟨rfl, hb⟩; have n0_ := Aside0.mk (below_step (by repeat (first | (with_reducible first | exact HB.out | apply below_alloc | apply pw_below_drewN | apply below_drew1) | exact HB.out)) hb); clear HB; have HB := n0_; clear n0_))
  go_wp2_with (go_at_call 29; refine (must_no _).mono ?_; rintro y w8 ⟨rfl, rfl⟩)
  exact ⟨rfl, rfl, (by repeat (first | (with_reducible first | exact HB.out | apply below_alloc | apply pw_below_drewN | apply below_drew1) | exact HB.out))⟩
set_option maxHeartbeats 1000000 in
set_option maxRecDepth 100000 in
theorem rint_yes (g : Nat) (s : ByteArray) (a x : Int) (w : World) (hs : s.size ≤ 1000000000000000) (h : Rd w g s a) (e : Aside0 (gintV s a = (x, true))) (a0 : 0 ≤ a) (a1 : a ≤ 1000000000000000) :
    Calls Try.prog 30 #[.pointer (some ⟨g, 0, none⟩)] w fun e w' => e = .returned (.int .i64 x) ∧ Turn g (a + 8) w w' := by
  have HB := Aside0.mk (Below.refl w.heap.size w)
  have hlt := h.lt
  have HR := Aside0.mk h
  have z := h
  unfold Rd at z
  clear h
  go_enter Try.func30, Try.ntmps30
  go_wp2_with fail
  go_region_held3 (fun w' => w'.cell? ⟨g, 0, none⟩ = some (.string s) ∧ w'.cell? ⟨g, 1, none⟩ = some (.int .i64 a) ∧ w'.frozen? ⟨g, 1, none⟩ = false) (first | (exact Rd.keep hb (by assumption)) | go_keep) (first | (go_at_call 37; (with_reducible refine (gint_at s a x true _ hs e.out).mono ?_); rintro y w9 ⟨rfl, hb⟩; have n0_ := Aside0.mk (below_step (by repeat (first | (with_reducible first | exact HB.out | apply below_alloc | apply pw_below_drewN | apply below_drew1) | exact HB.out)) hb); clear HB; have HB := n0_; clear n0_))
  go_wp2_with (go_at_call 29; refine (must_yes _).mono ?_; rintro y w8 ⟨rfl, rfl⟩)
  go_wp2
  go_ret
  exact ⟨rfl, _, (by repeat (first | (with_reducible first | exact HB.out | apply below_alloc | apply pw_below_drewN | apply below_drew1) | exact HB.out)), rfl⟩
set_option maxHeartbeats 1000000 in
set_option maxRecDepth 100000 in
theorem rint_no (g : Nat) (s : ByteArray) (a x : Int) (w : World) (hs : s.size ≤ 1000000000000000) (h : Rd w g s a) (e : Aside0 (gintV s a = (x, false))) :
    Calls Try.prog 30 #[.pointer (some ⟨g, 0, none⟩)] w fun e w' => e = .panicked bad ∧ Below w.heap.size w w' := by
  have HB := Aside0.mk (Below.refl w.heap.size w)
  have hlt := h.lt
  have HR := Aside0.mk h
  have z := h
  unfold Rd at z
  clear h
  go_enter Try.func30, Try.ntmps30
  go_wp2_with fail
  go_region_held3 (fun w' => w'.cell? ⟨g, 0, none⟩ = some (.string s) ∧ w'.cell? ⟨g, 1, none⟩ = some (.int .i64 a) ∧ w'.frozen? ⟨g, 1, none⟩ = false) (first | (exact Rd.keep hb (by assumption)) | go_keep) (first | (go_at_call 37; (with_reducible refine (gint_at s a x false _ hs e.out).mono ?_); rintro y w9 ⟨rfl, hb⟩; have n0_ := Aside0.mk (below_step (by repeat (first | (with_reducible first | exact HB.out | apply below_alloc | apply pw_below_drewN | apply below_drew1) | exact HB.out)) hb); clear HB; have HB := n0_; clear n0_))
  go_wp2_with (go_at_call 29; refine (must_no _).mono ?_; rintro y w8 ⟨rfl, rfl⟩)
  exact ⟨rfl, rfl, (by repeat (first | (with_reducible first | exact HB.out | apply below_alloc | apply pw_below_drewN | apply below_drew1) | exact HB.out))⟩
end Go.Proofs.Ythckcbacmonihaa.Hand
