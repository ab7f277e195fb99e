/- Package wire's Put: what it writes. -/
import Derived.Test.YthckcbacmonihaaE3
set_option linter.unusedVariables false
namespace Go.Proofs.Ythckcbacmonihaa.Hand
open Go.RowKit Go.Proofs.Ythckcbacmonihaa.PWireTells Go.Proofs.YthckcbacmonihaaW.PrintWords Go.Proofs.YthckcbacmonihaaW.PrintLast Go.Proofs.YthckcbacmonihaaW.PrintMore
theorem old_cell {W w1 : World} (hb : Below W.heap.size W w1) (b o : Nat) (h : b < W.heap.size) : w1.cell? ⟨b, o, none⟩ = W.cell? ⟨b, o, none⟩ := hb.cell (p := ⟨b, o, none⟩) h
theorem old_froz {W w1 : World} (hb : Below W.heap.size W w1) (b o : Nat) (h : b < W.heap.size) : w1.frozen? ⟨b, o, none⟩ = W.frozen? ⟨b, o, none⟩ := hb.frozen (p := ⟨b, o, none⟩) h

theorem intV_size (n : Int) : (intV n).size = 8 := by
  have h := wrapU n
  unfold intV putV
  rw [if_neg (by decide), if_neg (by decide), if_pos (by have e : (256 : Int) ^ (8 : Int).toNat = 18446744073709551616 := by decide
                                                         rw [e]; omega), str_size, dg_len]
  rfl
/-- An event's bytes, of its first i numbers. -/
def evI (k t : Int) (l : List Int) (i : Nat) : ByteArray := (l.take i).foldl (fun s n => s ++ intV n) (strOfNums [k, (l.length : Int)] ++ intV t)
theorem fold_size (l : List Int) (s : ByteArray) : (l.foldl (fun s n => s ++ intV n) s).size = s.size + 8 * l.length := by
  induction l generalizing s with
  | nil => simp
  | cons a l ih => simp only [List.foldl_cons, ih, ByteArray.size_append, intV_size, List.length_cons]; omega
theorem evI_size (k t : Int) (l : List Int) (i : Nat) (h : i ≤ l.length) : (evI k t l i).size = 10 + 8 * i := by
  unfold evI
  rw [fold_size, ByteArray.size_append, intV_size, str_size, List.length_take]
  simp
  omega
theorem evI_succ (k t : Int) (l : List Int) (i : Nat) (h : i < l.length) : evI k t l (i + 1) = evI k t l i ++ intV (rd l (i : Int)) := by
  unfold evI rd
  rw [List.take_add_one, List.foldl_append, List.getD_eq_getElem?_getD, Int.toNat_natCast, List.getElem?_eq_getElem h]
  rfl
def bcells (s : ByteArray) : List Value := Lib.byteCells s.data.toList
theorem bcells_app (a s : ByteArray) : bcells a ++ Lib.strCells s = bcells (a ++ s) := by
  unfold bcells; rw [Lib.strCells_eq, ← Lib.byteCells_append, ByteArray.data_append, Array.toList_append]
theorem bcells_len (s : ByteArray) : (bcells s).length = s.size := by unfold bcells; rw [Lib.byteCells_length]; rfl
theorem head_cells (k m : Int) (h0 : 0 ≤ k) (h1 : k ≤ 255) (h2 : 0 ≤ m) (h3 : m ≤ 8) : ([] ++ [Value.int .u8 k] ++ [Value.int .u8 m]) = bcells (strOfNums [k, m]) := by
  unfold bcells strOfNums Lib.byteCells
  simp
  omega
theorem bat_below {B b : Nat} {p : Value} {bs : List Value} {w w1 : World} (h : Lib.BuilderAt 57 5 B b p bs w) (hb : Below w.heap.size w w1) : Lib.BuilderAt 57 5 B b p bs w1 := by
  have hl := h.lt
  obtain ⟨h1, v, h2, h3, h4⟩ := h
  exact ⟨h1, v, (hb.block b hl).trans h2, pw_own_below h3 hb, h4⟩
theorem isb_below {b : Nat} {bs : List Value} {w w1 : World} (h : Lib.IsBuilder 57 5 b b bs w) (hb : Below w.heap.size w w1) : Lib.IsBuilder 57 5 b b bs w1 := by
  rcases h with h | h
  · exact .inl (bat_below h hb)
  · exact .inr (bat_below h hb)
theorem isb_lt {b : Nat} {bs : List Value} {w : World} (h : Lib.IsBuilder 57 5 b b bs w) : b < w.heap.size := by
  rcases h with h | h
  · exact h.lt
  · exact h.lt
theorem bwb (b : Nat) (bs : List Value) (c : Int) (w : World) (h : Lib.IsBuilder 57 5 b b bs w) (hl : bs.length ≤ 1000) :
    Calls Try.prog 22 #[.pointer (some ⟨b, 0, none⟩), .int .u8 c] w fun e w' => e = .returned .nilIface ∧ Lib.IsBuilder 57 5 b b (bs ++ [.int .u8 c]) w' ∧ Below b w w' := by
  refine (bwbyte b b bs c w h (by omega) (Nat.le_of_lt (isb_lt h))).mono ?_
  rintro e w' ⟨rfl, h1, h2⟩
  exact ⟨rfl, .inr h1, h2⟩
theorem bws (b : Nat) (a s : ByteArray) (w : World) (h : Lib.IsBuilder 57 5 b b (bcells a) w) (hl : a.size + s.size ≤ 1000000000000) :
    Calls Try.prog 23 #[.pointer (some ⟨b, 0, none⟩), .string s] w fun e w' => e = .returned (.tuple #[.int .i64 s.size, .nilIface]) ∧ Lib.IsBuilder 57 5 b b (bcells (a ++ s)) w' ∧ Below b w w' := by
  refine (bwstr b b (bcells a) s w h (by rw [bcells_len]; omega) (Nat.le_of_lt (isb_lt h))).mono ?_
  rintro e w' ⟨rfl, h1, h2⟩
  rw [bcells_app] at h1
  exact ⟨rfl, .inr h1, h2⟩
theorem bstr (b : Nat) (a : ByteArray) (w : World) (h : Lib.IsBuilder 57 5 b b (bcells a) w) :
    Calls Try.prog 25 #[.pointer (some ⟨b, 0, none⟩)] w fun e w' => e = .returned (.string a) ∧ Below b w w' := by
  refine (Try.Builder_String_any b b a.data.toList w h (Nat.le_of_lt (isb_lt h))).mono ?_
  rintro e w' ⟨rfl, h1⟩
  exact ⟨rfl, h1⟩
def EvB (w : World) (g : Nat) (k t : Int) (v : Value) : Prop := w.cell? ⟨g, 0, none⟩ = some (.int .i64 k) ∧ w.cell? ⟨g, 1, none⟩ = some (.int .i64 t) ∧ w.cell? ⟨g, 2, none⟩ = some v
theorem EvB.keep {B : Nat} {w w1 : World} {g : Nat} {k t : Int} {v : Value} (h : EvB w g k t v) (hb : Below B w w1) (hg : g < B) : EvB w1 g k t v :=
  ⟨(hb.cell (p := ⟨g, 0, none⟩) hg).trans h.1, (hb.cell (p := ⟨g, 1, none⟩) hg).trans h.2.1, (hb.cell (p := ⟨g, 2, none⟩) hg).trans h.2.2⟩
theorem EvB.lt {w : World} {g : Nat} {k t : Int} {v : Value} (h : EvB w g k t v) : g < w.heap.size := World.block_lt_of_cell? _ _ h.1
theorem below_to {B N : Nat} {w0 w w1 : World} (h : Below N w0 w) (hb : Below B w w1) (hn : N ≤ B) : Below N w0 w1 := h.trans (hb.mono hn)
set_option maxHeartbeats 1000000 in
set_option maxRecDepth 100000 in
theorem wput_no (k t : Int) (l : List Int) (A : Option Addr) (c : Nat) (w : World) (hm : l.length ≤ 9223372036854775807) (h : k < 0 ∨ 255 < k ∨ 8 < l.length) :
    Calls Try.prog 9 #[.agg #[.int .i64 k, .int .i64 t, .slice A l.length c]] w fun e w' => e = .returned (.tuple #[.string ⟨#[]⟩, .bool false]) ∧ Below w.heap.size w w' := by
  have HB := Aside0.mk (Below.refl w.heap.size w)
  generalize l.length = n at h hm ⊢
  rcases Int.lt_or_le k 0 with h1 | h1
  · go_enter Try.func9, Try.ntmps9
    go_wp2
    go_ret2
    exact ⟨rfl, (by repeat (first | (with_reducible first | exact HB.out | apply below_alloc | apply pw_below_drewN | apply below_drew1) | exact HB.out))⟩
  rcases Int.lt_or_le 255 k with h2 | h2
  · go_enter Try.func9, Try.ntmps9
    go_wp2
    go_ret2
    exact ⟨rfl, (by repeat (first | (with_reducible first | exact HB.out | apply below_alloc | apply pw_below_drewN | apply below_drew1) | exact HB.out))⟩
  · have h3 : (8 : Int) < (n : Int) := by omega
    clear h
    go_enter Try.func9, Try.ntmps9
    go_wp2
    go_ret2
    exact ⟨rfl, (by repeat (first | (with_reducible first | exact HB.out | apply below_alloc | apply pw_below_drewN | apply below_drew1) | exact HB.out))⟩
set_option maxHeartbeats 1000000 in
set_option maxRecDepth 100000 in
theorem wput_yes (k t : Int) (l : List Int) (A : Option Addr) (c : Nat) (w : World) (hr : Kd.C (Kd.int .i64) w A l.length l) (h0 : 0 ≤ k) (h1 : k ≤ 255) (h2 : l.length ≤ 8) :
    Calls Try.prog 9 #[.agg #[.int .i64 k, .int .i64 t, .slice A l.length c]] w fun e w' => e = .returned (.tuple #[.string (evI k t l l.length), .bool true]) ∧ Below w.heap.size w w' := by
  have HB := Aside0.mk (Below.refl w.heap.size w)
  have HR := Aside0.mk hr
  clear hr
  have b2 : (l.length : Int) ≤ 8 := by omega
  have HBu : Aside0 (Lib.IsBuilder 57 5 (w.heap.size + 1) (w.heap.size + 1) [] ((w.alloc (.cells #[.int .i64 k, .int .i64 t, .slice A l.length c] 24)).alloc (.cells #[.pointer none, .slice none 0 0] 57))) := ⟨by
    have := Lib.fresh_isBuilder 57 5 (w.alloc (.cells #[.int .i64 k, .int .i64 t, .slice A l.length c] 24))
    simpa using this⟩
  have HE : Aside0 (EvB ((w.alloc (.cells #[.int .i64 k, .int .i64 t, .slice A l.length c] 24)).alloc (.cells #[.pointer none, .slice none 0 0] 57)) w.heap.size k t (.slice A l.length c)) := ⟨by
    refine ⟨?_, ?_, ?_⟩ <;> simp [go_sem]⟩
  have c0 : True := trivial
  have c1 : True := trivial
  have c2 : True := trivial
  go_enter Try.func9, Try.ntmps9
  go_wp2_with (first | (go_at_call 22; (with_reducible refine (bwb _ _ _ _ HBu.out (by simp)).mono ?_); rintro e w1 ⟨rfl, hbd, hb⟩; have n0_ := Aside0.mk (below_to (by repeat (first | (with_reducible first | exact HB.out | apply below_alloc | apply pw_below_drewN | apply below_drew1) | exact HB.out)) hb (by omega)); clear HB; have HB := n0_; clear n0_; have n1_ := Aside0.mk (HE.out.keep hb (by omega)); clear HE c0 c1 c2; have HE := n1_; clear n1_; clear HBu; have HBu := Aside0.mk hbd; clear hbd; clear hb; have c0 := HE.out.1; have c1 := HE.out.2.1; have c2 := HE.out.2.2) | (go_at_call 24; (with_reducible refine (int_c _ _).mono ?_); rintro e w1 ⟨rfl, hb⟩; have n0_ := Aside0.mk (below_step (by repeat (first | (with_reducible first | exact HB.out | apply below_alloc | apply pw_below_drewN | apply below_drew1) | exact HB.out)) hb); clear HB; have HB := n0_; clear n0_; have n0_ := Aside0.mk (isb_below HBu.out hb); clear HBu; have HBu := n0_; clear n0_; have n1_ := Aside0.mk (HE.out.keep hb HE.out.lt); clear HE c0 c1 c2; have HE := n1_; clear n1_; clear hb; have c0 := HE.out.1; have c1 := HE.out.2.1; have c2 := HE.out.2.2) | (go_at_call 23; (first | rw [head_cells k _ h0 h1 (by omega) b2] at HBu | skip); (with_reducible refine (bws _ _ _ _ HBu.out (by rw [str_size, intV_size]; simp)).mono ?_); rintro e w1 ⟨rfl, hbd, hb⟩; have n0_ := Aside0.mk (below_to (by repeat (first | (with_reducible first | exact HB.out | apply below_alloc | apply pw_below_drewN | apply below_drew1) | exact HB.out)) hb (by omega)); clear HB; have HB := n0_; clear n0_; have n1_ := Aside0.mk (HE.out.keep hb (by omega)); clear HE c0 c1 c2; have HE := n1_; clear n1_; clear HBu; have HBu := Aside0.mk hbd; clear hbd; clear hb; have c0 := HE.out.1; have c1 := HE.out.2.1; have c2 := HE.out.2.2))
  go_loopw [37] (fun v37 wr => ∃ i : Nat, i ≤ l.length ∧ v37 = .int .i64 i ∧ Aside0 (Below w.heap.size w wr) ∧ Aside0 (EvB wr w.heap.size k t (.slice A l.length c)) ∧ Aside0 (Lib.IsBuilder 57 5 (w.heap.size + 1) (w.heap.size + 1) (bcells (evI k t l i)) wr)) (fun v _ => l.length - (intOf v).toNat)
  case atStart => exact ⟨0, by omega, rfl, HB, HE, HBu⟩
  case round =>
    obtain ⟨i, hi, rfl, HB', HE', HBu'⟩ := hrel
    clear HB HE HBu c0 c1 c2
    have HB := HB'
    have HE := HE'
    have HBu := HBu'
    clear HB' HE' HBu'
    have c0 := HE.out.1
    have c1 := HE.out.2.1
    have c2 := HE.out.2.2
    by_cases hlt : i < l.length
    · obtain ⟨ad, hA, hcell⟩ := Kd.at_int (Kd.C_below HR.out HB.out) (i : Int) (by omega) (by omega)
      subst hA
      rw [Int.toNat_natCast] at hcell
      have hsz := evI_size k t l i hi
      have hsi := intV_size (rd l (i : Int))
      go_wp2_with (first | (go_at_call 24; (with_reducible refine (int_c _ _).mono ?_); rintro e w1 ⟨rfl, hb⟩; have n0_ := Aside0.mk (below_step (by repeat (first | (with_reducible first | exact HB.out | apply below_alloc | apply pw_below_drewN | apply below_drew1) | exact HB.out)) hb); clear HB; have HB := n0_; clear n0_; have n0_ := Aside0.mk (isb_below HBu.out hb); clear HBu; have HBu := n0_; clear n0_; have n1_ := Aside0.mk (HE.out.keep hb HE.out.lt); clear HE c0 c1 c2; have HE := n1_; clear n1_; clear hb; have c0 := HE.out.1; have c1 := HE.out.2.1; have c2 := HE.out.2.2) | (go_at_call 23; (first | rw [head_cells k _ h0 h1 (by omega) b2] at HBu | skip); (with_reducible refine (bws _ _ _ _ HBu.out (by omega)).mono ?_); rintro e w1 ⟨rfl, hbd, hb⟩; have n0_ := Aside0.mk (below_to (by repeat (first | (with_reducible first | exact HB.out | apply below_alloc | apply pw_below_drewN | apply below_drew1) | exact HB.out)) hb (by omega)); clear HB; have HB := n0_; clear n0_; have n1_ := Aside0.mk (HE.out.keep hb (by omega)); clear HE c0 c1 c2; have HE := n1_; clear n1_; clear HBu; have HBu := Aside0.mk hbd; clear hbd; clear hb; have c0 := HE.out.1; have c1 := HE.out.2.1; have c2 := HE.out.2.2))
      go_roundw
      case rel => exact ⟨i + 1, by omega, by go_num, ⟨(by repeat (first | (with_reducible first | exact HB.out | apply below_alloc | apply pw_below_drewN | apply below_drew1) | exact HB.out))⟩, HE, by rw [evI_succ k t l i hlt]; exact HBu⟩
      case measure => simp [intOf]; omega
    · obtain rfl : i = l.length := by omega
      go_wp2_with (first | (go_at_call 25; (with_reducible refine (bstr _ _ _ HBu.out).mono ?_); rintro e w1 ⟨rfl, hb⟩; have n0_ := Aside0.mk (below_to (by repeat (first | (with_reducible first | exact HB.out | apply below_alloc | apply pw_below_drewN | apply below_drew1) | exact HB.out)) hb (by omega)); clear HB; have HB := n0_; clear n0_))
      go_ret2
      exact ⟨rfl, (by repeat (first | (with_reducible first | exact HB.out | apply below_alloc | apply pw_below_drewN | apply below_drew1) | exact HB.out))⟩
end Go.Proofs.Ythckcbacmonihaa.Hand
