/- schema.IsName, walked: what it tells of any text. -/
import Derived.Test.YtimmomhgljofnaaDoorGW0
import Derived.Test.YtimmomhgljofnaaDoorGX0
import Derived.Test.YtimmomhgljofnaaDoorShelf
import Derived.Lib.OthersKept
import Derived.WalkSmall
import Derived.Deep.RegionLaw
import Derived.Deep.DeepCutAuto
import Derived.Deep.CutBlock
set_option linter.unusedVariables false
set_option linter.unusedSimpArgs false
namespace Go.Proofs.YtimmomhgljofnaaDoor.Hand
open Go.RowKit Go.Proofs.YtimmomhgljofnaaDoor.PValueBad Go.Proofs.YtimmomhgljofnaaDoorW.PrintWords Go.Proofs.YtimmomhgljofnaaDoorW.PrintLast Go.Proofs.YtimmomhgljofnaaDoorW.PrintMore
/-- May a rune begin a name? -/
def letB (r : Int) : Bool := decide (97 ≤ r ∧ r ≤ 122 ∨ 65 ≤ r ∧ r ≤ 90 ∨ r = 95 ∨ 128 ≤ r)
def digB (r : Int) : Bool := decide (48 ≤ r ∧ r ≤ 57)
/-- From a place on, by at most so many runes: each is a letter, or no first one and a digit. -/
def nameFrom (s : ByteArray) : Nat → Nat → Bool
  | 0, _ => true
  | f + 1, pos => if pos < s.size then (if (letB (Utf8.decode s pos).1 || (decide (pos ≠ 0) && digB (Utf8.decode s pos).1)) = true then nameFrom s f (pos + (Utf8.decode s pos).2) else false) else true
def withinB : ByteArray := ⟨#[87, 73, 84, 72, 73, 78]⟩
def byB : ByteArray := ⟨#[66, 89]⟩
/-- What is a name. -/
def nameB (s : ByteArray) : Bool := if s.toList = [] then false else if 24 < s.size then false else if s.toList = withinB.toList then false else if s.toList = byB.toList then false else if Lib.validD s.data.toList = false then false else nameFrom s s.size 0
def Tabs (w : World) : Prop := Lib.Utf8Tabs (Tryd.laysValid_ren.g 3) (Tryd.laysValid_ren.g 4) w
theorem Tabs.below {w w' : World} (h : Tabs w) (hb : Below w.heap.size w w') : Tabs w' := Utf8Tabs_below h hb
theorem letter_c (r : Int) (b : Bool) (hb : letB r = b) (w : World) : Calls Tryd.prog 71 #[.int .i32 r] w fun e w' => e = .returned (.bool b) ∧ ∃ n, w' = w.drewN n := by
  have h : schema_letter.f r = some b := by
    rw [← hb]
    unfold schema_letter.f letB
    repeat' split
    all_goals (congr 1; symm)
    all_goals first | exact decide_eq_true (by omega) | exact decide_eq_false (by omega) | (rw [decide_eq_decide]; omega)
  exact (schema_letter.calls r b w h).mono fun e w' ⟨he, hw⟩ => ⟨he, hw.out⟩
theorem digit_c (r : Int) (b : Bool) (hb : digB r = b) (w : World) : Calls Tryd.prog 72 #[.int .i32 r] w fun e w' => e = .returned (.bool b) ∧ ∃ n, w' = w.drewN n := by
  have h : schema_digit.f r = some b := by
    rw [← hb]
    unfold schema_digit.f digB
    repeat' split
    all_goals (congr 1; symm)
    all_goals first | exact decide_eq_true (by omega) | exact decide_eq_false (by omega) | (rw [decide_eq_decide]; omega)
  exact (schema_digit.calls r b w h).mono fun e w' ⟨he, hw⟩ => ⟨he, hw.out⟩
theorem decode_pos (s : ByteArray) (pos : Nat) : 1 ≤ (Utf8.decode s pos).2 := Lib.width_pos s pos
theorem nameFrom_end (s : ByteArray) (f pos : Nat) (h : ¬ pos < s.size) : nameFrom s f pos = true := by
  cases f with
  | zero => rfl
  | succ f => rw [nameFrom, if_neg h]
theorem bytes_eq {a b : ByteArray} (h : a.toList = b.toList) : a = b := by
  rw [ByteArray.toList_eq, ByteArray.toList_eq] at h
  cases a
  cases b
  congr
  exact Array.toList_inj.1 h
set_option maxHeartbeats 4000000 in
set_option maxRecDepth 100000 in
theorem isname_c {W : World} (s : ByteArray) (hT : Tabs W) (hs : s.size ≤ 9223372036854775807) (b : Bool) (hb : nameB s = b) :
    Calls Tryd.prog 61 #[.string s] W fun e W' => e = .returned (.bool b) ∧ Below W.heap.size W W' := by
  subst hb
  have hsm : s.size ≤ 9223372036854775807 := hs
  unfold nameB
  by_cases h0 : s.toList = []
  · rw [if_pos h0]
    have h0' : (!s.toList.isEmpty) = false := by rw [h0]; rfl
    go_enter Tryd.func61, Tryd.ntmps61
    go_wp2
    all_goals (try (exfalso; omega))
    all_goals go_ret
    all_goals exact ⟨rfl, Below.refl _ _⟩
  rw [if_neg h0]
  have h0' : (!s.toList.isEmpty) = true := by cases e : s.toList with | nil => exact absurd e h0 | cons a l => rfl
  have h0b : s.toList.isEmpty = false := by cases e : s.toList with | nil => exact absurd e h0 | cons a l => rfl
  by_cases h1 : 24 < s.size
  · rw [if_pos h1]
    have h1' : (24 : Int) < (s.size : Int) := by omega
    go_enter Tryd.func61, Tryd.ntmps61
    go_wp2
    all_goals (try (exfalso; omega))
    all_goals go_ret
    all_goals exact ⟨rfl, Below.refl _ _⟩
  rw [if_neg h1]
  have h1' : ¬ (24 : Int) < (s.size : Int) := by omega
  by_cases h2 : s.toList = withinB.toList
  · rw [if_pos h2]
    have h2' : (s.toList == [87, 73, 84, 72, 73, 78]) = true := by rw [h2]; decide +kernel
    clear h2 h0
    go_enter Tryd.func61, Tryd.ntmps61
    go_wp2
    all_goals (try (exfalso; omega))
    all_goals go_ret
    all_goals exact ⟨rfl, Below.refl _ _⟩
  rw [if_neg h2]
  have h2' : (s.toList == [87, 73, 84, 72, 73, 78]) = false := by
    rw [show ([87, 73, 84, 72, 73, 78] : List UInt8) = withinB.toList by decide +kernel]
    exact beq_eq_false_iff_ne.2 h2
  by_cases h3 : s.toList = byB.toList
  · rw [if_pos h3]
    have h3' : (s.toList == [66, 89]) = true := by rw [h3]; decide +kernel
    clear h2 h0 h3
    go_enter Tryd.func61, Tryd.ntmps61
    go_wp2
    all_goals (try (exfalso; omega))
    all_goals go_ret
    all_goals exact ⟨rfl, Below.refl _ _⟩
  rw [if_neg h3]
  have h3' : (s.toList == [66, 89]) = false := by
    rw [show ([66, 89] : List UInt8) = byB.toList by decide +kernel]
    exact beq_eq_false_iff_ne.2 h3
  have cV : ∀ w, Below W.heap.size W w → Calls Tryd.prog 70 #[.string s] w fun e w' => e = .returned (.bool (Lib.validD s.data.toList)) ∧ Below w.heap.size w w' := fun w hb => Any.utf8_ValidString Tryd.laysValid s w hs (hT.below hb)
  have HB := Aside0.mk (Below.refl W.heap.size W)
  clear hT h0 h2 h3
  by_cases h4 : Lib.validD s.data.toList = false
  · rw [if_pos h4]
    rw [h4] at cV
    have CV := Aside0.mk cV
    clear h4 cV
    go_enter Tryd.func61, Tryd.ntmps61
    go_wp2_with (first | (go_at_call 70; (with_reducible refine (CV.out _ (by repeat (first | (with_reducible first | exact HB.out | apply below_alloc | apply pw_below_drewN | apply below_drew1) | exact HB.out))).mono ?_); rintro e w1 ⟨rfl, hb⟩; have n0_ := Aside0.mk (below_step (by repeat (first | (with_reducible first | exact HB.out | apply below_alloc | apply pw_below_drewN | apply below_drew1) | exact HB.out)) hb); clear HB; have HB := n0_; clear n0_ hb))
    all_goals (try (exfalso; omega))
    all_goals go_ret
    all_goals exact ⟨rfl, (by repeat (first | (with_reducible first | exact HB.out | apply below_alloc | apply pw_below_drewN | apply below_drew1) | exact HB.out))⟩
  rw [if_neg h4]
  have h5 : Lib.validD s.data.toList = true := by simpa using h4
  rw [h5] at cV
  have CV := Aside0.mk cV
  clear h4 h5 cV
  obtain ⟨r, hr⟩ : ∃ r, nameFrom s s.size 0 = r := ⟨_, rfl⟩
  rw [hr]
  have HR := Aside0.mk hr
  clear hr
  go_enter Tryd.func61, Tryd.ntmps61
  go_upto_block 0 with (first | (go_at_call 70; (with_reducible refine (CV.out _ (by repeat (first | (with_reducible first | exact HB.out | apply below_alloc | apply pw_below_drewN | apply below_drew1) | exact HB.out))).mono ?_); rintro e w1 ⟨rfl, hb⟩; have n0_ := Aside0.mk (below_step (by repeat (first | (with_reducible first | exact HB.out | apply below_alloc | apply pw_below_drewN | apply below_drew1) | exact HB.out)) hb); clear HB; have HB := n0_; clear n0_ hb))
  go_wp2
  go_loopw [] (fun wr => ∃ (pos f : Nat), wr.heap[w1.heap.size]? = some (.stringIter s pos) ∧ nameFrom s f pos = r ∧ s.size ≤ pos + f ∧ Aside0 (Below W.heap.size W wr)) (fun wr => s.size - wr.iterPos w1.heap.size)
  case atStart => exact ⟨0, s.size, by exact World.iter_heap _ _ _, HR.out, by omega, ⟨below_alloc HB.out _⟩⟩
  case round =>
    have hle := below_size HB.out
    clear HB
    obtain ⟨pos, f, hit, hnf, hsz, HB⟩ := hrel
    have hip := iterPos_of hit
    by_cases hp : pos < s.size
    · have hnx : ∀ ty, (Instr.next (.pointer (some ⟨w1.heap.size, 0, none⟩)) true ty).run Tryd.prog wr = _ := fun ty => Lib.run_next_any_at wr w1.heap.size s pos ty hit hp
      have hw := decode_pos s pos
      rcases f with _ | f
      · omega
      rw [nameFrom, if_pos hp] at hnf
      have HI := Aside0.mk (Lib.below_iterAt HB.out hle s (pos + (Utf8.decode s pos).2))
      have hit2 := Lib.iterAt_heap wr w1.heap.size s pos (pos + (Utf8.decode s pos).2) hit
      have hip2 := iterPos_of hit2
      generalize (Utf8.decode s pos).2 = wd at *
      generalize (Utf8.decode s pos).1 = ru at *
      clear HB
      cases hL : letB ru with
      | true =>
        rw [hL, Bool.true_or, if_pos rfl] at hnf
        have HN := Aside0.mk hnf
        have HL := Aside0.mk hL
        clear hnf hL
        go_wp2_with (first | (go_at_call 71; (with_reducible refine (letter_c _ true HL.out _).mono ?_); rintro e w' ⟨rfl, ⟨nd, rfl⟩⟩))
        all_goals (try (exfalso; omega))
        all_goals go_roundw
        all_goals (try (case rel => exact ⟨pos + wd, f, blk_drewN hit2 _, HN.out, by omega, ⟨(by repeat (first | exact HI.out | apply pw_below_drewN | apply below_drew1))⟩⟩))
        all_goals (try (case measure => rw [hip, iterPos_of (blk_drewN hit2 _)]; omega))
      | false =>
        by_cases h0p : pos = 0
        · rw [hL, Bool.false_or, decide_eq_false (by simpa using h0p), Bool.false_and, if_neg (by decide)] at hnf
          subst hnf
          have HL := Aside0.mk hL
          have hp0 : ((pos : Int) == 0) = true := by rw [h0p]; rfl
          clear hL h0p
          go_wp2_with (first | (go_at_call 71; (with_reducible refine (letter_c _ false HL.out _).mono ?_); rintro e w' ⟨rfl, ⟨nd, rfl⟩⟩))
          all_goals (try (exfalso; omega))
          all_goals go_ret
          all_goals exact ⟨rfl, (by repeat (first | exact HI.out | apply pw_below_drewN | apply below_drew1))⟩
        · have hp0 : ((pos : Int) == 0) = false := beq_eq_false_iff_ne.2 (by omega)
          rw [hL, Bool.false_or, decide_eq_true (by simpa using h0p), Bool.true_and] at hnf
          have HL := Aside0.mk hL
          clear hL
          cases hD : digB ru with
          | true =>
            rw [hD, if_pos rfl] at hnf
            have HD := Aside0.mk hD
            have HN := Aside0.mk hnf
            clear hD hnf
            go_wp2_with (first | (go_at_call 71; (with_reducible refine (letter_c _ false HL.out _).mono ?_); rintro e w' ⟨rfl, ⟨nd, rfl⟩⟩) | (go_at_call 72; (with_reducible refine (digit_c _ true HD.out _).mono ?_); rintro e w' ⟨rfl, ⟨nd, rfl⟩⟩))
            all_goals (try (exfalso; omega))
            all_goals go_roundw
            all_goals (try (case rel => exact ⟨pos + wd, f, (by first | exact blk_drewN (blk_drewN hit2 _) _ | exact blk_drewN hit2 _), HN.out, by omega, ⟨(by repeat (first | exact HI.out | apply pw_below_drewN | apply below_drew1))⟩⟩))
            all_goals (try (case measure => rw [hip]; first | rw [iterPos_of (blk_drewN (blk_drewN hit2 _) _)] | rw [iterPos_of (blk_drewN hit2 _)]; omega))
          | false =>
            rw [hD, if_neg (by decide)] at hnf
            subst hnf
            have HD := Aside0.mk hD
            clear hD
            go_wp2_with (first | (go_at_call 71; (with_reducible refine (letter_c _ false HL.out _).mono ?_); rintro e w' ⟨rfl, ⟨nd, rfl⟩⟩) | (go_at_call 72; (with_reducible refine (digit_c _ false HD.out _).mono ?_); rintro e w' ⟨rfl, ⟨nd, rfl⟩⟩))
            all_goals (try (exfalso; omega))
            all_goals go_ret
            all_goals exact ⟨rfl, (by repeat (first | exact HI.out | apply pw_below_drewN | apply below_drew1))⟩
    · have hnx : ∀ ty, (Instr.next (.pointer (some ⟨w1.heap.size, 0, none⟩)) true ty).run Tryd.prog wr = _ := fun ty => Lib.run_next_end_at wr w1.heap.size s pos ty hit hp
      rw [nameFrom_end s f pos hp] at hnf
      subst hnf
      go_wp2
      all_goals (try (exfalso; omega))
      all_goals go_ret
      all_goals exact ⟨rfl, (by repeat (first | (with_reducible first | exact HB.out | apply below_alloc | apply pw_below_drewN | apply below_drew1) | exact HB.out))⟩
end Go.Proofs.YtimmomhgljofnaaDoor.Hand
