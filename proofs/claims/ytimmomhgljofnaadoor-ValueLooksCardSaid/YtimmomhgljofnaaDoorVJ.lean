/- Chapter 8: ValueLooks, walked. -/
import Derived.Test.YtimmomhgljofnaaDoorVI
import Derived.Deep.RegionLaw
import Derived.Deep.DeepCutAuto
import Derived.Deep.CutBlock
import Derived.Test.YtimmomhgljofnaaDoorVK
set_option linter.unusedVariables false
set_option linter.unusedSimpArgs false
namespace Go.Proofs.YtimmomhgljofnaaDoor.Hand
open Go.Proofs.YtimmomhgljofnaaDoor.PValueBad
open Go.RowKit Go.Proofs.YtimmomhgljofnaaDoorW.PrintWords Go.Proofs.YtimmomhgljofnaaDoorW.PrintLast Go.Proofs.YtimmomhgljofnaaDoorW.PrintMore
def BRow (w : World) (base : Nat) (v : Value) (B : List S55) : Prop := Kd.N k55 55 w base (fun k => base ≤ k) v B
theorem BRow.below {w w1 : World} {base : Nat} {v : Value} {B : List S55} (h : BRow w base v B) (hb : Below w.heap.size w w1) : BRow w1 base v B := Kd.N_below h hb
theorem BRow.C {w : World} {base n c : Nat} {A : Option Addr} {B : List S55} (h : BRow w base (.slice A n c) B) : Kd.C k55 w A B.length B := (Kd.N_reads' h).2.2
/-- The last one of a name among the first i: where, or -1. -/
def LastR (B : List S55) (name : ByteArray) (i : Nat) (v : Int) : Prop := (v = -1 ∧ ∀ (j : Nat) (y : S55), j < i → B[j]? = some y → isB name y = false) ∨ ∃ (m : Nat) (y : S55), v = (m : Int) ∧ m < i ∧ B[m]? = some y ∧ isB name y = true ∧ ∀ (j : Nat) (z : S55), m < j → j < i → B[j]? = some z → isB name z = false
theorem LastR.step {B : List S55} {name : ByteArray} {i : Nat} {v : Int} (h : LastR B name i v) {y : S55} (hy : B[i]? = some y) : (isB name y = true → LastR B name (i + 1) (i : Int)) ∧ (isB name y = false → LastR B name (i + 1) v) := by
  constructor
  · intro hb
    exact .inr ⟨i, y, rfl, by omega, hy, hb, fun j z h1 h2 _ => by omega⟩
  · intro hb
    rcases h with ⟨rfl, h⟩ | ⟨m, z, rfl, hm, hz, h1, h2⟩
    · refine .inl ⟨rfl, fun j x hj hx => ?_⟩
      by_cases e : j = i
      · subst e; rw [hy] at hx; rw [← Option.some.inj hx]; exact hb
      · exact h j x (by omega) hx
    · refine .inr ⟨m, z, rfl, by omega, hz, h1, fun j x hj hj2 hx => ?_⟩
      by_cases e : j = i
      · subst e; rw [hy] at hx; rw [← Option.some.inj hx]; exact hb
      · exact h2 j x hj (by omega) hx
theorem LastR.look {B : List S55} {name field : ByteArray} {v : Int} (h : LastR B name B.length v) : (v = -1 ∧ lookF B name field = (0, false)) ∨ ∃ (m : Nat) (y : S55), v = (m : Int) ∧ m < B.length ∧ B[m]? = some y ∧ lookF B name field = binF y field := by
  rcases h with ⟨rfl, h⟩ | ⟨m, y, rfl, hm, hy, hb, h⟩
  · refine .inl ⟨rfl, ?_⟩
    unfold lookF
    rw [lastB_none (fun j y hy => h j y (List.getElem?_eq_some_iff.1 hy).1 hy)]
  · refine .inr ⟨m, y, rfl, hm, hy, ?_⟩
    unfold lookF
    rw [lastB_at hy hb (fun j z hj hz => h j z hj (List.getElem?_eq_some_iff.1 hz).1 hz)]
theorem int_at {W : World} {ad : Addr} {n : Nat} {L : List Int} (h : Kd.C (Kd.int .i64) W (some ad) n L) (k : Nat) (x : Int) (hx : L[k]? = some x) : W.cell? (ad.add k) = some (.int .i64 x) := by
  obtain ⟨hk, _⟩ := List.getElem?_eq_some_iff.1 hx
  obtain ⟨ad', e, h1⟩ := Kd.at_int h (k : Int) (by omega) (by have := h.1; omega)
  have e' := Option.some.inj e
  subst e'
  rw [show rd L (k : Int) = x from by unfold rd; rw [Int.toNat_natCast, List.getD_eq_getElem?_getD, hx]; rfl, Int.toNat_natCast] at h1
  exact h1
theorem bind_at {W : World} {ad : Addr} {n : Nat} {L : List S55} (h : Kd.C k55 W (some ad) n L) (k : Nat) (x : S55) (hx : L[k]? = some x) : ∃ A1 c1 A2 c2, W.cell? (ad.add (k * 3)) = some (.string x.f0) ∧ W.cell? ⟨(ad.add (k * 3)).block, (ad.add (k * 3)).off + 1, none⟩ = some (.slice A1 x.f1.length c1) ∧ W.cell? ⟨(ad.add (k * 3)).block, (ad.add (k * 3)).off + 2, none⟩ = some (.slice A2 x.f2.length c2) ∧ x.f1.length ≤ c1 ∧ Kd.C Kd.string W A1 x.f1.length x.f1 ∧ x.f2.length ≤ c2 ∧ Kd.C (Kd.int .i64) W A2 x.f2.length x.f2 := by
  obtain ⟨hk, _⟩ := List.getElem?_eq_some_iff.1 hx
  obtain ⟨ad', A1, c1, A2, c2, e, h1⟩ := at_T55 h (k : Int) (by omega) (by have := h.1; omega)
  have e' := Option.some.inj e
  subst e'
  rw [show rd_T55 L (k : Int) = x from by unfold rd_T55; rw [Int.toNat_natCast, List.getD_eq_getElem?_getD, hx]; rfl, Int.toNat_natCast] at h1
  exact ⟨A1, c1, A2, c2, h1⟩
set_option maxHeartbeats 40000000 in
set_option maxRecDepth 100000 in
theorem looks_walk {W : World} {Al : Option Addr} {nl cl : Nat} {l : List Int} (name field cut : Int) (hv : Kd.C (Kd.int .i64) W Al nl l) (hvc : nl ≤ cl) (hvi : ∀ n ∈ l, InI n) (h_name : 0 ≤ name) (hn8 : name ≤ 255) (h_field : 0 ≤ field) (hf8 : field ≤ 255) (hcu : 0 ≤ cut) (hcu8 : cut ≤ 255) :
    Calls Tryd.prog 7 #[.slice Al nl cl, .int .u8 name, .int .u8 field, .int .u8 cut] W fun e w' => e = .returned (.bool true) ∧ Below W.heap.size W w' := by
  have HB := Aside0.mk (Below.refl W.heap.size W)
  have HL := Aside0.mk (Below.refl W.heap.size W)
  have HV := Aside0.mk hv
  clear hv
  go_enter Tryd.func7, Tryd.ntmps7
  go_upto_region 5 with (first | (go_at_call 9; (with_reducible refine (examples_c _).mono ?_); rintro e w1 ⟨rfl, hb⟩; have n0_ := Aside0.mk (below_step (by repeat (first | (with_reducible first | exact HB.out | apply below_alloc | apply pw_below_drewN | apply below_drew1) | exact HB.out)) hb); clear HB; have HB := n0_; clear n0_; have hs_ := below_step (by repeat (first | (with_reducible first | exact HL.out | apply below_alloc | apply pw_below_drewN | apply below_drew1) | exact HL.out)) hb; clear HL hs_ hb; have HL := Aside0.mk (Below.refl w1.heap.size w1); have HE := HB) | (go_at_call 12; (with_reducible refine (binds_e (Kd.C_below HV.out (by repeat (first | (with_reducible first | exact HB.out | apply below_alloc | apply pw_below_drewN | apply below_drew1) | exact HB.out))) hvc hvi cut hcu hcu8).mono ?_); rintro e w2 ⟨B, v0, rfl, hIB, h8, hN, hb⟩; have n0_ := Aside0.mk (below_step (by repeat (first | (with_reducible first | exact HB.out | apply below_alloc | apply pw_below_drewN | apply below_drew1) | exact HB.out)) hb); clear HB; have HB := n0_; clear n0_ hb HL; have HL := Aside0.mk (Below.refl w2.heap.size w2); obtain ⟨AB, cB, rfl, hcB, _⟩ := Kd.N_reads hN; have HN := Aside0.mk (show BRow w2 W.heap.size _ B from Kd.N_mono (Kd.N_lower hN (below_size HE.out)) (fun k hk => Nat.le_trans (below_size HE.out) hk)); clear hN HE))
  go_cut [11] (fun v11 wx => ∃ s : ByteArray, v11 = .string s ∧ Aside0 (Below W.heap.size W wx) ∧ Aside0 (BRow wx W.heap.size (.slice AB B.length cB) B))
  case first => as_aux_lemma =>
    have h3 : 0 ≤ name % 4 := by omega
    have h4 : name % 4 < 4 := by omega
    obtain ⟨s, hh, hs⟩ : ∃ (s : ByteArray) (hh : (name % 4).toNat < ([.string ⟨#[97]⟩, .string ⟨#[98]⟩, .string ⟨#[99]⟩, .string ⟨#[100]⟩] : List Value).length), ([.string ⟨#[97]⟩, .string ⟨#[98]⟩, .string ⟨#[99]⟩, .string ⟨#[100]⟩] : List Value)[(name % 4).toNat]'hh = .string s := by
      have key : ∀ j : Nat, j < 4 → ∃ (s : ByteArray) (hh : j < ([.string ⟨#[97]⟩, .string ⟨#[98]⟩, .string ⟨#[99]⟩, .string ⟨#[100]⟩] : List Value).length), ([.string ⟨#[97]⟩, .string ⟨#[98]⟩, .string ⟨#[99]⟩, .string ⟨#[100]⟩] : List Value)[j]'hh = .string s := by
        intro j hj
        rcases j with _ | _ | _ | _ | j
        · exact ⟨_, by decide, rfl⟩
        · exact ⟨_, by decide, rfl⟩
        · exact ⟨_, by decide, rfl⟩
        · exact ⟨_, by decide, rfl⟩
        · omega
      exact key _ (by omega)
    have HS := Aside0.mk hs
    clear hs
    go_wp2
    all_goals go_meet
    all_goals exact ⟨s, by first | rfl | exact HS.out, ⟨(by repeat (first | (with_reducible first | exact HB.out | apply below_alloc | apply pw_below_drewN | apply below_drew1) | exact HB.out))⟩, ⟨(BRow.below HN.out (by repeat (first | (with_reducible first | exact HL.out | apply below_alloc | apply pw_below_drewN | apply below_drew1) | exact HL.out)))⟩⟩
  case rest => as_aux_lemma =>
    clear HB HL HN
    obtain ⟨sn, rfl, HB, HN⟩ := hcut
    have HL := Aside0.mk (Below.refl wc.heap.size wc)
    go_upto_region 6 with fail
    go_cut [12] (fun v12 wx => ∃ s : ByteArray, v12 = .string s ∧ Aside0 (Below W.heap.size W wx) ∧ Aside0 (BRow wx W.heap.size (.slice AB B.length cB) B))
    case first => as_aux_lemma =>
      have h3 : 0 ≤ field % 4 := by omega
      have h4 : field % 4 < 4 := by omega
      obtain ⟨s, hh, hs⟩ : ∃ (s : ByteArray) (hh : (field % 4).toNat < ([.string ⟨#[107]⟩, .string ⟨#[120]⟩, .string ⟨#[121]⟩, .string ⟨#[122]⟩] : List Value).length), ([.string ⟨#[107]⟩, .string ⟨#[120]⟩, .string ⟨#[121]⟩, .string ⟨#[122]⟩] : List Value)[(field % 4).toNat]'hh = .string s := by
        have key : ∀ j : Nat, j < 4 → ∃ (s : ByteArray) (hh : j < ([.string ⟨#[107]⟩, .string ⟨#[120]⟩, .string ⟨#[121]⟩, .string ⟨#[122]⟩] : List Value).length), ([.string ⟨#[107]⟩, .string ⟨#[120]⟩, .string ⟨#[121]⟩, .string ⟨#[122]⟩] : List Value)[j]'hh = .string s := by
          intro j hj
          rcases j with _ | _ | _ | _ | j
          · exact ⟨_, by decide, rfl⟩
          · exact ⟨_, by decide, rfl⟩
          · exact ⟨_, by decide, rfl⟩
          · exact ⟨_, by decide, rfl⟩
          · omega
        exact key _ (by omega)
      have HS := Aside0.mk hs
      clear hs
      go_wp2
      all_goals go_meet
      all_goals exact ⟨s, by first | rfl | exact HS.out, ⟨(by repeat (first | (with_reducible first | exact HB.out | apply below_alloc | apply pw_below_drewN | apply below_drew1) | exact HB.out))⟩, ⟨(BRow.below HN.out (by repeat (first | (with_reducible first | exact HL.out | apply below_alloc | apply pw_below_drewN | apply below_drew1) | exact HL.out)))⟩⟩
    case rest => as_aux_lemma =>
      clear HB HL HN
      obtain ⟨sf, rfl, HB, HN⟩ := hcut
      have HL := Aside0.mk (Below.refl wc.heap.size wc)
      obtain ⟨⟨g, ok⟩, hlk⟩ : ∃ p, lookF B sn sf = p := ⟨_, rfl⟩
      have HLK := Aside0.mk hlk
      clear hlk
      go_upto_block 0 with (first | (go_at_call 27; (with_reducible refine (look_c (BRow.C (BRow.below HN.out (by repeat (first | (with_reducible first | exact HL.out | apply below_alloc | apply pw_below_drewN | apply below_drew1) | exact HL.out)))) sn sf g ok HLK.out).mono ?_); rintro e w3 ⟨rfl, hb⟩; have n0_ := Aside0.mk (below_step (by repeat (first | (with_reducible first | exact HB.out | apply below_alloc | apply pw_below_drewN | apply below_drew1) | exact HB.out)) hb); clear HB; have HB := n0_; clear n0_; have hs_ := below_step (by repeat (first | (with_reducible first | exact HL.out | apply below_alloc | apply pw_below_drewN | apply below_drew1) | exact HL.out)) hb; have n_ := Aside0.mk (BRow.below HN.out hs_); clear HN; have HN := n_; clear n_; clear HL hs_ hb; have HL := Aside0.mk (Below.refl w3.heap.size w3)))
      go_cut [15, 16] (fun v15 v16 wx => ∃ lv : Int, v15 = .int .i64 lv ∧ LastR B sn B.length lv ∧ Aside0 (Below W.heap.size W wx) ∧ Aside0 (BRow wx W.heap.size (.slice AB B.length cB) B))
      case first => as_aux_lemma =>
        go_wp2
        go_loopw [15, 16] (fun v15 v16 wr => ∃ (i : Nat) (lv : Int), v16 = .int .i64 (i : Int) ∧ i ≤ B.length ∧ v15 = .int .i64 lv ∧ LastR B sn i lv ∧ Aside0 (Below W.heap.size W wr) ∧ Aside0 (BRow wr W.heap.size (.slice AB B.length cB) B)) (fun _ v _ => B.length - (intOf v).toNat)
        case atStart => exact ⟨0, -1, rfl, by omega, rfl, .inl ⟨rfl, fun j y hj => by omega⟩, ⟨(by repeat (first | (with_reducible first | exact HB.out | apply below_alloc | apply pw_below_drewN | apply below_drew1) | exact HB.out))⟩, ⟨(BRow.below HN.out (by repeat (first | (with_reducible first | exact HL.out | apply below_alloc | apply pw_below_drewN | apply below_drew1) | exact HL.out)))⟩⟩
        case round =>
          clear HB HL HN
          obtain ⟨i, lv, rfl, hi, rfl, hlr, HB, HN⟩ := hrel
          have HL := Aside0.mk (Below.refl wr.heap.size wr)
          by_cases hlt : i < B.length
          · obtain ⟨y, hy⟩ : ∃ y, B[i]? = some y := ⟨B[i], List.getElem?_eq_getElem hlt⟩
            have hC := HN.out.C
            obtain ⟨ad, ea, _⟩ := hC.2.2 (by omega)
            subst ea
            obtain ⟨A1, c1, A2, c2, d0, d1, d2, _⟩ := bind_at hC i y hy
            obtain ⟨s1, s2⟩ := hlr.step hy
            have hil : (i : Int) < (B.length : Int) := by omega
            cases hb : isB sn y with
            | true =>
              have HS := Aside0.mk (s1 hb)
              have hb' : (y.f0.toList == sn.toList) = true := hb
              clear hlr s1 s2 hC hy hb
              go_wp2
              all_goals (try (exfalso; omega))
              all_goals go_roundw
              all_goals (try (case rel => first | exact ⟨i + 1, _, by go_num, by omega, rfl, HS.out, ⟨(by repeat (first | (with_reducible first | exact HB.out | apply below_alloc | apply pw_below_drewN | apply below_drew1) | exact HB.out))⟩, ⟨(BRow.below HN.out (by repeat (first | (with_reducible first | exact HL.out | apply below_alloc | apply pw_below_drewN | apply below_drew1) | exact HL.out)))⟩⟩ | ((repeat apply Exists.intro); exact ⟨⟨i + 1, _, by go_num, by omega, rfl, HS.out, ⟨(by repeat (first | (with_reducible first | exact HB.out | apply below_alloc | apply pw_below_drewN | apply below_drew1) | exact HB.out))⟩, ⟨(BRow.below HN.out (by repeat (first | (with_reducible first | exact HL.out | apply below_alloc | apply pw_below_drewN | apply below_drew1) | exact HL.out)))⟩⟩, rfl⟩)))
              all_goals (try (case measure => (simp [intOf] <;> omega)))
            | false =>
              have HS := Aside0.mk (s2 hb)
              have hb' : (y.f0.toList == sn.toList) = false := hb
              clear hlr s1 s2 hC hy hb
              go_wp2
              all_goals (try (exfalso; omega))
              all_goals go_roundw
              all_goals (try (case rel => first | exact ⟨i + 1, _, by go_num, by omega, rfl, HS.out, ⟨(by repeat (first | (with_reducible first | exact HB.out | apply below_alloc | apply pw_below_drewN | apply below_drew1) | exact HB.out))⟩, ⟨(BRow.below HN.out (by repeat (first | (with_reducible first | exact HL.out | apply below_alloc | apply pw_below_drewN | apply below_drew1) | exact HL.out)))⟩⟩ | ((repeat apply Exists.intro); exact ⟨⟨i + 1, _, by go_num, by omega, rfl, HS.out, ⟨(by repeat (first | (with_reducible first | exact HB.out | apply below_alloc | apply pw_below_drewN | apply below_drew1) | exact HB.out))⟩, ⟨(BRow.below HN.out (by repeat (first | (with_reducible first | exact HL.out | apply below_alloc | apply pw_below_drewN | apply below_drew1) | exact HL.out)))⟩⟩, rfl⟩)))
              all_goals (try (case measure => (simp [intOf] <;> omega)))
          · obtain rfl : i = B.length := by omega
            go_wp2
            all_goals (try (exfalso; omega))
            all_goals go_meet
            all_goals exact ⟨lv, rfl, hlr, HB, HN⟩
      case rest => as_aux_lemma =>
        clear HB HL HN
        obtain ⟨lv, rfl, hlr, HB, HN⟩ := hcut
        have HL := Aside0.mk (Below.refl wc.heap.size wc)
        rcases hlr.look (field := sf) with ⟨rfl, hlf⟩ | ⟨m, y, rfl, hm, hy, hlf⟩
        · rw [HLK.out] at hlf
          injection hlf with hg hok
          subst hg hok
          go_wp2
          all_goals (try (exfalso; omega))
          all_goals go_ret
          all_goals exact ⟨rfl, (by repeat (first | (with_reducible first | exact HB.out | apply below_alloc | apply pw_below_drewN | apply below_drew1) | exact HB.out))⟩
        · have hlf2 : (g, ok) = binF y sf := by rw [← HLK.out]; exact hlf
          have HF := Aside0.mk hlf2
          clear hlf hlf2 hlr
          have hC := HN.out.C
          obtain ⟨ad, ea, _⟩ := hC.2.2 (by omega)
          subst ea
          obtain ⟨A1, c1, A2, c2, d0, d1, d2, hl1, hC1, hl2, hC2⟩ := bind_at hC m y hy
          have HY := Aside0.mk hy
          clear hC hy
          have hm0 : (0 : Int) ≤ (m : Int) := by omega
          have hmB : (m : Int) < (B.length : Int) := by omega
          have hy1 := hC1.2.1
          unfold maxLen at hy1
          go_upto_block 2 with fail
          go_cut [17, 18] (fun v17 v18 wx => ∃ av : Int, v17 = .int .i64 av ∧ LeastR (fun q => sf.toList == q.toList) y.f1 0 av ∧ Aside0 (Below W.heap.size W wx) ∧ Aside0 (BRow wx W.heap.size (.slice (some ad) B.length cB) B))
          case first => as_aux_lemma =>
            go_wp2
            go_loopw [17, 18] (fun v17 v18 wr => ∃ (k : Nat) (av kv : Int), v18 = .int .i64 kv ∧ kv + 1 = (k : Int) ∧ k ≤ y.f1.length ∧ v17 = .int .i64 av ∧ LeastR (fun q => sf.toList == q.toList) y.f1 k av ∧ Aside0 (Below W.heap.size W wr) ∧ Aside0 (BRow wr W.heap.size (.slice (some ad) B.length cB) B)) (fun _ v _ => (intOf v + 1).toNat)
            case atStart => exact ⟨y.f1.length, -1, _, rfl, by omega, Nat.le_refl _, rfl, LeastR.start _ _, ⟨(by repeat (first | (with_reducible first | exact HB.out | apply below_alloc | apply pw_below_drewN | apply below_drew1) | exact HB.out))⟩, ⟨(BRow.below HN.out (by repeat (first | (with_reducible first | exact HL.out | apply below_alloc | apply pw_below_drewN | apply below_drew1) | exact HL.out)))⟩⟩
            case round =>
              clear HB HL HN d0 d1 d2 hC1 hC2
              obtain ⟨k, av, kv, rfl, hkv, hk, rfl, hle, HB, HN⟩ := hrel
              have HL := Aside0.mk (Below.refl wr.heap.size wr)
              rcases k with _ | k
              · obtain rfl : kv = -1 := by omega
                go_wp2
                all_goals (try (exfalso; omega))
                all_goals go_meet
                all_goals exact ⟨av, rfl, hle, HB, HN⟩
              · obtain rfl : kv = (k : Int) := by omega
                clear hkv
                obtain ⟨x, hx⟩ : ∃ x, y.f1[k]? = some x := ⟨y.f1[k], List.getElem?_eq_getElem (by omega)⟩
                obtain ⟨A3, c3, A4, c4, d0, d1, d2, hl3, hC3, _, _⟩ := bind_at HN.out.C m y HY.out
                obtain ⟨ad3, ea, _⟩ := hC3.2.2 (by omega)
                subst ea
                have e1 := str_at hC3 k x hx
                obtain ⟨s1, s2⟩ := hle.step hx
                have hk1 : (k : Int) < (y.f1.length : Int) := by omega
                cases hb : (sf.toList == x.toList) with
                | true =>
                  have HS := Aside0.mk (s1 hb)
                  have hb' : (x.toList == sf.toList) = true := by rw [Bool.beq_comm]; exact hb
                  clear hle s1 s2 hx hb hC3
                  go_wp2
                  all_goals (try (exfalso; omega))
                  all_goals go_roundw
                  all_goals (try (case rel => first | exact ⟨k, _, _, rfl, by omega, by omega, rfl, HS.out, ⟨(by repeat (first | (with_reducible first | exact HB.out | apply below_alloc | apply pw_below_drewN | apply below_drew1) | exact HB.out))⟩, ⟨(BRow.below HN.out (by repeat (first | (with_reducible first | exact HL.out | apply below_alloc | apply pw_below_drewN | apply below_drew1) | exact HL.out)))⟩⟩ | ((repeat apply Exists.intro); exact ⟨⟨k, _, _, rfl, by omega, by omega, rfl, HS.out, ⟨(by repeat (first | (with_reducible first | exact HB.out | apply below_alloc | apply pw_below_drewN | apply below_drew1) | exact HB.out))⟩, ⟨(BRow.below HN.out (by repeat (first | (with_reducible first | exact HL.out | apply below_alloc | apply pw_below_drewN | apply below_drew1) | exact HL.out)))⟩⟩, rfl⟩)))
                  all_goals (try (case measure => (simp [intOf] <;> omega)))
                | false =>
                  have HS := Aside0.mk (s2 hb)
                  have hb' : (x.toList == sf.toList) = false := by rw [Bool.beq_comm]; exact hb
                  clear hle s1 s2 hx hb hC3
                  go_wp2
                  all_goals (try (exfalso; omega))
                  all_goals go_roundw
                  all_goals (try (case rel => first | exact ⟨k, _, _, rfl, by omega, by omega, rfl, HS.out, ⟨(by repeat (first | (with_reducible first | exact HB.out | apply below_alloc | apply pw_below_drewN | apply below_drew1) | exact HB.out))⟩, ⟨(BRow.below HN.out (by repeat (first | (with_reducible first | exact HL.out | apply below_alloc | apply pw_below_drewN | apply below_drew1) | exact HL.out)))⟩⟩ | ((repeat apply Exists.intro); exact ⟨⟨k, _, _, rfl, by omega, by omega, rfl, HS.out, ⟨(by repeat (first | (with_reducible first | exact HB.out | apply below_alloc | apply pw_below_drewN | apply below_drew1) | exact HB.out))⟩, ⟨(BRow.below HN.out (by repeat (first | (with_reducible first | exact HL.out | apply below_alloc | apply pw_below_drewN | apply below_drew1) | exact HL.out)))⟩⟩, rfl⟩)))
                  all_goals (try (case measure => (simp [intOf] <;> omega)))
          case rest => as_aux_lemma =>
            clear HB HL HN d0 d1 d2 hC1 hC2
            obtain ⟨av, rfl, hle, HB, HN⟩ := hcut
            have HL := Aside0.mk (Below.refl wc.heap.size wc)
            have hidx := hle.idx
            clear hle
            obtain ⟨A3, c3, A4, c4, d0, d1, d2, hl3, hC3, hl4, hC4⟩ := bind_at HN.out.C m y HY.out
            have hf2 := hC4.2.1
            unfold maxLen at hf2
            have hr1 := idxB_range (fun q => sf.toList == q.toList) y.f1 0
            rw [hidx] at hr1
            by_cases hno : av < 0 ∨ (y.f2.length : Int) ≤ av
            · have e : (g, ok) = (0, false) := by rw [HF.out]; unfold binF; rw [hidx, if_pos hno]
              injection e with e1 e2
              subst e1 e2
              clear hidx
              by_cases hav : av < 0
              · go_wp2
                all_goals (try (exfalso; omega))
                all_goals go_ret
                all_goals exact ⟨rfl, (by repeat (first | (with_reducible first | exact HB.out | apply below_alloc | apply pw_below_drewN | apply below_drew1) | exact HB.out))⟩
              · go_wp2
                all_goals (try (exfalso; omega))
                all_goals go_ret
                all_goals exact ⟨rfl, (by repeat (first | (with_reducible first | exact HB.out | apply below_alloc | apply pw_below_drewN | apply below_drew1) | exact HB.out))⟩
            · obtain ⟨a, rfl⟩ : ∃ a : Nat, av = (a : Int) := ⟨av.toNat, by omega⟩
              obtain ⟨x, hx⟩ : ∃ x, y.f2[a]? = some x := ⟨y.f2[a]'(by omega), List.getElem?_eq_getElem (by omega)⟩
              have e : (g, ok) = (x, true) := by rw [HF.out]; unfold binF; rw [hidx, if_neg hno, Int.toNat_natCast, List.getD_eq_getElem?_getD, hx]; rfl
              injection e with e1 e2
              subst e1 e2
              clear hidx HLK HF
              have ha1 : (a : Int) < (y.f2.length : Int) := by omega
              have ha0 : (0 : Int) ≤ (a : Int) := by omega
              have hBl : B.length ≤ 8 := h8
              have HX := Aside0.mk hx
              have HBc := HB
              have HNc := HN
              clear hx hno hr1 hC3 hC4
              go_wp2_with (first | ((with_reducible refine gate_builtin (b := .append) (xs := #[.const (.slice none 0 0), .tmp 113]) rfl ?_); at_builtin; refine Kd.N_append_rows k55 (w0 := wc) wc.heap.size rfl (.const (.slice none 0 0)) (.tmp 113) 34 55 (.agg #[(.string ⟨#[]⟩), (.slice none 0 0), (.slice none 0 0)]) 64 rfl Tryd.underlying34 info55 rfl (by decide) (by omega) (.slice none 0 0) [] B (some ad) B.length cB (fun k => W.heap.size ≤ k) (fun k => W.heap.size ≤ k) rfl rfl (Kd.N_nil _ _ _ _ _) (Kd.N_F (Kd.N_below HN.out (by repeat (first | (with_reducible first | exact HL.out | apply below_alloc | apply pw_below_drewN | apply below_drew1) | exact HL.out)))) (fun k hk => ⟨hk, by simp [Value.ownBlock]⟩) (fun k hk => Nat.le_trans (below_size (by repeat (first | (with_reducible first | exact HB.out | apply below_alloc | apply pw_below_drewN | apply below_drew1) | exact HB.out))) hk) (by repeat (first | (with_reducible first | exact HL.out | apply below_alloc | apply pw_below_drewN | apply below_drew1) | exact HL.out)) (below_size (by repeat (first | (with_reducible first | exact HL.out | apply below_alloc | apply pw_below_drewN | apply below_drew1) | exact HL.out))) (by simp; omega) ?_; intro v1 w5 ho hb hg hat; rw [List.nil_append] at ho; clear HB HN HL; have HB := Aside0.mk (below_step HBc.out hb); have HN := Aside0.mk (BRow.below HNc.out hb); have HO := Aside0.mk ho; have HW := Aside0.mk hb; clear ho hb hg hat; have HL := Aside0.mk (Below.refl w5.heap.size w5)) | ((with_reducible refine gate_builtin (b := .append) (xs := #[.tmp 114, .tmp 117]) rfl ?_); at_builtin; refine Kd.N_append k55 (w0 := wc) wc.heap.size rfl (.tmp 114) (.tmp 117) 34 55 (.agg #[(.string ⟨#[]⟩), (.slice none 0 0), (.slice none 0 0)]) 64 rfl Tryd.underlying34 info55 rfl (by decide) (by omega) v1 B ⟨sn, [], []⟩ [.string sn, .slice none 0 0, .slice none 0 0] (fun k => W.heap.size ≤ k) (fun _ => False) rfl rfl (k55_mkF _ _ (⟨sn, [], []⟩ : S55) (Nat.le_refl _) (Kd.F_nil _ _ _) (Nat.le_refl _) (Kd.F_nil _ _ _)) (fun _ h => h.elim) (fun k hk => Nat.le_trans (below_size (by repeat (first | (with_reducible first | exact HB.out | apply below_alloc | apply pw_below_drewN | apply below_drew1) | exact HB.out))) hk) (Kd.N_below HO.out (by repeat (first | (with_reducible first | exact HL.out | apply below_alloc | apply pw_below_drewN | apply below_drew1) | exact HL.out))) (by repeat (first | (with_reducible first | exact HW.out | apply below_alloc | apply pw_below_drewN | apply below_drew1) | exact HW.out)) (below_size (by repeat (first | (with_reducible first | exact HW.out | apply below_alloc | apply pw_below_drewN | apply below_drew1) | exact HW.out))) (by omega) ?_; intro v2 w6 ho hb hg hat; clear HO; obtain ⟨A9, c9, rfl, hc9, hC9⟩ := Kd.N_reads ho; have HC9 := Aside0.mk (show Kd.C k55 w6 A9 (B.length + 1) (B ++ [⟨sn, [], []⟩]) from by rw [List.length_append] at hC9; exact hC9); clear HB HN HL HW; have HB := Aside0.mk (below_step HBc.out hb); have HN := Aside0.mk (BRow.below HNc.out hb); clear ho hb hg hat hC9; have HL := Aside0.mk (Below.refl w6.heap.size w6)) | (go_at_call 27; (with_reducible refine (look_c (Kd.C_below HC9.out (by repeat (first | (with_reducible first | exact HL.out | apply below_alloc | apply pw_below_drewN | apply below_drew1) | exact HL.out))) sn sf 0 false (look_more B sn sf)).mono ?_); rintro e w7 ⟨rfl, hb⟩; clear HC9; have n0_ := Aside0.mk (below_step (by repeat (first | (with_reducible first | exact HB.out | apply below_alloc | apply pw_below_drewN | apply below_drew1) | exact HB.out)) hb); clear HB; have HB := n0_; have hs_ := below_step (by repeat (first | (with_reducible first | exact HL.out | apply below_alloc | apply pw_below_drewN | apply below_drew1) | exact HL.out)) hb; clear hb HL; obtain ⟨A5, c5, A6, c6, d0, d1, d2, _, _, _, hC6⟩ := bind_at (BRow.below HN.out hs_).C m y HY.out; obtain ⟨ad6, ea, _⟩ := hC6.2.2 (by omega); subst ea; have e1 := int_at hC6 a g HX.out; clear HN hs_ hC6; have HL := Aside0.mk (Below.refl w7.heap.size w7)))
              all_goals (try (exfalso; omega))
              all_goals go_ret
              all_goals exact ⟨rfl, (by repeat (first | (with_reducible first | exact HB.out | apply below_alloc | apply pw_below_drewN | apply below_drew1) | exact HB.out))⟩
end Go.Proofs.YtimmomhgljofnaaDoor.Hand
