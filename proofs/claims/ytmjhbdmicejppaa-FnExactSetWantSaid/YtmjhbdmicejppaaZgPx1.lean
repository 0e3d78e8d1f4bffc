import Derived.Test.YtmjhbdmicejppaaZgPx0
namespace Go.Proofs.Ytmjhbdmicejppaa.Px
open Go.RowKit Go.Proofs.YtmjhbdmicejppaaW.PrintWords Go.Proofs.YtmjhbdmicejppaaW.PrintLast Go.Proofs.YtmjhbdmicejppaaW.PrintMore
attribute [local go_sem] max2_int min2_int max_two min_two max_three min_three max_four min_four   
set_option linter.unusedVariables false
set_option linter.unusedSimpArgs false
mutual
def impl_areIndexes.l0 : Nat → List Int → Int → List Int → Int → Int → Option (Bool)
 | 0, _, _, _, _, _ => none
 | k + 1, x0, x1, x7, x8, x9 => if x9 < x8 then (if 0 ≤ x9 then (if x9 < (x7.length : Int) then (if (rd x7 x9) < 0 then (impl_areIndexes.j1 k x0 x1 x7 x8 x9 true) else (if (rd x7 x9) ≥ x1 then (impl_areIndexes.j1 k x0 x1 x7 x8 x9 true) else (if x9 > 0 then (if 0 ≤ (wrap64 (x9 - 1)) then (if (wrap64 (x9 - 1)) < (x0.length : Int) then (impl_areIndexes.j1 k x0 x1 x7 x8 x9 (decide ((rd x0 (wrap64 (x9 - 1))) ≥ (rd x7 x9)))) else (none)) else (none)) else (impl_areIndexes.j1 k x0 x1 x7 x8 x9 false)))) else (none)) else (none)) else (some true)
def impl_areIndexes.j1 : Nat → List Int → Int → List Int → Int → Int → Bool → Option (Bool)
 | 0, _, _, _, _, _, _ => none
 | k + 1, x0, x1, x7, x8, x9, x33 => if x33 = true then (some false) else (impl_areIndexes.l0 k x0 x1 x7 x8 (wrap64 (x9 + 1)))
end
def impl_areIndexes.f (k : Nat) (l0 : List Int) (a1 : Int) : Option (Bool) := impl_areIndexes.l0 k l0 a1 l0 (l0.length : Int) 0
set_option maxHeartbeats 8000000 in
set_option maxRecDepth 100000 in
theorem impl_areIndexes.calls (k : Nat) (A0 : Option Addr) (c0 : Nat) (l0 : List Int) (a1 : Int) (r : Bool) (w : World) (hr0 : Kd.C (Kd.int .i64) w A0 l0.length l0) (hc0 : l0.length ≤ c0) (h : impl_areIndexes.f k l0 a1 = some r) :
  Calls Try.prog 63 #[.slice A0 l0.length c0, .int .i64 a1] w fun e w' => e = .returned (.bool r) ∧ Drawn0 w w' := by
 have HR0 := zK hr0; have HC0 := zK hc0; clear hr0 hc0
 have H : (impl_areIndexes.l0 k l0 a1 l0 (l0.length : Int) 0) = some r := h
 clear h; have H' := zK H; clear H
 go_enter Try.func63, Try.ntmps63
 go_wp2
 go_loopg [9] k (fun kq v9 w' => ∃ (aa : Int), v9 = .int .i64 aa ∧ Aside0 (impl_areIndexes.l0 kq l0 a1 l0 (l0.length : Int) aa = some r) ∧ Aside0 (kq ≤ k) ∧ Drawn0 w w')
 case atStart => exact ⟨(0), zf, H', ⟨Nat.le_refl _⟩, by repeat (first | exact Drawn0.refl _ | apply Drawn0.step)⟩
 case round =>
  clear H'
  obtain ⟨aa, rfl, HA, ak, ⟨m1, rfl⟩⟩ := hrel
  cases gk with
  | zero => exact absurd HA.out (by simp [impl_areIndexes.l0])
  | succ k1 =>
   have H := HA.out; clear HA
   simp only [impl_areIndexes.l0] at H
   by_cases c3 : aa < (l0.length : Int)
   ·rw [if_pos c3] at H
    have al : decide (aa < (l0.length : Int)) = true := decide_eq_true c3
    clear c3
    by_cases c4 : 0 ≤ aa
    ·rw [if_pos c4] at H
     have c4b0 : decide (0 ≤ aa) = true := decide_eq_true c4
     clear c4
     by_cases c5 : aa < (l0.length : Int)
     ·rw [if_pos c5] at H
      have c5b0 : decide (aa < (l0.length : Int)) = true := decide_eq_true c5
      clear c5; have HC6 := zK H; clear H
      have af : 0 ≤ (aa : Int) := zd
      have ag : aa < (l0.length : Int) := zd
      obtain ⟨am, e191, ah⟩ := Kd.at_int HR0.out aa af ag
      cases e191
      replace af := eq_true af; replace ag := eq_true ag
      go_upto_region 4 with (fail)
      go_cut [33] (fun v33 wc => ∃ (kq : Nat) (ac : Bool), v33 = .bool ac ∧ Aside0 (impl_areIndexes.j1 kq l0 a1 l0 (l0.length : Int) aa ac = some r) ∧ Aside0 (kq ≤ k1) ∧ Drawn0 w wc)
      case first =>
       have H := HC6.out; clear HC6
       by_cases c7 : (rd l0 aa) < 0
       ·rw [if_pos c7] at H
        have ae : decide ((rd l0 aa) < 0) = true := decide_eq_true c7
        clear c7
        (first | rw [ae] | (simp only [i64_w, i32_w]; rw [ae]) | skip)
        have H' := zK H; clear H
        go_wp2
        go_meet
        case rel => exact ⟨_, (true), zf, H', ⟨by have := ak.out; first | omega | exact Nat.le_refl _⟩, by repeat (first | exact Drawn0.refl _ | apply Drawn0.step)⟩
       ·rw [if_neg c7] at H
        have ae : decide ((rd l0 aa) < 0) = false := decide_eq_false c7
        clear c7
        (first | rw [ae] | (simp only [i64_w, i32_w]; rw [ae]) | skip)
        by_cases c8 : (rd l0 aa) ≥ a1
        ·rw [if_pos c8] at H
         have c8b0 : decide (a1 ≤ (rd l0 aa)) = true := decide_eq_true c8
         clear c8; have H' := zK H; clear H
         go_wp2
         go_meet
         case rel => exact ⟨_, (true), zf, H', ⟨by have := ak.out; first | omega | exact Nat.le_refl _⟩, by repeat (first | exact Drawn0.refl _ | apply Drawn0.step)⟩
        ·rw [if_neg c8] at H
         have c8b0 : decide (a1 ≤ (rd l0 aa)) = false := decide_eq_false c8
         clear c8
         by_cases c9 : aa > 0
         ·rw [if_pos c9] at H
          have c9b0 : decide (0 < aa) = true := decide_eq_true c9
          clear c9
          obtain ⟨ab, ad⟩ : ∃ j_ : Int, (wrap64 (aa - 1)) = j_ := ⟨_, rfl⟩
          replace H : (if 0 ≤ (ab) then (if (ab) < (l0.length : Int) then (impl_areIndexes.j1 k1 l0 a1 l0 (l0.length : Int) aa (decide ((rd l0 (ab)) ≥ (rd l0 aa)))) else (none)) else (none)) = some r := by first | (rw [ad] at H; exact H) | (simp only [ad] at H ⊢; exact H)
          have hji10w : (IntKind.i64.wrap (aa - 1)) = ab := (i64_w _).trans ad
          by_cases c11 : 0 ≤ (ab)
          ·rw [if_pos c11] at H
           have c11b0 : decide (0 ≤ (ab)) = true := decide_eq_true c11
           clear c11
           by_cases c12 : (ab) < (l0.length : Int)
           ·rw [if_pos c12] at H
            have c12b0 : decide ((ab) < (l0.length : Int)) = true := decide_eq_true c12
            clear c12; have H' := zK H; clear H
            have ai : 0 ≤ ((ab) : Int) := zd
            have aj : (ab) < (l0.length : Int) := zd
            obtain ⟨an, e192, hx192_0⟩ := Kd.at_int HR0.out (ab) ai aj
            obtain rfl : am = an := (by injection e192)
            replace ai := eq_true ai; replace aj := eq_true aj
            go_wp2
            go_meet
            case rel => exact ⟨_, (decide ((rd l0 (ab)) ≥ (rd l0 aa))), (by first | rfl | (simp; done) | (simp only [← ad] <;> (first | rfl | simp)) | (simp [*]; done)), H', ⟨by have := ak.out; first | omega | exact Nat.le_refl _⟩, by repeat (first | exact Drawn0.refl _ | apply Drawn0.step)⟩
           ·rw [if_neg c12] at H
            exact absurd H (by simp)
          ·rw [if_neg c11] at H
           exact absurd H (by simp)
         ·rw [if_neg c9] at H
          have c9b0 : decide (0 < aa) = false := decide_eq_false c9
          clear c9; have H' := zK H; clear H
          go_wp2
          go_meet
          case rel => exact ⟨_, (false), zf, H', ⟨by have := ak.out; first | omega | exact Nat.le_refl _⟩, by repeat (first | exact Drawn0.refl _ | apply Drawn0.step)⟩
      case rest =>
       clear HC6 al c4b0 c5b0 ah af ag
       obtain ⟨kq, ac, rfl, HA, HJ5, ⟨mc5, rfl⟩⟩ := hcut
       cases kq with
       | zero => exact absurd HA.out (by simp [impl_areIndexes.j1])
       | succ kj5 =>
        have H := HA.out; clear HA
        simp only [impl_areIndexes.j1] at H
        by_cases c13 : ac = true
        ·subst c13
         have H1 : (some false) = some r := by rw [if_pos rfl] at H; exact H
         clear H; have H := H1; clear H1; obtain rfl := Option.some.inj H
         go_wp2
         go_ret
         exact ⟨by first | rfl | (simp; done) | (simp [*]; done), by repeat (first | exact Drawn0.refl _ | apply Drawn0.step)⟩
        ·replace c13 := Bool.eq_false_iff.mpr c13
         subst c13
         have H1 : (impl_areIndexes.l0 kj5 l0 a1 l0 (l0.length : Int) (wrap64 (aa + 1))) = some r := by rw [if_neg (show ¬ (false = true) by decide)] at H; exact H
         clear H; have H := H1; clear H1; have H' := zK H; clear H
         go_wp2
         go_roundg kj5
         case measure => have := ak.out; have := HJ5.out; omega
         case rel => exact ⟨(wrap64 (aa + 1)), zf, H', ⟨by have := ak.out; have := HJ5.out; omega⟩, by repeat (first | exact Drawn0.refl _ | apply Drawn0.step)⟩
     ·rw [if_neg c5] at H
      exact absurd H (by simp)
    ·rw [if_neg c4] at H
     exact absurd H (by simp)
   ·rw [if_neg c3] at H
    have al : decide (aa < (l0.length : Int)) = false := decide_eq_false c3
    clear c3; obtain rfl := Option.some.inj H
    go_wp2
    go_ret
    exact ⟨by first | rfl | (simp; done) | (simp [*]; done), by repeat (first | exact Drawn0.refl _ | apply Drawn0.step)⟩
def slices_Clone_int_int.f (l0 : List Int) : Option (List Int) := if l0.length * 8 ≤ 140737488355328 then (some l0) else (none)
set_option maxHeartbeats 4000000 in
set_option maxRecDepth 100000 in
theorem slices_Clone_int_int.calls (A0 : Option Addr) (c0 : Nat) (l0 : List Int) (r : List Int) (w : World) (aa : Kd.C (Kd.int .i64) w A0 l0.length l0) (hc0 : l0.length ≤ c0) (h : slices_Clone_int_int.f l0 = some r) :
  Calls Try.prog 58 #[.slice A0 l0.length c0] w fun e w' => ∃ v0_ : Value, e = .returned (v0_) ∧ Kd.R (Kd.int .i64) 3 w' w.heap.size (fun _ => True) v0_ r ∧ Below w.heap.size w w' := by
 unfold slices_Clone_int_int.f at h
 by_cases hb : l0.length * 8 ≤ 140737488355328
 ·rw [if_pos hb] at h
  obtain rfl := Option.some.inj h
  have q : ∀ (w : World) (a : Option Addr) (n c n' c' : Nat), (binOp .eql 24 (.slice a n c) (.slice none n' c')).run Try.prog w = .ok (.bool a.isNone) w := fun w a n c n' c' => Lib.run_eql_slice_nil w _ _ a n c n' c' Try.underlying24
  cases A0 with
  | none =>
   have hl : l0 = [] := by
    cases l0 with
    | nil => rfl
    | cons x t => obtain ⟨ad, e, _⟩ := aa.2.2 (by simp); cases e
   subst hl; clear aa hc0 h hb
   go_enter Try.func58, Try.ntmps58
   go_wp2
   go_ret
   exact ⟨_, rfl, Kd.R_nil _ _ _ _ _, Below.refl _ _⟩
  | some ad =>
   obtain ⟨news, hnr, hnc⟩ := ReadsRow.inner_ aa
   obtain ⟨i0, hi, hz0, hz1, hz2⟩ : ∃ i0, Try.prog.info? 3 = some i0 ∧ i0.zero = some ((.int .i64 0)) ∧ i0.size = 1 ∧ i0.bytes = 8 := by
    have hx : (Try.prog.info? 3).map (fun i => (i.zero, i.size, i.bytes)) = some (some ((.int .i64 0)), 1, 8) := by kernel_rfl
    cases hh : Try.prog.info? 3 with
    | none => rw [hh] at hx; cases hx
    | some i =>
     rw [hh] at hx
     have hx1 := Option.some.inj hx
     exact ⟨i, rfl, congrArg Prod.fst hx1, congrArg (fun y => y.2.1) hx1, congrArg (fun y => y.2.2) hx1⟩
   have hone : ∀ u ∈ news, u.oneCell' = true := by
    intro u hu
    obtain ⟨j, hj, rfl⟩ := List.getElem_of_mem hu
    have hlen := hnr.1
    have hq : j / 1 < l0.length := by
     have : j < l0.length * 1 := by rw [← show ((Kd.int .i64)).sz = 1 from rfl]; omega
     omega
    refine ((Kd.int .i64)).K_one (hnr.2 (j / 1) _ (List.getElem?_eq_getElem hq)) _ ?_
    refine List.mem_of_getElem? (i := j % 1) ?_
    rw [show ((Kd.int .i64)).sz = 1 from rfl, List.getElem?_take, if_pos (by omega), List.getElem?_drop, show j / 1 * 1 + j % 1 = j by omega, List.getElem?_eq_getElem hj]
   have hlen : news.length = l0.length * 1 := hnr.1
   have hmax : l0.length ≤ maxLen := aa.2.1
   have X := zK (show (∀ j u, news[j]? = some u → w.cell? (ad.add j) = some u) ∧ Reps (Kd.K (Kd.int .i64) w) (Kd.sz (Kd.int .i64)) l0 news from ⟨hnc, hnr⟩)
   clear hnc hnr aa h
   go_enter Try.func58, Try.ntmps58
   go_wp2_with (at_builtin; refine wpList_append_own _ rfl _ _ 24 rfl w.heap.size 3 i0 ((.int .i64 0)) 1 8 Try.underlying24 hi hz0 hz1 hz2 rfl (by decide) _ _ _ rfl (World.ownsRow_made w #[] 0 (Nat.le_refl _) (Nat.zero_le _) (by simp)) ad l0.length c0 news rfl ?qc1 ?qc2 ?qc3 ?qc4 ?qc5 ?qc6 ?_)
   case qc1 => exact hlen
   case qc2 =>
    intro j u hj
    exact Lib.cell?_alloc_some _ (X.out.1 j u hj)
   case qc3 => exact hone
   case qc4 => rw [Nat.zero_add]; exact hmax
   case qc5 => rw [Nat.zero_add]; exact hb
   case qc6 => simp
   intro v' w1 hown hgrow hnil
   go_wp2
   go_ret
   have hown2 : w1.ownsRow w.heap.size 3 1 v' l0.length news := by simpa using hown
   refine ⟨v', rfl, ⟨fun _ _ => trivial, news, hown2, X.out.2.imp_ (fun _ _ hp => hp)⟩, ?_⟩
   exact ((Below.refl _ w).alloc (Nat.le_refl _) _).grown hgrow (by simp) (by intro k hk; simp [Value.ownBlock] at hk; omega)
 ·rw [if_neg hb] at h
  cases h
def impl_bagsOf_1.f (a0 : Int) : Option (Bool) := some (a0 == 0)
set_option maxHeartbeats 8000000 in
set_option maxRecDepth 100000 in
theorem impl_bagsOf_1.calls (a0 : Int) (r : Bool) (w : World) (h : impl_bagsOf_1.f a0 = some r) :
  Calls Try.prog 93 #[.int .i64 a0] w fun e w' => e = .returned (.bool r) ∧ Drawn0 w w' := by
 have H : (some (a0 == 0)) = some r := h
 clear h; obtain rfl := Option.some.inj H
 go_enter Try.func93, Try.ntmps93
 go_wp2
 go_ret
 exact ⟨by first | rfl | (simp; done) | (simp [*]; done), by repeat (first | exact Drawn0.refl _ | apply Drawn0.step)⟩
set_option maxHeartbeats 2000000 in
set_option maxRecDepth 100000 in
theorem idxF92 (g : Nat) (lb : Array Value) (eg : ∀ args w, (callFunc g args).run Try.prog w = .ok (.enter g args) w) (A : Option Addr) (c : Nat) (l : List Int) (p : Int → Bool) (w : World)
  (hr : Kd.C (Kd.int .i64) w A l.length l)
  (hp : ∀ (W : World) (x : Int), x ∈ l → Below w.heap.size w W → Calls Try.prog g (#[.int .i64 x] ++ lb) W fun e w' => e = .returned (.bool (p x)) ∧ Below W.heap.size W w') :
  Calls Try.prog 92 #[.slice A l.length c, .func (.func g) #[] lb] w fun e w' => e = .returned (.int .i64 (Opens.idxB p l)) ∧ Below w.heap.size w w' := by
 have hbig : l.length ≤ 9223372036854775807 := hr.2.1
 have HBIG := zK hbig; have HP := zK hp; have HR := zK hr; clear hp hr
 go_enter Try.func92, Try.ntmps92
 go_wp2
 go_loopg [5, 8] l.length (fun gg _ s8 wr => ∃ kk : Nat, kk ≤ l.length ∧ l.length - kk ≤ gg ∧ s8 = .int .i64 kk ∧ Aside0 (Below w.heap.size w wr) ∧ Aside0 (∀ j (hj : j < l.length), j < kk → p l[j] = false))
 case atStart => exact ⟨0, Nat.zero_le _, by omega, rfl, ⟨Below.refl _ w⟩, ⟨fun j _ hj => absurd hj (Nat.not_lt_zero _)⟩⟩
 case round =>
  obtain ⟨kk, hkk, hg, rfl, BW, AL⟩ := hrel
  by_cases hlt : kk < l.length
  ·have hltz : (kk : Int) < (l.length : Int) := by omega
   obtain ⟨ad, rfl, hcell0⟩ := Kd.at_int HR.out (kk : Int) (by omega) (by omega)
   replace hcell0 := (BW.out.cell (World.block_lt_of_cell? w _ hcell0)).trans hcell0
   have hrd : rd l (kk : Int) = l[kk] := by simp [rd, hlt]
   rw [Int.toNat_natCast] at hcell0
   simp only [hrd] at hcell0
   have hcall := HP.out wr l[kk] (List.getElem_mem hlt) BW.out
   generalize hy : l[kk] = y at hcell0 hcall
   have B := zK hy; clear hy hrd
   have hk0 : 0 ≤ (kk : Int) := by omega
   cases hq : p y with
   | true =>
    rw [hq] at hcall
    go_wp2_with (go_at_fn g; refine hcall.mono ?_; rintro e w' ⟨rfl, hb'⟩)
    go_ret
    refine ⟨?_, below_step BW.out hb'⟩
    rw [Opens.idxB_hit p l kk hlt (by rw [B.out]; exact hq) (fun j hj => AL.out j (by omega) hj)]
    rfl
   | false =>
    rw [hq] at hcall
    go_wp2_with (go_at_fn g; refine hcall.mono ?_; rintro e w' ⟨rfl, hb'⟩)
    go_roundg (l.length - (kk + 1))
    case measure => omega
    case rel =>
     refine ⟨kk + 1, by omega, by omega, by go_num, ⟨below_step BW.out hb'⟩, ⟨fun j hj' hj => ?_⟩⟩
     by_cases e : j = kk
     ·subst e
      rw [B.out]; exact hq
     ·exact AL.out j hj' (by omega)
  ·have hltz : ¬ (kk : Int) < (l.length : Int) := by omega
   go_wp2
   go_ret
   refine ⟨?_, BW.out⟩
   rw [Opens.idxB_miss p l (fun j hj => AL.out j hj (by omega))]
   rfl
theorem del_own {w : World} {base e : Nat} {v : Value} {l : List Int} (ho : Kd.R (Kd.int .i64) e w base (fun _ => True) v l) : w.ownsRow base e 1 v l.length (l.map (Value.int .i64)) := by
 obtain ⟨_, inner, ho, hreps⟩ := ho
 have hin : inner = l.map (Value.int .i64) := by
  apply List.ext_getElem?
  intro j
  rw [List.getElem?_map]
  by_cases hj : j < l.length
  ·have h2 := hreps.2 j _ (List.getElem?_eq_getElem hj)
   have h3 : (inner.drop (j * 1)).take 1 = [Value.int .i64 l[j]] := h2
   have h4 := congrArg (fun z => z[0]?) h3
   simp only [Nat.mul_one, List.getElem?_take, List.getElem?_drop, Nat.add_zero, List.getElem?_cons_zero] at h4
   rw [List.getElem?_eq_getElem hj]
   simpa using h4
  ·have h1 : inner.length = l.length * 1 := hreps.1
   rw [List.getElem?_eq_none (by omega), List.getElem?_eq_none (by omega)]
   rfl
 subst hin
 exact ho
theorem del_R {w : World} {base e n : Nat} {v : Value} {l : List Int} (hn : n = l.length) (ho : w.ownsRow base e 1 v n (l.map (Value.int .i64))) : Kd.R (Kd.int .i64) e w base (fun _ => True) v l := by
 subst hn
 exact Kd.R_of_own (enc := Value.int .i64) (h1 := fun _ => rfl) ho (fun _ _ => trivial)
structure DelInv (p : Int → Bool) (l dk : List Int) (jj kk : Nat) : Prop where
 size : dk.length = l.length
 lt : kk < jj
 le : jj ≤ l.length
 low : dk.take kk = (l.take jj).filter (fun z => !p z)
 high : dk.drop jj = l.drop jj
theorem DelInv.start {p : Int → Bool} {l : List Int} {i : Nat} (hi : i < l.length) (hp : p l[i] = true) (ha : ∀ j (hj : j < i), p l[j] = false) : DelInv p l l (i + 1) i where
 size := rfl
 lt := Nat.lt_succ_self _
 le := hi
 low := by
  rw [List.take_succ_eq_append_getElem hi, List.filter_append]
  have e1 : [l[i]].filter (fun z => !p z) = [] := by simp [hp]
  have e2 : (l.take i).filter (fun z => !p z) = l.take i := by
   apply List.filter_eq_self.2
   intro x hx
   obtain ⟨j, hj, rfl⟩ := List.getElem_of_mem hx
   rw [List.length_take] at hj
   rw [List.getElem_take, ha j (by omega)]
   rfl
  rw [e1, e2, List.append_nil]
 high := rfl
theorem DelInv.kklen {p : Int → Bool} {l dk : List Int} {jj kk : Nat} (h : DelInv p l dk jj kk) : ((l.take jj).filter (fun z => !p z)).length = kk := by
 rw [← h.low, List.length_take, h.size]
 have := h.lt; have := h.le
 omega
theorem DelInv.at {p : Int → Bool} {l dk : List Int} {jj kk : Nat} (h : DelInv p l dk jj kk) (hj : jj < l.length) : dk.getD jj 0 = l[jj] := by
 have e := congrArg (fun z => z[0]?) h.high
 simp only [List.getElem?_drop, Nat.add_zero] at e
 rw [List.getD_eq_getElem?_getD, e, List.getElem?_eq_getElem hj]
 rfl
theorem DelInv.skip {p : Int → Bool} {l dk : List Int} {jj kk : Nat} (h : DelInv p l dk jj kk) (hj : jj < l.length) (hp : p l[jj] = true) : DelInv p l dk (jj + 1) kk where
 size := h.size
 lt := by have := h.lt; omega
 le := hj
 low := by
  rw [List.take_succ_eq_append_getElem hj, List.filter_append, h.low]
  simp [hp]
 high := by
  have e := congrArg (List.drop 1) h.high
  rw [List.drop_drop, List.drop_drop] at e
  exact e
theorem DelInv.keep {p : Int → Bool} {l dk : List Int} {jj kk : Nat} (h : DelInv p l dk jj kk) (hj : jj < l.length) (hp : p l[jj] = false) : DelInv p l (dk.set kk l[jj]) (jj + 1) (kk + 1) where
 size := by rw [List.length_set]; exact h.size
 lt := by have := h.lt; omega
 le := hj
 low := by
  have hlt := h.lt; have hsz := h.size
  rw [List.take_succ_eq_append_getElem hj, List.filter_append]
  have e1 : [l[jj]].filter (fun z => !p z) = [l[jj]] := by simp [hp]
  rw [e1, ← h.low, List.take_succ_eq_append_getElem (by rw [List.length_set]; omega), List.getElem_set_self, List.take_set_of_le (Nat.le_refl _)]
 high := by
  have hlt := h.lt
  have e := congrArg (List.drop 1) h.high
  rw [List.drop_drop, List.drop_drop] at e
  rw [List.drop_set_of_lt (by omega)]
  exact e
open Go.Sort in
theorem del_step {w : World} {base e g cap : Nat} {dk : List Int} (ho : w.ownsRow base e 1 (.slice (some ⟨g, 0, none⟩) dk.length cap) dk.length (dk.map (Value.int .i64))) (kk : Nat) (hk : kk < dk.length) (x : Int) :
  (w.setCell ⟨g, kk, none⟩ (.int .i64 x)).ownsRow base e 1 (.slice (some ⟨g, 0, none⟩) dk.length cap) dk.length ((dk.set kk x).map (Value.int .i64)) := by
 obtain ⟨g', cap', he, hb, hgl, hn, hm, hl, hH⟩ := Lib.holds_of_ownsRow ho (by simp)
 injection he with he1 _ he3
 injection he1 with he1
 injection he1 with he1
 subst he1
 have e1 : w = putRow (Value.int .i64) (Sort.ahead w 0) g 0 dk.toArray := (putRow_self (Value.int .i64) w g 0 dk.toArray hH).symm
 have e2 : w.setCell ⟨g, 0 + kk, none⟩ (.int .i64 x) = putRow (Value.int .i64) (Sort.ahead w 0) g 0 (dk.toArray.setIfInBounds kk x) := by
  have := putRow_set (Value.int .i64) (Sort.ahead w 0) g 0 dk.toArray kk x (by simpa using hk)
  rw [← e1] at this
  exact this
 rw [Nat.zero_add] at e2
 rw [e2]
 have h2 := Lib.ownsRow_putRow (q := 0) (k := dk.length) (ys := dk.set kk x) ho (by simp) (Nat.le_refl _)
 rw [List.take_of_length_le (by simp)] at h2
 simpa using h2
theorem del_first {p : Int → Bool} : ∀ (l : List Int), (¬ ∀ x ∈ l, p x = false) → ∃ i, ∃ h : i < l.length, p l[i] = true ∧ ∀ j (hj : j < i), p (l[j]'(by omega)) = false
 | [], h => absurd (fun x hx => by cases hx) h
 | x :: r, h => by
  by_cases hx : p x = true
  ·exact ⟨0, by simp, hx, fun j hj => by omega⟩
  ·have hx' : p x = false := by simpa using hx
   obtain ⟨i, hi, h1, h2⟩ := del_first r (fun hh => h (fun y hy => by
    rcases List.mem_cons.1 hy with e | e
    ·rw [e]; exact hx'
    ·exact hh y e))
   refine ⟨i + 1, by simpa using hi, by simpa using h1, fun j hj => ?_⟩
   cases j with
   | zero => exact hx'
   | succ j => exact h2 j (by omega)
theorem del_grown {w wr : World} {b kk : Nat} {v : Value} (h : w.grownBy wr (some b)) : w.grownBy (wr.setCell ⟨b, kk, none⟩ v) (some b) :=
 ⟨h.os, h.tape, h.output, by simpa [World.setCell] using h.size, fun k hk hne => by
  rw [← h.block k hk hne]
  have hb : b ≠ k := fun e => hne (by rw [e])
  simp [World.setCell, Array.getElem?_modify, hb]⟩
theorem del_lay : ∀ (xs : List Int) (d : Array Int) (k : Nat), (Lib.lay d k xs).size = d.size
 | [], _, _ => rfl
 | x :: r, d, k => by rw [Lib.lay, del_lay r]; simp
open Go.Sort in
theorem del_cells {wr : World} {b : Nat} {dk : List Int} (hH : Holds (Value.int .i64) wr b 0 dk.toArray) (kk n : Nat) (h : kk + n ≤ dk.length) :
  wr.setCells b kk (List.replicate n (Value.int .i64 0)) = putRow (Value.int .i64) (Sort.ahead wr 0) b 0 (Lib.lay dk.toArray kk (List.replicate n 0)) := by
 have e1 : wr = putRow (Value.int .i64) (Sort.ahead wr 0) b 0 dk.toArray := (putRow_self (Value.int .i64) wr b 0 dk.toArray hH).symm
 have e2 := Lib.putRow_setCells (Value.int .i64) (Sort.ahead wr 0) b 0 (List.replicate n 0) dk.toArray kk (by simpa using h)
 rw [← e1, Nat.zero_add, List.map_replicate] at e2
 exact e2
open Go.Sort in
theorem del_end {p : Int → Bool} {wr : World} {base e b cap kk : Nat} {l dk : List Int} (hI : DelInv p l dk l.length kk) (ho : wr.ownsRow base e 1 (.slice (some ⟨b, 0, none⟩) l.length cap) l.length (dk.map (Value.int .i64))) (hH : Holds (Value.int .i64) wr b 0 dk.toArray) :
  Kd.R (Kd.int .i64) e (wr.setCells b kk (List.replicate (l.length - kk) (Value.int .i64 0))) base (fun _ => True) (.slice (some ⟨b, 0, none⟩) kk cap) (l.filter (fun z_ => !p z_)) := by
 have hk := hI.lt; have hs := hI.size
 rw [del_cells hH kk (l.length - kk) (by omega)]
 have hlen : (Lib.lay dk.toArray kk (List.replicate (l.length - kk) 0)).toList.length = l.length := by
  rw [Array.length_toList, del_lay, List.size_toArray, hs]
 have h2 := Lib.ownsRow_putRow (q := 0) (k := kk) (ys := (Lib.lay dk.toArray kk (List.replicate (l.length - kk) 0)).toList) ho hlen (by omega)
 have e1 : (Lib.lay dk.toArray kk (List.replicate (l.length - kk) 0)).toList.take kk = l.filter (fun z_ => !p z_) := by
  have hlow := hI.low
  rw [List.take_of_length_le (Nat.le_refl _)] at hlow
  rw [← hlow]
  apply List.ext_getElem?
  intro j
  rw [List.getElem?_take, List.getElem?_take]
  by_cases hj : j < kk
  ·rw [if_pos hj, if_pos hj, Array.getElem?_toList, Lib.lay_get? _ _ _ _ (by simp; omega), if_neg (by omega)]
   simp
  ·rw [if_neg hj, if_neg hj]
 rw [e1] at h2
 have hkk := hI.kklen
 rw [List.take_of_length_le (Nat.le_refl _)] at hkk
 rw [Array.toArray_toList] at h2
 exact del_R hkk.symm h2
open Go.Sort in
theorem del_below {w0 wr : World} {b : Nat} {dk : List Int} (h : Below w0.heap.size w0 wr) (hb : w0.heap.size ≤ b) (hH : Holds (Value.int .i64) wr b 0 dk.toArray) (kk n : Nat) (hn : kk + n ≤ dk.length) : Below w0.heap.size w0 (wr.setCells b kk (List.replicate n (Value.int .i64 0))) := by
 rw [del_cells hH kk n hn]
 exact Lib.below_putRow h hb
open Go.Sort in
theorem del_grown2 {w wr : World} {b : Nat} {dk : List Int} (h : w.grownBy wr (some b)) (hH : Holds (Value.int .i64) wr b 0 dk.toArray) (kk n : Nat) (hn : kk + n ≤ dk.length) : w.grownBy (wr.setCells b kk (List.replicate n (Value.int .i64 0))) (some b) := by
 rw [del_cells hH kk n hn]
 exact ⟨h.os, h.tape, h.output, by simpa [putRow, mapBlock, Sort.ahead] using h.size, fun k hk hne => by
  rw [← h.block k hk hne]
  have hb : b ≠ k := fun e => hne (by rw [e])
  simp [putRow, mapBlock, Sort.ahead, Array.getElem?_modify, hb]⟩
open Go.Sort in
set_option maxHeartbeats 4000000 in
set_option maxRecDepth 100000 in
theorem delF57 (g : Nat) (lb : Array Value) (eg : ∀ args w, (callFunc g args).run Try.prog w = .ok (.enter g args) w) (p : Int → Bool)
  (w0 w : World) (v : Value) (l : List Int) (hp : ∀ (W : World) (x : Int), x ∈ l → w.grownBy W v.ownBlock → Calls Try.prog g (#[.int .i64 x] ++ lb) W fun e w' => e = .returned (.bool (p x)) ∧ Below W.heap.size W w') (hB : Below w0.heap.size w0 w) (ho : Kd.R (Kd.int .i64) 3 w w0.heap.size (fun _ => True) v l) :
  Calls Try.prog 57 #[v, .func (.func g) #[] lb] w fun e w' => ∃ v', e = .returned v' ∧ Kd.R (Kd.int .i64) 3 w' w0.heap.size (fun _ => True) v' (l.filter (fun z_ => !p z_)) ∧ Below w0.heap.size w0 w' ∧ w.grownBy w' v.ownBlock := by
 obtain ⟨A, c, rfl, hc, hr⟩ := Kd.R_reads ho
 have hidx := idxF92 g lb eg A c l p w hr (fun W x hx hb => hp W x hx ⟨hb.os, hb.tape, hb.output, hb.size, fun k hk _ => hb.block k hk⟩)
 have hbig : l.length ≤ 9223372036854775807 := hr.2.1
 have hown := del_own ho; have HHP := zK hp; have HB0 := zK hB; clear hp hr ho hB
 by_cases hall : ∀ x ∈ l, p x = false
 ·have hi : Opens.idxB p l = -1 := Opens.idxB_miss p l (fun j hj => hall _ (List.getElem_mem hj))
  have hf : l.filter (fun z_ => !p z_) = l := List.filter_eq_self.2 (fun x hx => by simp [hall x hx])
  rw [hi] at hidx
  have HO := zK hown; have HF := zK hf; clear hown hall hi hf
  go_enter Try.func57, Try.ntmps57
  go_wp2_with (go_at_call 92; refine hidx.mono ?_; rintro e w1 ⟨rfl, hb1⟩; have HB1 := zK hb1; clear hb1 hidx)
  go_ret
  refine ⟨_, rfl, ?_, below_step HB0.out HB1.out, ⟨HB1.out.os, HB1.out.tape, HB1.out.output, HB1.out.size, fun k hk _ => HB1.out.block k hk⟩⟩
  rw [HF.out]
  exact del_R rfl (own_move HO.out (fun k hk => HB1.out.block k (by obtain ⟨cells, hcell⟩ := own_typed HO.out k hk; exact (Array.getElem?_eq_some_iff.1 hcell).1)))
 ·obtain ⟨i0, hi0, hp0, hf0⟩ : ∃ i0, ∃ h : i0 < l.length, p l[i0] = true ∧ ∀ j (hj : j < i0), p l[j] = false := del_first l hall
  have hi : Opens.idxB p l = (i0 : Int) := Opens.idxB_hit p l i0 hi0 hp0 (fun j hj => hf0 j hj)
  rw [hi] at hidx
  have hpos : 0 < l.length := by omega
  obtain ⟨b, cap, he, hbb, hbl, hn, hm, hl, hH⟩ := Lib.holds_of_ownsRow hown (fun e0 => by rcases hown.2 with ⟨_, h0⟩ | ⟨_, _, _, e1, _⟩; omega; rw [e0] at e1; cases e1)
  injection he with he1 _ he3
  subst he1; subst he3
  have hne1 : ((i0 : Int) == -1) = false := by
   rw [beq_eq_false_iff_ne]
   omega
  have START := zK (DelInv.start hi0 hp0 hf0)
  have HO := zK hown; clear hall hown hi hp0 hf0 hH hl
  go_enter Try.func57, Try.ntmps57
  go_wp2_with (go_at_call 92; refine hidx.mono ?_; rintro e w1 ⟨rfl, hb1⟩; have HB1 := zK hb1; clear hb1 hidx)
  go_loopg [5, 6] l.length (fun gg s5 s6 wr => ∃ (kk jj : Nat) (dk : List Int), s5 = .int .i64 kk ∧ s6 = .int .i64 jj ∧ jj ≤ l.length ∧ kk < jj ∧ l.length - jj ≤ gg ∧ Aside0 (DelInv p l dk jj kk) ∧ Aside0 (wr.ownsRow w0.heap.size 3 1 (.slice (some ⟨b, 0, none⟩) l.length c) l.length (dk.map (Value.int .i64))) ∧ Aside0 (Below w0.heap.size w0 wr) ∧ Aside0 (w.grownBy wr (some b)))
  case atStart =>
   refine ⟨i0, i0 + 1, l, rfl, by go_num, by omega, by omega, by omega, START, ⟨?_⟩, ⟨below_step HB0.out HB1.out⟩, ⟨⟨HB1.out.os, HB1.out.tape, HB1.out.output, HB1.out.size, fun k hk _ => HB1.out.block k hk⟩⟩⟩
   exact own_move HO.out (fun k hk => HB1.out.block k (by obtain ⟨cells, hcell⟩ := own_typed HO.out k hk; exact (Array.getElem?_eq_some_iff.1 hcell).1))
  case round =>
   obtain ⟨kk, jj, dk, rfl, rfl, hjl, hkj, hg, INV, OWN, BEL, GRO⟩ := hrel
   have hsz := INV.out.size
   obtain ⟨hbl', hHk⟩ : b < wr.heap.size ∧ Holds (Value.int .i64) wr b 0 dk.toArray := by
    obtain ⟨g', cap', he, _, h1, _, _, _, h2⟩ := Lib.holds_of_ownsRow OWN.out (by simp)
    injection he with he1 _ _
    injection he1 with he1
    injection he1 with he1
    subst he1
    exact ⟨h1, h2⟩
   by_cases hlt : jj < l.length
   ·obtain ⟨cm, _⟩ := hHk jj (by simpa [hsz] using hlt)
    obtain ⟨ck, fk⟩ := hHk kk (by simp [hsz]; omega)
    rw [Nat.zero_add, getElem!_pos _ jj (by simpa [hsz] using hlt), List.getElem_toArray] at cm
    rw [Nat.zero_add] at ck fk
    have ej : dk[jj]'(by omega) = l[jj] := by
     have := INV.out.at hlt
     rw [List.getD_eq_getElem?_getD, List.getElem?_eq_getElem (by omega), Option.getD_some] at this
     exact this
    rw [ej] at cm
    generalize hx : l[jj] = x at cm
    have HX := zK hx; clear hHk ej hx
    generalize dk.toArray[kk]! = old at ck
    have hcall := HHP.out wr x (by rw [← HX.out]; exact List.getElem_mem hlt) (by have h_ := GRO.out; simpa [Value.ownBlock] using h_)
    cases hq : p x with
    | true =>
     rw [hq] at hcall
     have HQ := zK hq; clear hq
     go_wp2_with (go_at_fn g; refine hcall.mono ?_; rintro e w2 ⟨rfl, hb2⟩; have HB2 := zK hb2; clear hb2 hcall)
     go_roundg (l.length - (jj + 1))
     case measure => omega
     case rel =>
      refine ⟨kk, jj + 1, dk, rfl, by go_num, by omega, by omega, by omega, ⟨INV.out.skip hlt (by rw [HX.out]; exact HQ.out)⟩, ⟨own_move OWN.out (fun k hk => HB2.out.block k ?_)⟩, ⟨below_step BEL.out HB2.out⟩, ⟨⟨HB2.out.os.trans GRO.out.os, HB2.out.tape.trans GRO.out.tape, HB2.out.output.trans GRO.out.output, Nat.le_trans GRO.out.size HB2.out.size, fun k hk hne => (HB2.out.block k (Nat.lt_of_lt_of_le hk GRO.out.size)).trans (GRO.out.block k hk hne)⟩⟩⟩
      obtain ⟨cells, hcell⟩ := own_typed OWN.out k hk
      exact (Array.getElem?_eq_some_iff.1 hcell).1
    | false =>
     rw [hq] at hcall
     have HQ := zK hq; clear hq
     go_wp2_with (go_at_fn g; refine hcall.mono ?_; rintro e w2 ⟨rfl, hb2⟩; have hbb2 : g < g + 1 := Nat.lt_succ_self _; have HB2 := zK hb2; have ck2 : w2.cell? ⟨b, kk, none⟩ = some (Value.int .i64 old) := (World.cell?_of_block (HB2.out.block b hbl')).trans ck; have fk2 : w2.frozen? ⟨b, kk, none⟩ = false := (World.frozen?_of_block (HB2.out.block b hbl')).trans fk; clear hb2 hcall hbb2)
     go_roundg (l.length - (jj + 1))
     case measure => omega
     case rel =>
      have OWN2 : w2.ownsRow w0.heap.size 3 1 (.slice (some ⟨b, 0, none⟩) l.length c) l.length (dk.map (Value.int .i64)) := own_move OWN.out (fun k hk => HB2.out.block k (by obtain ⟨cells, hcell⟩ := own_typed OWN.out k hk; exact (Array.getElem?_eq_some_iff.1 hcell).1))
      rw [← hsz] at OWN2
      have OWN3 := del_step OWN2 kk (by omega) x
      rw [hsz] at OWN3
      have gr2 : w.grownBy w2 (some b) := ⟨HB2.out.os.trans GRO.out.os, HB2.out.tape.trans GRO.out.tape, HB2.out.output.trans GRO.out.output, Nat.le_trans GRO.out.size HB2.out.size, fun k hk hne => (HB2.out.block k (Nat.lt_of_lt_of_le hk GRO.out.size)).trans (GRO.out.block k hk hne)⟩
      refine ⟨kk + 1, jj + 1, dk.set kk x, by go_num, by go_num, by omega, by omega, by omega, ⟨by have := INV.out.keep hlt (by rw [HX.out]; exact HQ.out); rwa [HX.out] at this⟩, ⟨OWN3⟩, ⟨zS (below_step BEL.out HB2.out) hbb⟩, ⟨del_grown gr2⟩⟩
   ·have hend : jj = l.length := by omega
    subst hend
    have hcl : ∀ ty, (Builtin.clear_ #[24] ty #[.slice (some ⟨b, 0 + kk, none⟩) (l.length - kk) (c - kk)]).run Try.prog wr = .ok (.tuple #[]) (wr.setCells b (0 + kk) (List.replicate (l.length - kk) (Value.int .i64 0))) :=
     fun ty => Lib.run_clear_slice wr _ _ ty _ Try.underlying24 Try.zeroValue3 rfl rfl b (0 + kk) _ _ (by omega) (fun j hj => by rw [show 0 + kk + j = 0 + (kk + j) by omega, (hHk (kk + j) (by simp [hsz]; omega)).1]; rfl) (fun j hj => by rw [show 0 + kk + j = 0 + (kk + j) by omega]; exact (hHk (kk + j) (by simp [hsz]; omega)).2)
    rw [Nat.zero_add] at hcl
    have HHK := zK hHk; clear hHk
    go_wp2
    go_ret
    refine ⟨_, rfl, ?_, ?_, ?_⟩
    ·exact del_end INV.out OWN.out HHK.out
    ·exact del_below BEL.out hbb HHK.out kk (l.length - kk) (by omega)
    ·exact del_grown2 GRO.out HHK.out kk (l.length - kk) (by omega)
def vc_impl_bagsOf_1_del.p (x : Int) : Bool := (impl_bagsOf_1.f x).getD false
theorem vc_impl_bagsOf_1_del.tot (x : Int) : impl_bagsOf_1.f x = some (vc_impl_bagsOf_1_del.p x) := by
 unfold vc_impl_bagsOf_1_del.p
 cases h : impl_bagsOf_1.f x with
 | some b => rfl
 | none => exact absurd h (by simp only [impl_bagsOf_1.f]; (repeat' split) <;> simp_all)
theorem vc_impl_bagsOf_1_del.del (w0 w : World) (v : Value) (l : List Int) (hB : Below w0.heap.size w0 w) (ho : Kd.R (Kd.int .i64) 3 w w0.heap.size (fun _ => True) v l) :
  Calls Try.prog 57 #[v, .func (.func 93) #[] #[]] w fun e w' => ∃ v', e = .returned v' ∧ Kd.R (Kd.int .i64) 3 w' w0.heap.size (fun _ => True) v' (l.filter (fun z_ => !vc_impl_bagsOf_1_del.p z_)) ∧ Below w0.heap.size w0 w' ∧ w.grownBy w' v.ownBlock :=
 delF57 93 #[] (enters_of Try.func93 (by kernel_rfl) rfl) vc_impl_bagsOf_1_del.p w0 w v l (fun W x _ _ => (impl_bagsOf_1.calls x _ W (vc_impl_bagsOf_1_del.tot x)).mono fun e w' h_ => ⟨h_.1, h_.2.below⟩) hB ho
def impl_bagsOf.l0 : Nat → List Int → List (S69) → Int → Int → Option (List Int)
 | 0, _, _, _, _ => none
 | k + 1, x3, x11, x12, x13 => if x13 < x12 then (if 0 ≤ x13 then (if x13 < (x11.length : Int) then (if x3.length + ((rd_T69 x11 x13).f2).length < 17592186044416 then (impl_bagsOf.l0 k (x3 ++ ((rd_T69 x11 x13).f2)) x11 x12 (wrap64 (x13 + 1))) else (none)) else (none)) else (none)) else (some x3)
def impl_bagsOf.f (k : Nat) (l0_0 : List Int) (a0_1 : Int) (l0_2 : List (S69)) (l0_3 : List (S74)) : Option (List Int) := (slices_Clone_int_int.f l0_0).bind fun t194 => (impl_bagsOf.l0 k (t194.filter (fun z_ => !vc_impl_bagsOf_1_del.p z_)) l0_2 (l0_2.length : Int) 0)
set_option maxHeartbeats 8000000 in
set_option maxRecDepth 100000 in
theorem impl_bagsOf.calls (k : Nat) (ak : Option Addr) (al : Nat) (af : List Int) (a0_1 : Int) (au : Option Addr) (am : Nat) (ab : List (S69)) (an : Option Addr) (ao : Nat) (aj : List (S74)) (r : List Int) (w : World) (aQ : Kd.C (Kd.int .i64) w ak af.length af) (hc0_0 : af.length ≤ al) (aT : Kd.C k69 w au ab.length ab) (hc0_2 : ab.length ≤ am) (aU : Kd.C k74 w an aj.length aj) (hc0_3 : aj.length ≤ ao) (h : impl_bagsOf.f k af a0_1 ab aj = some r) :
  Calls Try.prog 64 #[.agg #[.slice ak af.length al, .int .i64 a0_1, .slice au ab.length am, .slice an aj.length ao]] w fun e w' => ∃ v0_ : Value, e = .returned (v0_) ∧ Kd.R (Kd.int .i64) 3 w' w.heap.size (fun _ => True) v0_ r ∧ Below w.heap.size w w' := by
 have hu28 := Try.underlying28; have hu69 := Try.underlying69; have be := zK aQ; have bf := zK hc0_0; clear aQ hc0_0; have bg := zK aT; have HC0_2 := zK hc0_2; clear aT hc0_2; have HR0_3 := zK aU; have HC0_3 := zK hc0_3; clear aU hc0_3
 have HB := zK (Below.refl w.heap.size w)
 have H : ((slices_Clone_int_int.f af).bind fun aI => (impl_bagsOf.l0 k (aI.filter (fun z_ => !vc_impl_bagsOf_1_del.p z_)) ab (ab.length : Int) 0)) = some r := h
 clear h; replace H := Option.bind_eq_some_iff.mp H
 obtain ⟨aI, A20, H⟩ := H
 replace H : (impl_bagsOf.l0 k (aI.filter (fun z_ => !vc_impl_bagsOf_1_del.p z_)) ab (ab.length : Int) 0) = some r := H
 have A2 := zK A20; clear A20
 obtain ⟨bh, av⟩ : ∃ y_ : List Int, y_ = (aI.filter (fun z_ => !vc_impl_bagsOf_1_del.p z_)) := ⟨_, rfl⟩
 replace H : (impl_bagsOf.l0 k bh ab (ab.length : Int) 0) = some r := by first | (rw [av]; with_reducible exact H) | (have H2_ := (Option.bind_some _ _).symm.trans H; rw [av]; with_reducible exact H2_) | (have H2_ := (Option.bind_some _ _).symm.trans H; with_reducible exact H2_) | with_reducible exact H | (rw [av]; exact H) | exact H
 have Ny197 := zK av; clear av; have H' := zK H; clear H
 go_enter Try.func64, Try.ntmps64
 go_wp2_with (first | ((with_reducible refine gate_dst (N := 1) rfl ?_); refine zX 1 #[.slice ak af.length al, .int .i64 a0_1, .slice au ab.length am, .slice an aj.length ao] 28 ?_; intro ad hg w3 hbox hb; have ay := zK (below_step (zb HB) hb); have az := zK (hbox); have aA := zK ((by rw [hg]; exact (below_size (zb HB)) : w.heap.size ≤ ad)); have aV := zK ((by rw [hg]; exact (below_size (zb HB)) : w.heap.size ≤ ad)); clear HB; have HB := ay; have aa := az; have GW193 := aA; have ae := aV; clear ay az aA aV; clear hb hbox hg; have aW : w3.cell? ⟨ad, 0, none⟩ = some (.slice ak af.length al) := (blk_cell aa.out 0).trans rfl; have aX : w3.cell? ⟨ad, 1, none⟩ = some (.int .i64 a0_1) := (blk_cell aa.out 1).trans rfl; have aY : w3.cell? ⟨ad, 2, none⟩ = some (.slice au ab.length am) := (blk_cell aa.out 2).trans rfl; have aZ : w3.cell? ⟨ad, 3, none⟩ = some (.slice an aj.length ao) := (blk_cell aa.out 3).trans rfl; have a0 := blk_frozen aa.out 0; have a1 := blk_frozen aa.out 1; have a2 := blk_frozen aa.out 2; have a3 := blk_frozen aa.out 3) | ((with_reducible refine gate_callee (f := 58) rfl ?_); refine goesL_ (some 8) rfl rfl Try.func58 (by kernel_rfl) rfl #[.slice ak af.length al] rfl zg ?_; (with_reducible refine (slices_Clone_int_int.calls _ _ af aI _ ?side1 ?side2 A2.out).mono ?_); (case side1 => exact zs (Kd.C_below be.out HB.out)); (case side2 => exact bf.out); rintro e w5 ⟨v195, rfl, ho0, hb⟩; refine ⟨_, rfl, ?_⟩; have ay := zK (Kd.R_lower ho0 (below_size (zb HB))); have az := zK (blk_below (g := ad) (o := .cells #[.slice ak af.length al, .int .i64 a0_1, .slice au ab.length am, .slice an aj.length ao] 28 (0, 0)) (zk aa) hb); have aA := zK (below_step (zb HB) hb); clear aa; clear HB; have aC := ay; have aa := az; have HB := aA; clear ay az aA; (try clear hb); (try clear ho0); obtain ⟨Ao7, co7, eo7⟩ := Kd.R_slice aC.out; subst eo7) | (go_at_call 57; refine (vc_impl_bagsOf_1_del.del w _ _ aI (zb HB) (zR aC)).mono ?_; rintro e w6 ⟨v198, rfl, ho, hb, hg⟩; rw [← Ny197.out] at ho; have ay := zK (blk_grown (g := ad) (o := .cells #[.slice ak af.length al, .int .i64 a0_1, .slice au ab.length am, .slice an aj.length ao] 28 (0, 0)) (zk aa) hg (Kd.R_ne aC.out aa.out (by decide))); have az := zK (hb); have aA := zK (ho); clear aa; clear HB; clear aC; have aa := ay; have HB := az; have bi := aA; clear ay az aA; clear ho hb hg; have a4 : w6.cell? ⟨ad, 0, none⟩ = some (.slice ak af.length al) := (blk_cell aa.out 0).trans rfl; have a5 : w6.cell? ⟨ad, 1, none⟩ = some (.int .i64 a0_1) := (blk_cell aa.out 1).trans rfl; have a6 : w6.cell? ⟨ad, 2, none⟩ = some (.slice au ab.length am) := (blk_cell aa.out 2).trans rfl; have a7 : w6.cell? ⟨ad, 3, none⟩ = some (.slice an aj.length ao) := (blk_cell aa.out 3).trans rfl; have a8 := blk_frozen aa.out 0; have a9 := blk_frozen aa.out 1; have ba := blk_frozen aa.out 2; have bb := blk_frozen aa.out 3))
 go_loopg [3, 13] k (fun kq v3 v13 w' => ∃ (aJ : List Int) (ac : Int), v13 = .int .i64 ac ∧ Aside0 (impl_bagsOf.l0 kq aJ ab (ab.length : Int) ac = some r) ∧ Aside0 (kq ≤ k) ∧ Aside0 (Kd.R (Kd.int .i64) 3 w' w.heap.size (fun _ => True) v3 aJ) ∧ Aside0 (w'.heap[ad]? = some (.cells #[(.slice ak af.length al), .int .i64 a0_1, (.slice au ab.length am), (.slice an aj.length ao)] 28 (0, 0))) ∧ Aside0 (Below w.heap.size w w'))
 case atStart => exact ⟨(bh), (0), zf, H', ⟨Nat.le_refl _⟩, ⟨zR bi⟩, ⟨zk aa⟩, ⟨zb HB⟩⟩
 case round =>
  clear H' aW aX aY aZ a4 a5 a6 a7 a0 a1 a2 a3 a8 a9 ba bb
  obtain ⟨aJ, ac, rfl, HA, HK1, aw, aa, HB⟩ := hrel
  cases gk with
  | zero => exact absurd HA.out (by simp [impl_bagsOf.l0])
  | succ k1 =>
   have H := HA.out; clear HA
   simp only [impl_bagsOf.l0] at H
   by_cases c9 : ac < (ab.length : Int)
   ·rw [if_pos c9] at H
    have c9b0 : decide (ac < (ab.length : Int)) = true := decide_eq_true c9
    clear c9
    by_cases c10 : 0 ≤ ac
    ·rw [if_pos c10] at H
     have c10b0 : decide (0 ≤ ac) = true := decide_eq_true c10
     clear c10
     by_cases c11 : ac < (ab.length : Int)
     ·rw [if_pos c11] at H
      have c11b0 : decide (ac < (ab.length : Int)) = true := decide_eq_true c11
      clear c11
      by_cases c12 : aJ.length + ((rd_T69 ab ac).f2).length < 17592186044416
      ·rw [if_pos c12] at H
       have bj := zK c12; clear c12
       obtain ⟨bk, ax⟩ : ∃ y_ : List Int, y_ = (aJ ++ ((rd_T69 ab ac).f2)) := ⟨_, rfl⟩
       replace H : (impl_bagsOf.l0 k1 bk ab (ab.length : Int) (wrap64 (ac + 1))) = some r := by first | (rw [ax]; with_reducible exact H) | (have H2_ := (Option.bind_some _ _).symm.trans H; rw [ax]; with_reducible exact H2_) | (have H2_ := (Option.bind_some _ _).symm.trans H; with_reducible exact H2_) | with_reducible exact H | (rw [ax]; exact H) | exact H
       have Ny202 := zK ax; clear ax; have H' := zK H; clear H
       have bc : 0 ≤ (ac : Int) := zd
       have bd : ac < (ab.length : Int) := zd
       obtain ⟨aD, aM, aN, e200, ap, aq, ar, aE, aG⟩ := at_T69 bg.out ac bc bd
       cases e200
       replace ap := (HB.out.cell (World.block_lt_of_cell? w _ ap)).trans ap
       replace aq := (HB.out.cell (World.block_lt_of_cell? w _ aq)).trans aq
       replace ar := (HB.out.cell (World.block_lt_of_cell? w _ ar)).trans ar
       have aP := zK aG; have HC200_2 := zK aE; clear aG aE; replace bc := eq_true bc; replace bd := eq_true bd
       go_wp2_with (first | ((with_reducible refine gate_dst (N := 5) rfl ?_); refine zX 5 #[.int .i64 0, .int .i64 0, .slice none 0 0] 69 ?_; intro ag hg w13 hbox hb; have ay := zK (Kd.R_below (zR aw) hb); have az := zK (blk_below (g := ad) (o := .cells #[.slice ak af.length al, .int .i64 a0_1, .slice (some aD) ab.length am, .slice an aj.length ao] 28 (0, 0)) (zk aa) hb); have aA := zK (below_step (zb HB) hb); have aV := zK (hbox); have n4_ := zK ((by rw [hg]; exact (below_size (zb HB)) : w.heap.size ≤ ag)); have n5_ := zK ((by rw [hg]; exact (below_size (zb HB)) : w.heap.size ≤ ag)); have n6_ := zK ((by rw [hg]; exact Nat.ne_of_lt (blk_lt (g := ad) (o := .cells #[.slice ak af.length al, .int .i64 a0_1, .slice (some aD) ab.length am, .slice an aj.length ao] 28 (0, 0)) (zk aa)) : ad ≠ ag)); have n7_ := zK ((by rw [hg]; exact Nat.ne_of_gt (blk_lt (g := ad) (o := .cells #[.slice ak af.length al, .int .i64 a0_1, .slice (some aD) ab.length am, .slice an aj.length ao] 28 (0, 0)) (zk aa)) : ag ≠ ad)); clear aw; clear aa; clear HB; have aw := ay; have aa := az; have HB := aA; have ah := aV; have GW201 := n4_; have aH := n5_; have ai := n6_; have aK := n7_; clear ay az aA aV n4_ n5_ n6_ n7_; clear hb hbox hg; have hnb14 := aK.out; have hnc14 := ai.out; have hcz15_0 : w13.cell? ⟨ag, 0, none⟩ = some (.int .i64 0) := (blk_cell ah.out 0).trans rfl; have hcz15_1 : w13.cell? ⟨ag, 1, none⟩ = some (.int .i64 0) := (blk_cell ah.out 1).trans rfl; have hcz15_2 : w13.cell? ⟨ag, 2, none⟩ = some (.slice none 0 0) := (blk_cell ah.out 2).trans rfl; have hfz15_0 := blk_frozen ah.out 0; have hfz15_1 := blk_frozen ah.out 1; have hfz15_2 := blk_frozen ah.out 2) | ((with_reducible refine gate_builtin (b := .append) (xs := #[.tmp 17, .tmp 19]) rfl ?_); at_builtin; refine Kd.R_append_rows (Kd.int .i64) (w0 := w) w.heap.size rfl (.tmp 17) (.tmp 19) 24 3 (.int .i64 0) 8 rfl Try.underlying24 info3 rfl (by decide) (by omega) u3 aJ ((rd_T69 ab ac).f2) _ _ _ (fun _ => True) (fun _ => False) rfl rfl ?aO ?aR (fun _ _ h => h) (fun _ h => h.elim) ?aF ?aB ?aS ?aL ?_; (case aR => exact Kd.C_below aP.out (zb HB)); (case aB => exact (zb HB)); (case aF => exact (fun _ _ => trivial)); (case aO => exact (by (with_reducible repeat (first | apply Kd.R_alloc | apply Kd.R_drewN | apply Kd.R_drew)); exact Kd.R_mono (Kd.R_far (p := ⟨ag, 2, none⟩) (Kd.R_far (p := ⟨ag, 1, none⟩) (Kd.R_far (p := ⟨ag, 0, none⟩) (Kd.R_types aw.out ah.out (by decide)) (fun _ hk => hk.2) (.int .i64 ((rd_T69 ab ac).f0))) (fun _ hk => hk.2) (.int .i64 ((rd_T69 ab ac).f1))) (fun _ hk => hk.2) (.slice aM ((rd_T69 ab ac).f2).length aN)) (fun _ hk => trivial))); (case aS => exact (below_size (zb HB))); (case aL => have := bj.out; omega); intro v203 w16 ho hb hg hat; rw [← Ny202.out] at ho; have ay := zK (blk_grown (g := ad) (o := .cells #[.slice ak af.length al, .int .i64 a0_1, .slice (some aD) ab.length am, .slice an aj.length ao] 28 (0, 0)) (zh aa ai) hg (Kd.R_ne aw.out aa.out (by decide))); have az := zK (blk_grown (g := ag) (o := .cells #[.int .i64 ((rd_T69 ab ac).f0), .int .i64 ((rd_T69 ab ac).f1), .slice aM ((rd_T69 ab ac).f2).length aN] 69 (0, 0)) (by (with_reducible repeat (first | refine zN ?_ _ | refine zD ?_ | refine zA ?_ _)); refine blk_put (cs := #[.int .i64 ((rd_T69 ab ac).f0), .int .i64 ((rd_T69 ab ac).f1), .slice none 0 0]) ?_ 2 _ rfl; (with_reducible repeat (first | refine zN ?_ _ | refine zD ?_ | refine zA ?_ _)); refine blk_put (cs := #[.int .i64 ((rd_T69 ab ac).f0), .int .i64 0, .slice none 0 0]) ?_ 1 _ rfl; (with_reducible repeat (first | refine zN ?_ _ | refine zD ?_ | refine zA ?_ _)); refine blk_put (cs := #[.int .i64 0, .int .i64 0, .slice none 0 0]) ?_ 0 _ rfl; (with_reducible repeat (first | refine zN ?_ _ | refine zD ?_ | refine zA ?_ _)); exact ah.out) hg (Kd.R_ne aw.out ah.out (by decide))); have aA := zK (hb); have aV := zK (ho); clear aa; clear ah; clear HB; clear aw; have aa := ay; have ah := az; have HB := aA; have bl := aV; clear ay az aA aV; clear ho hb hg hat))
       go_roundg k1
       case measure => have := HK1.out; omega
       case rel => exact ⟨(bk), (wrap64 (ac + 1)), zf, H', ⟨by have := HK1.out; omega⟩, ⟨zR bl⟩, ⟨zk aa⟩, ⟨zb HB⟩⟩
      ·rw [if_neg c12] at H
       exact absurd H (by simp)
     ·rw [if_neg c11] at H
      exact absurd H (by simp)
    ·rw [if_neg c10] at H
     exact absurd H (by simp)
   ·rw [if_neg c9] at H
    have c9b0 : decide (ac < (ab.length : Int)) = false := decide_eq_false c9
    clear c9; obtain rfl := Option.some.inj H
    go_wp2
    go_ret
    exact ⟨_, ze, by (with_reducible repeat (first | apply Kd.R_alloc | apply Kd.R_drewN | apply Kd.R_drew)); exact aw.out, zb HB⟩
def impl_LoopOk_1.f (a0 : Int) : Option (Bool) := some (decide (a0 < 1))
set_option maxHeartbeats 8000000 in
set_option maxRecDepth 100000 in
theorem impl_LoopOk_1.calls (a0 : Int) (r : Bool) (w : World) (h : impl_LoopOk_1.f a0 = some r) :
  Calls Try.prog 66 #[.int .i64 a0] w fun e w' => e = .returned (.bool r) ∧ Drawn0 w w' := by
 have H : (some (decide (a0 < 1))) = some r := h
 clear h; obtain rfl := Option.some.inj H
 go_enter Try.func66, Try.ntmps66
 go_wp2
 go_ret
 exact ⟨by first | rfl | (simp; done) | (simp [*]; done), by repeat (first | exact Drawn0.refl _ | apply Drawn0.step)⟩
def impl_areDifferent.f (l0 : List Int) : Option (Bool) := if l0.length * 8 ≤ 140737488355328 then (some (decide l0.Nodup)) else (none)
open Go.Sort in
set_option maxHeartbeats 4000000 in
set_option maxRecDepth 100000 in
theorem impl_areDifferent.calls (A0 : Option Addr) (c0 : Nat) (l0 : List Int) (r : Bool) (w : World) (hr0 : Kd.C (Kd.int .i64) w A0 l0.length l0) (hc0 : l0.length ≤ c0) (h : impl_areDifferent.f l0 = some r) :
  Calls Try.prog 67 #[.slice A0 l0.length c0] w fun e w' => e = .returned (.bool r) ∧ Below w.heap.size w w' := by
 unfold impl_areDifferent.f at h
 by_cases hb : l0.length * 8 ≤ 140737488355328
 ·rw [if_pos hb] at h
  obtain rfl := Option.some.inj h
  have hclone := slices_Clone_int_int.calls A0 c0 l0 l0 w hr0 hc0 (by unfold slices_Clone_int_int.f; rw [if_pos hb])
  clear hr0 h
  by_cases hz : l0 = []
  ·subst hz
   go_enter Try.func67, Try.ntmps67
   go_wp2_with (first
    | (
      go_at_call 58; refine hclone.mono ?_; rintro e w1 ⟨v1, rfl, hR, hbel⟩
      obtain ⟨p, cap, rfl⟩ : ∃ p cap, v1 = .slice p 0 cap := by
       obtain ⟨_, inner, ho, _⟩ := hR
       rcases ho.2 with ⟨e0, _⟩ | ⟨g, cap, _, e0, _⟩
       ·exact ⟨none, 0, e0⟩
       ·exact ⟨_, cap, e0⟩
      have hsort := Sh.Try.slices_Sort_int_none p cap w1; have hcomp := Sh.Try.slices_Compact_int_empty p cap w1; have X := zK hbel
      clear hR hbel hclone)
    | (
      go_at_call 94; refine hsort.mono ?_; rintro e w2 ⟨rfl, rfl⟩; clear hsort)
    | (
      go_at_call 95; refine hcomp.mono ?_; rintro e w3 ⟨rfl, rfl⟩; clear hcomp))
   go_ret
   exact ⟨by simp, X.out⟩
  ·have hlen0 : 0 < l0.length := by cases l0 with | nil => exact absurd rfl hz | cons => simp
   have hD := zK (diff_eq l0)
   clear hz
   go_enter Try.func67, Try.ntmps67
   go_wp2_with (first
    | (
      go_at_call 58; refine hclone.mono ?_; rintro e w1 ⟨v1, rfl, hR, hbel⟩
      obtain ⟨g, cap, rfl, hbg, hgl, hncap, hcm, hlen, hH⟩ : ∃ g cap, v1 = .slice (some ⟨g, 0, none⟩) l0.length cap ∧ w.heap.size ≤ g ∧ g < w1.heap.size ∧ l0.length ≤ cap ∧ cap ≤ maxLen ∧ l0.length = l0.length ∧ Holds (Value.int .i64) w1 g 0 l0.toArray := by
       obtain ⟨_, inner, ho, hreps⟩ := hR
       have hin : inner = l0.map (Value.int .i64) := by
        apply List.ext_getElem?
        intro j
        rw [List.getElem?_map]
        by_cases hj : j < l0.length
        ·have h2 := hreps.2 j _ (List.getElem?_eq_getElem hj)
         have h3 : (inner.drop (j * 1)).take 1 = [Value.int .i64 l0[j]] := h2
         have h4 := congrArg (fun z => z[0]?) h3
         simp only [Nat.mul_one, List.getElem?_take, List.getElem?_drop, Nat.add_zero, List.getElem?_cons_zero] at h4
         rw [List.getElem?_eq_getElem hj]
         simpa using h4
        ·have h1 : inner.length = l0.length * 1 := hreps.1
         rw [List.getElem?_eq_none (by omega), List.getElem?_eq_none (by omega)]
         rfl
       subst hin
       refine Lib.holds_of_ownsRow ho (fun e0 => ?_)
       rcases ho.2 with ⟨_, e1⟩ | ⟨g, cap, _, e1, _⟩
       ·omega
       ·rw [e0] at e1; cases e1
      have hsort := Sh.Try.slices_Sort_int g 0 cap l0 w1 hH hgl (by omega)
      have X : Aside (Below w.heap.size w w1 ∧ w.heap.size ≤ g ∧ g < w1.heap.size ∧ Holds (Value.int .i64) w1 g 0 l0.toArray) := ⟨hbel, hbg, hgl, hH⟩
      clear hbel hH hR hlen hclone)
    | (
      go_at_call 94; refine hsort.mono ?_; rintro e w2 ⟨rfl, nn, os, hw2⟩
      have hH2 : Holds (Value.int .i64) w2 g 0 (l0.mergeSort fun x y => decide (x ≤ y)).toArray := by
       subst hw2
       exact holds_grow _ _ os g 0 _ (by simpa [putRow, mapBlock, Sort.ahead] using X.out.2.2.1) (holds_putRow _ _ g 0 _ _ (holds_ahead _ w1 nn g 0 _ X.out.2.2.2) (by simp))
      have hB2 : Below w.heap.size w w2 := by
       subst hw2
       exact X.out.1.grown (grownBy_sortedI _) X.out.1.size (fun j hj => by cases hj; exact X.out.2.1)
      have hcomp := Sh.Try.slices_Compact_int g 0 cap (l0.mergeSort fun x y => decide (x ≤ y)) w2 hH2 (by rw [List.length_mergeSort]; omega) (by rw [List.length_mergeSort]; exact hncap)
      rw [List.length_mergeSort] at hcomp
      obtain ⟨mm, hmm⟩ : ∃ mm, (Lib.compact (l0.mergeSort fun x y => decide (x ≤ y))).length = mm := ⟨_, rfl⟩
      have Y : Aside (Below w.heap.size w w2 ∧ w.heap.size ≤ g ∧ (Lib.compact (l0.mergeSort fun x y => decide (x ≤ y))).length = mm) := ⟨hB2, X.out.2.1, hmm⟩
      rw [hmm] at hcomp
      clear hw2 hsort hH2 hB2 X hmm)
    | (
      go_at_call 95; refine hcomp.mono ?_; rintro e w3 ⟨rfl, qq, hw3⟩
      have hB3 : Below w.heap.size w w3 := by
       subst hw3
       exact Lib.below_putRow Y.out.1 Y.out.2.1
      have Z : Aside (Below w.heap.size w w3 ∧ (Lib.compact (l0.mergeSort fun x y => decide (x ≤ y))).length = mm) := ⟨hB3, Y.out.2.2⟩
      clear hw3 hcomp hB3 Y))
   go_ret
   refine ⟨?_, Z.out.1⟩
   have e1 := hD.out
   rw [Z.out.2] at e1
   rw [← e1]
   rfl
 ·rw [if_neg hb] at h
  cases h
set_option maxHeartbeats 2000000 in
set_option maxRecDepth 100000 in
theorem cntF65 (g : Nat) (lb : Array Value) (eg : ∀ args w, (callFunc g args).run Try.prog w = .ok (.enter g args) w) (A : Option Addr) (c : Nat) (l : List Int) (p : Int → Bool) (w : World)
  (hr : Kd.C (Kd.int .i64) w A l.length l)
  (hp : ∀ (W : World) (x : Int), x ∈ l → Below w.heap.size w W → Calls Try.prog g (#[.int .i64 x] ++ lb) W fun e w' => e = .returned (.bool (p x)) ∧ Below W.heap.size W w') :
  Calls Try.prog 65 #[.slice A l.length c, .func (.func g) #[] lb] w fun e w' => e = .returned (.bool (l.any p)) ∧ Below w.heap.size w w' := by
 rw [← Opens.idxB_any p l]
 go_enter Try.func65, Try.ntmps65
 go_wp2_with (go_at_call 92; refine (idxF92 g lb eg A c l p _ hr hp).mono ?_; rintro e w' ⟨rfl, hb'⟩)
 go_ret
 exact ⟨rfl, hb'⟩
def vc_impl_LoopOk_1_any.p (x : Int) : Bool := (impl_LoopOk_1.f x).getD false
theorem vc_impl_LoopOk_1_any.tot (x : Int) : impl_LoopOk_1.f x = some (vc_impl_LoopOk_1_any.p x) := by
 unfold vc_impl_LoopOk_1_any.p
 cases h : impl_LoopOk_1.f x with
 | some b => rfl
 | none => exact absurd h (by simp only [impl_LoopOk_1.f]; (repeat' split) <;> simp_all)
def vc_impl_LoopOk_1_any.f (l0 : List Int) : Option (Bool) := some (l0.any vc_impl_LoopOk_1_any.p)
theorem vc_impl_LoopOk_1_any.calls (A0 : Option Addr) (c0 : Nat) (l0 : List Int) (r : Bool) (w : World) (hr0 : Kd.C (Kd.int .i64) w A0 l0.length l0) (hc0 : l0.length ≤ c0) (h : vc_impl_LoopOk_1_any.f l0 = some r) :
  Calls Try.prog 65 #[.slice A0 l0.length c0, .func (.func 66) #[] #[]] w fun e w' => e = .returned (.bool r) ∧ Below w.heap.size w w' := by
 obtain rfl := Option.some.inj h
 exact cntF65 66 #[] (enters_of Try.func66 (by kernel_rfl) rfl) A0 c0 l0 _ w hr0 (fun W x _ _ => (impl_LoopOk_1.calls x _ W (vc_impl_LoopOk_1_any.tot x)).mono fun e w' h_ => ⟨h_.1, h_.2.below⟩)
mutual
def impl_LoopOk.j0 : Nat → Int → Bool → List Int → Int → List (S69) → List (S74) → Option (Bool)
 | 0, _, _, _, _, _, _ => none
 | k + 1, x3, x42, x206000, x206001, x206002, x206003 => if x42 = true then (some false) else (impl_LoopOk.l0 k x3 ([] : List Int) x206002 (x206002.length : Int) 0 x206000 x206001 x206002 x206003)
def impl_LoopOk.l0 : Nat → Int → List Int → List (S69) → Int → Int → List Int → Int → List (S69) → List (S74) → Option (Bool)
 | 0, _, _, _, _, _, _, _, _, _ => none
 | k + 1, x3, x4, x44, x45, x46, x206000, x206001, x206002, x206003 => if x46 < x45 then (if 0 ≤ x46 then (if x46 < (x44.length : Int) then (if ((rd_T69 x44 x46).f0) < 0 then (impl_LoopOk.j2 k x3 x4 x44 x45 x46 true x206000 x206001 x206002 x206003 ((rd_T69 x44 x46).f0) ((rd_T69 x44 x46).f1) ((rd_T69 x44 x46).f2)) else (if ((rd_T69 x44 x46).f0) ≥ x3 then (impl_LoopOk.j2 k x3 x4 x44 x45 x46 true x206000 x206001 x206002 x206003 ((rd_T69 x44 x46).f0) ((rd_T69 x44 x46).f1) ((rd_T69 x44 x46).f2)) else (if ((rd_T69 x44 x46).f1) < 0 then (impl_LoopOk.j2 k x3 x4 x44 x45 x46 true x206000 x206001 x206002 x206003 ((rd_T69 x44 x46).f0) ((rd_T69 x44 x46).f1) ((rd_T69 x44 x46).f2)) else (if ((rd_T69 x44 x46).f1) > 40 then (impl_LoopOk.j2 k x3 x4 x44 x45 x46 true x206000 x206001 x206002 x206003 ((rd_T69 x44 x46).f0) ((rd_T69 x44 x46).f1) ((rd_T69 x44 x46).f2)) else (impl_LoopOk.j2 k x3 x4 x44 x45 x46 (decide ((((rd_T69 x44 x46).f2).length : Int) > ((rd_T69 x44 x46).f1))) x206000 x206001 x206002 x206003 ((rd_T69 x44 x46).f0) ((rd_T69 x44 x46).f1) ((rd_T69 x44 x46).f2)))))) else (none)) else (none)) else (impl_LoopOk.l1 k x4 ([] : List Int) x206003 (x206003.length : Int) 0 x206000 x206001 x206002 x206003)
def impl_LoopOk.j2 : Nat → Int → List Int → List (S69) → Int → Int → Bool → List Int → Int → List (S69) → List (S74) → Int → Int → List Int → Option (Bool)
 | 0, _, _, _, _, _, _, _, _, _, _, _, _, _ => none
 | k + 1, x3, x4, x44, x45, x46, x76, x206000, x206001, x206002, x206003, x208000, x208001, x208002 => if x76 = true then (some false) else (if x4.length < 17592186044416 then (impl_LoopOk.l0 k x3 (x4 ++ [x208000]) x44 x45 (wrap64 (x46 + 1)) x206000 x206001 x206002 x206003) else (none))
def impl_LoopOk.l1 : Nat → List Int → List Int → List (S74) → Int → Int → List Int → Int → List (S69) → List (S74) → Option (Bool)
 | 0, _, _, _, _, _, _, _, _, _ => none
 | k + 1, x4, x5, x84, x85, x86, x206000, x206001, x206002, x206003 => if x86 < x85 then (if 0 ≤ x86 then (if x86 < (x84.length : Int) then (if ((rd_T74 x84 x86).f0) < 1 then (some false) else ((impl_areIndexes.f k ((rd_T74 x84 x86).f1) (x206002.length : Int)).bind fun t213 => (if t213 = true then (if x5.length < 17592186044416 then (impl_LoopOk.l1 k x4 (x5 ++ [(rd_T74 x84 x86).f0]) x84 x85 (wrap64 (x86 + 1)) x206000 x206001 x206002 x206003) else (none)) else (some false)))) else (none)) else (none)) else ((impl_bagsOf.f k x206000 x206001 x206002 x206003).bind fun t217 => ((vc_impl_LoopOk_1_any.f t217).bind fun t221 => (if t221 = true then (some false) else ((impl_areDifferent.f t217).bind fun t222 => (if t222 = true then ((impl_areDifferent.f x4).bind fun t223 => (if t223 = true then ((impl_areDifferent.f x5).bind fun t224 => (some t224)) else (some false))) else (some false))))))
end
def impl_LoopOk.f (k : Nat) (l0_0 : List Int) (a0_1 : Int) (l0_2 : List (S69)) (l0_3 : List (S74)) : Option (Bool) := if (l0_0.length : Int) < 2 then (impl_LoopOk.j0 k (l0_0.length : Int) true l0_0 a0_1 l0_2 l0_3) else (if (l0_0.length : Int) > 60 then (impl_LoopOk.j0 k (l0_0.length : Int) true l0_0 a0_1 l0_2 l0_3) else (if a0_1 < 0 then (impl_LoopOk.j0 k (l0_0.length : Int) true l0_0 a0_1 l0_2 l0_3) else (if a0_1 ≥ (l0_0.length : Int) then (impl_LoopOk.j0 k (l0_0.length : Int) true l0_0 a0_1 l0_2 l0_3) else (if (l0_2.length : Int) > 8 then (impl_LoopOk.j0 k (l0_0.length : Int) true l0_0 a0_1 l0_2 l0_3) else (impl_LoopOk.j0 k (l0_0.length : Int) (decide ((l0_3.length : Int) > 60)) l0_0 a0_1 l0_2 l0_3)))))
set_option maxHeartbeats 8000000 in
set_option maxRecDepth 100000 in
theorem impl_LoopOk.calls (k : Nat) (ao : Option Addr) (ap : Nat) (af : List Int) (a0_1 : Int) (au : Option Addr) (aq : Nat) (ab : List (S69)) (aw : Option Addr) (ar : Nat) (ae : List (S74)) (r : Bool) (w : World) (bY : Kd.C (Kd.int .i64) w ao af.length af) (hc0_0 : af.length ≤ ap) (bZ : Kd.C k69 w au ab.length ab) (hc0_2 : ab.length ≤ aq) (b0 : Kd.C k74 w aw ae.length ae) (hc0_3 : ae.length ≤ ar) (h : impl_LoopOk.f k af a0_1 ab ae = some r) :
  Calls Try.prog 24 #[.agg #[.slice ao af.length ap, .int .i64 a0_1, .slice au ab.length aq, .slice aw ae.length ar]] w fun e w' => e = .returned (.bool r) ∧ Below w.heap.size w w' := by
 have hu28 := Try.underlying28; have hu69 := Try.underlying69; have hu74 := Try.underlying74; have bi := zK bY; have bj := zK hc0_0; clear bY hc0_0; have bc := zK bZ; have bk := zK hc0_2; clear bZ hc0_2; have a7 := zK b0; have bl := zK hc0_3; clear b0 hc0_3
 have HB := zK (Below.refl w.heap.size w)
 have H : (if (af.length : Int) < 2 then (impl_LoopOk.j0 k (af.length : Int) true af a0_1 ab ae) else (if (af.length : Int) > 60 then (impl_LoopOk.j0 k (af.length : Int) true af a0_1 ab ae) else (if a0_1 < 0 then (impl_LoopOk.j0 k (af.length : Int) true af a0_1 ab ae) else (if a0_1 ≥ (af.length : Int) then (impl_LoopOk.j0 k (af.length : Int) true af a0_1 ab ae) else (if (ab.length : Int) > 8 then (impl_LoopOk.j0 k (af.length : Int) true af a0_1 ab ae) else (impl_LoopOk.j0 k (af.length : Int) (decide ((ae.length : Int) > 60)) af a0_1 ab ae)))))) = some r := h
 clear h; have HC2 := zK H; clear H
 go_enter Try.func24, Try.ntmps24
 go_upto_region 2 with (first | ((with_reducible refine gate_dst (N := 1) rfl ?_); (try (refine gate_guard (by rfl) ?_; dsimp only)); refine zX 1 #[.slice ao af.length ap, .int .i64 a0_1, .slice au ab.length aq, .slice aw ae.length ar] 28 ?_; intro ac hg w3 hbox hb; have ay := zK (below_step (zb HB) hb); have az := zK (hbox); have aA := zK ((by rw [hg]; exact (below_size (zb HB)) : w.heap.size ≤ ac)); have aC := zK ((by rw [hg]; exact (below_size (zb HB)) : w.heap.size ≤ ac)); clear HB; have HB := ay; have aa := az; have GW205 := aA; have ag := aC; clear ay az aA aC; clear hb hbox hg; have b3 : w3.cell? ⟨ac, 0, none⟩ = some (.slice ao af.length ap) := (blk_cell aa.out 0).trans rfl; have b4 : w3.cell? ⟨ac, 1, none⟩ = some (.int .i64 a0_1) := (blk_cell aa.out 1).trans rfl; have b5 : w3.cell? ⟨ac, 2, none⟩ = some (.slice au ab.length aq) := (blk_cell aa.out 2).trans rfl; have b6 : w3.cell? ⟨ac, 3, none⟩ = some (.slice aw ae.length ar) := (blk_cell aa.out 3).trans rfl; have b7 := blk_frozen aa.out 0; have b8 := blk_frozen aa.out 1; have b9 := blk_frozen aa.out 2; have ca := blk_frozen aa.out 3))
 (try simp only [Act.put, zp, zq, zr])
 go_cut [42] (fun v42 wc => ∃ (kq : Nat) (bm : Bool), v42 = .bool bm ∧ Aside0 (impl_LoopOk.j0 kq (af.length : Int) bm af a0_1 ab ae = some r) ∧ Aside0 (kq ≤ k) ∧ Aside0 (wc.heap[ac]? = some (.cells #[(.slice ao af.length ap), .int .i64 a0_1, (.slice au ab.length aq), (.slice aw ae.length ar)] 28 (0, 0))) ∧ Aside0 (Below w.heap.size w wc))
 case first =>
  have H := HC2.out; clear HC2
  by_cases c5 : (af.length : Int) < 2
  ·rw [if_pos c5] at H
   have bp : decide ((af.length : Int) < 2) = true := decide_eq_true c5
   have c5b1 : decide (af.length < 2) = true := decide_eq_true (by omega)
   clear c5
   (first | rw [bp] | (simp only [i64_w, i32_w]; rw [bp]) | skip)
   have H' := zK H; clear H
   go_wp2
   go_meet
   case rel => exact ⟨_, (true), zf, H', ⟨by first | omega | exact Nat.le_refl _⟩, ⟨zk aa⟩, ⟨zb HB⟩⟩
  ·rw [if_neg c5] at H
   have bp : decide ((af.length : Int) < 2) = false := decide_eq_false c5
   have c5b1 : decide (af.length < 2) = false := decide_eq_false (by omega)
   clear c5
   (first | rw [bp] | (simp only [i64_w, i32_w]; rw [bp]) | skip)
   by_cases c6 : (af.length : Int) > 60
   ·rw [if_pos c6] at H
    have c6b0 : decide (60 < (af.length : Int)) = true := decide_eq_true c6
    have c6b1 : decide (60 < af.length) = true := decide_eq_true (by omega)
    clear c6; have H' := zK H; clear H
    go_wp2
    go_meet
    case rel => exact ⟨_, (true), zf, H', ⟨by first | omega | exact Nat.le_refl _⟩, ⟨zk aa⟩, ⟨zb HB⟩⟩
   ·rw [if_neg c6] at H
    have c6b0 : decide (60 < (af.length : Int)) = false := decide_eq_false c6
    have c6b1 : decide (60 < af.length) = false := decide_eq_false (by omega)
    clear c6
    by_cases c7 : a0_1 < 0
    ·rw [if_pos c7] at H
     have c7b0 : decide (a0_1 < 0) = true := decide_eq_true c7
     clear c7; have H' := zK H; clear H
     have hcz8_0 : w3.cell? ⟨ac, 0, none⟩ = some (.slice ao af.length ap) := (blk_cell aa.out 0).trans rfl
     have hcz8_1 : w3.cell? ⟨ac, 1, none⟩ = some (.int .i64 a0_1) := (blk_cell aa.out 1).trans rfl
     have hcz8_2 : w3.cell? ⟨ac, 2, none⟩ = some (.slice au ab.length aq) := (blk_cell aa.out 2).trans rfl
     have hcz8_3 : w3.cell? ⟨ac, 3, none⟩ = some (.slice aw ae.length ar) := (blk_cell aa.out 3).trans rfl
     have hfz8_0 := blk_frozen aa.out 0; have hfz8_1 := blk_frozen aa.out 1; have hfz8_2 := blk_frozen aa.out 2; have hfz8_3 := blk_frozen aa.out 3
     go_wp2
     go_meet
     case rel => exact ⟨_, (true), zf, H', ⟨by first | omega | exact Nat.le_refl _⟩, ⟨zk aa⟩, ⟨zb HB⟩⟩
    ·rw [if_neg c7] at H
     have c7b0 : decide (a0_1 < 0) = false := decide_eq_false c7
     clear c7
     by_cases c9 : a0_1 ≥ (af.length : Int)
     ·rw [if_pos c9] at H
      have c9b0 : decide ((af.length : Int) ≤ a0_1) = true := decide_eq_true c9
      clear c9; have H' := zK H; clear H
      have hcz10_0 : w3.cell? ⟨ac, 0, none⟩ = some (.slice ao af.length ap) := (blk_cell aa.out 0).trans rfl
      have hcz10_1 : w3.cell? ⟨ac, 1, none⟩ = some (.int .i64 a0_1) := (blk_cell aa.out 1).trans rfl
      have hcz10_2 : w3.cell? ⟨ac, 2, none⟩ = some (.slice au ab.length aq) := (blk_cell aa.out 2).trans rfl
      have hcz10_3 : w3.cell? ⟨ac, 3, none⟩ = some (.slice aw ae.length ar) := (blk_cell aa.out 3).trans rfl
      have hfz10_0 := blk_frozen aa.out 0; have hfz10_1 := blk_frozen aa.out 1; have hfz10_2 := blk_frozen aa.out 2; have hfz10_3 := blk_frozen aa.out 3
      go_wp2
      go_meet
      case rel => exact ⟨_, (true), zf, H', ⟨by first | omega | exact Nat.le_refl _⟩, ⟨zk aa⟩, ⟨zb HB⟩⟩
     ·rw [if_neg c9] at H
      have c9b0 : decide ((af.length : Int) ≤ a0_1) = false := decide_eq_false c9
      clear c9
      by_cases cd : (ab.length : Int) > 8
      ·rw [if_pos cd] at H
       have cn : decide (8 < (ab.length : Int)) = true := decide_eq_true cd
       have co : decide (8 < ab.length) = true := decide_eq_true (by omega)
       clear cd; have H' := zK H; clear H
       have hcz12_0 : w3.cell? ⟨ac, 0, none⟩ = some (.slice ao af.length ap) := (blk_cell aa.out 0).trans rfl
       have hcz12_1 : w3.cell? ⟨ac, 1, none⟩ = some (.int .i64 a0_1) := (blk_cell aa.out 1).trans rfl
       have hcz12_2 : w3.cell? ⟨ac, 2, none⟩ = some (.slice au ab.length aq) := (blk_cell aa.out 2).trans rfl
       have hcz12_3 : w3.cell? ⟨ac, 3, none⟩ = some (.slice aw ae.length ar) := (blk_cell aa.out 3).trans rfl
       have hfz12_0 := blk_frozen aa.out 0; have hfz12_1 := blk_frozen aa.out 1; have hfz12_2 := blk_frozen aa.out 2; have hfz12_3 := blk_frozen aa.out 3
       go_wp2
       go_meet
       case rel => exact ⟨_, (true), zf, H', ⟨by first | omega | exact Nat.le_refl _⟩, ⟨zk aa⟩, ⟨zb HB⟩⟩
      ·rw [if_neg cd] at H
       have cn : decide (8 < (ab.length : Int)) = false := decide_eq_false cd
       have co : decide (8 < ab.length) = false := decide_eq_false (by omega)
       clear cd; have H' := zK H; clear H
       have hcz13_0 : w3.cell? ⟨ac, 0, none⟩ = some (.slice ao af.length ap) := (blk_cell aa.out 0).trans rfl
       have hcz13_1 : w3.cell? ⟨ac, 1, none⟩ = some (.int .i64 a0_1) := (blk_cell aa.out 1).trans rfl
       have hcz13_2 : w3.cell? ⟨ac, 2, none⟩ = some (.slice au ab.length aq) := (blk_cell aa.out 2).trans rfl
       have hcz13_3 : w3.cell? ⟨ac, 3, none⟩ = some (.slice aw ae.length ar) := (blk_cell aa.out 3).trans rfl
       have hfz13_0 := blk_frozen aa.out 0; have hfz13_1 := blk_frozen aa.out 1; have hfz13_2 := blk_frozen aa.out 2; have hfz13_3 := blk_frozen aa.out 3
       go_wp2
       go_meet
       case rel => exact ⟨_, (decide ((ae.length : Int) > 60)), zf, H', ⟨by first | omega | exact Nat.le_refl _⟩, ⟨zk aa⟩, ⟨zb HB⟩⟩
 case rest =>
  clear HC2 b3 b4 b5 b6 b7 b8 b9 ca
  obtain ⟨kq, bm, rfl, HA, bw, aa, HB⟩ := hcut
  cases kq with
  | zero => exact absurd HA.out (by simp [impl_LoopOk.j0])
  | succ kj1 =>
   have H := HA.out; clear HA
   simp only [impl_LoopOk.j0] at H
   by_cases c14 : bm = true
   ·subst c14
    have H1 : (some false) = some r := by rw [if_pos rfl] at H; exact H
    clear H; have H := H1; clear H1; obtain rfl := Option.some.inj H
    go_wp2
    go_ret
    exact ⟨ze, zb HB⟩
   ·replace c14 := Bool.eq_false_iff.mpr c14
    subst c14
    have H1 : (impl_LoopOk.l0 kj1 (af.length : Int) ([] : List Int) ab (ab.length : Int) 0 af a0_1 ab ae) = some r := by rw [if_neg (show ¬ (false = true) by decide)] at H; exact H
    clear H; have H := H1; clear H1; have H' := zK H; clear H
    have bx : wc.cell? ⟨ac, 0, none⟩ = some (.slice ao af.length ap) := (blk_cell aa.out 0).trans rfl
    have bz : wc.cell? ⟨ac, 1, none⟩ = some (.int .i64 a0_1) := (blk_cell aa.out 1).trans rfl
    have bA : wc.cell? ⟨ac, 2, none⟩ = some (.slice au ab.length aq) := (blk_cell aa.out 2).trans rfl
    have bB : wc.cell? ⟨ac, 3, none⟩ = some (.slice aw ae.length ar) := (blk_cell aa.out 3).trans rfl
    have bC := blk_frozen aa.out 0; have bD := blk_frozen aa.out 1; have bE := blk_frozen aa.out 2; have bF := blk_frozen aa.out 3
    go_wp2
    go_loopg [4, 46] kj1 (fun kq v4 v46 w' => ∃ (aJ : List Int) (ad : Int), v46 = .int .i64 ad ∧ Aside0 (impl_LoopOk.l0 kq (af.length : Int) aJ ab (ab.length : Int) ad af a0_1 ab ae = some r) ∧ Aside0 (kq ≤ kj1) ∧ Aside0 (Kd.R (Kd.int .i64) 3 w' w.heap.size (fun _ => True) v4 aJ) ∧ Aside0 (w'.heap[ac]? = some (.cells #[(.slice ao af.length ap), .int .i64 a0_1, (.slice au ab.length aq), (.slice aw ae.length ar)] 28 (0, 0))) ∧ Aside0 (Below w.heap.size w w'))
    case atStart => exact ⟨(([] : List Int)), (0), zf, H', ⟨Nat.le_refl _⟩, ⟨by first | exact Kd.R_nil _ _ _ _ _ | exact Kd.N_nil _ _ _ _ _ | exact Kd.V_nil _ _ _ _ _ | exact Kd.Q_nil _ _ _ _ _ | exact Kd.S_nil _ _ _ _ _⟩, ⟨zk aa⟩, ⟨zb HB⟩⟩
    case round =>
     clear H' bx bz bA bB bC bD bE bF
     obtain ⟨aJ, ad, rfl, HA, bG, ai, aa, HB⟩ := hrel
     cases gk with
     | zero => exact absurd HA.out (by simp [impl_LoopOk.l0])
     | succ k2 =>
      have H := HA.out; clear HA
      simp only [impl_LoopOk.l0] at H
      by_cases ce : ad < (ab.length : Int)
      ·rw [if_pos ce] at H
       have bq : decide (ad < (ab.length : Int)) = true := decide_eq_true ce
       clear ce
       by_cases c17 : 0 ≤ ad
       ·rw [if_pos c17] at H
        have cp : decide (0 ≤ ad) = true := decide_eq_true c17
        clear c17
        by_cases c18 : ad < (ab.length : Int)
        ·rw [if_pos c18] at H
         have cq : decide (ad < (ab.length : Int)) = true := decide_eq_true c18
         clear c18; have cb := zK H; clear H
         have bH : 0 ≤ (ad : Int) := zd
         have bI : ad < (ab.length : Int) := zd
         obtain ⟨bd, aU, aV, e206, a2, a3, a4, bn, bo⟩ := at_T69 bc.out ad bH bI
         cases e206
         replace a2 := (HB.out.cell (World.block_lt_of_cell? w _ a2)).trans a2
         replace a3 := (HB.out.cell (World.block_lt_of_cell? w _ a3)).trans a3
         replace a4 := (HB.out.cell (World.block_lt_of_cell? w _ a4)).trans a4
         have HR206_2 := zK bo; have HC206_2 := zK bn; clear bo bn; replace bH := eq_true bH; replace bI := eq_true bI
         go_upto_region 8 with (first | ((with_reducible refine gate_dst (N := 7) rfl ?_); (try (refine gate_guard (by rfl) ?_; dsimp only)); refine zX 7 #[.int .i64 0, .int .i64 0, .slice none 0 0] 69 ?_; intro al hg bb hbox hb; have ay := zK (Kd.R_below (zR ai) hb); have az := zK (blk_below (g := ac) (o := .cells #[.slice ao af.length ap, .int .i64 a0_1, .slice (some bd) ab.length aq, .slice aw ae.length ar] 28 (0, 0)) (zk aa) hb); have aA := zK (below_step (zb HB) hb); have aC := zK (hbox); have aG := zK ((by rw [hg]; exact (below_size (zb HB)) : w.heap.size ≤ al)); have br := zK ((by rw [hg]; exact (below_size (zb HB)) : w.heap.size ≤ al)); have bs := zK ((by rw [hg]; exact Nat.ne_of_lt (blk_lt (g := ac) (o := .cells #[.slice ao af.length ap, .int .i64 a0_1, .slice (some bd) ab.length aq, .slice aw ae.length ar] 28 (0, 0)) (zk aa)) : ac ≠ al)); have bu := zK ((by rw [hg]; exact Nat.ne_of_gt (blk_lt (g := ac) (o := .cells #[.slice ao af.length ap, .int .i64 a0_1, .slice (some bd) ab.length aq, .slice aw ae.length ar] 28 (0, 0)) (zk aa)) : al ≠ ac)); clear ai; clear aa; clear HB; have ai := ay; have aa := az; have HB := aA; have ah := aC; have GW207 := aG; have aX := br; have aj := bs; have aH := bu; clear ay az aA aC aG br bs bu; clear hb hbox hg; have hnb21 := aH.out; have hnc21 := aj.out; have bJ : bb.cell? ⟨al, 0, none⟩ = some (.int .i64 0) := (blk_cell ah.out 0).trans rfl; have bK : bb.cell? ⟨al, 1, none⟩ = some (.int .i64 0) := (blk_cell ah.out 1).trans rfl; have bL : bb.cell? ⟨al, 2, none⟩ = some (.slice none 0 0) := (blk_cell ah.out 2).trans rfl; have bM := blk_frozen ah.out 0; have bN := blk_frozen ah.out 1; have bO := blk_frozen ah.out 2))
         (try simp only [Act.put, zp, zq, zr])
         go_cut [76] (fun v76 wc => ∃ (kq : Nat) (ba : Bool), v76 = .bool ba ∧ Aside0 (impl_LoopOk.j2 kq (af.length : Int) aJ ab (ab.length : Int) ad ba af a0_1 ab ae ((rd_T69 ab ad).f0) ((rd_T69 ab ad).f1) ((rd_T69 ab ad).f2) = some r) ∧ Aside0 (kq ≤ k2) ∧ Aside0 (Kd.R (Kd.int .i64) 3 wc w.heap.size (fun _ => True) u4 aJ) ∧ Aside0 (wc.heap[ac]? = some (.cells #[(.slice ao af.length ap), .int .i64 a0_1, (.slice (some bd) ab.length aq), (.slice aw ae.length ar)] 28 (0, 0))) ∧ Aside0 (wc.heap[al]? = some (.cells #[.int .i64 ((rd_T69 ab ad).f0), .int .i64 ((rd_T69 ab ad).f1), (.slice aU ((rd_T69 ab ad).f2).length aV)] 69 (0, 0))) ∧ Aside0 (Below w.heap.size w wc))
         case first =>
          have H := cb.out; clear cb
          by_cases cf : ((rd_T69 ab ad).f0) < 0
          ·rw [if_pos cf] at H
           have be : decide (((rd_T69 ab ad).f0) < 0) = true := decide_eq_true cf
           clear cf
           (first | rw [be] | (simp only [i64_w, i32_w]; rw [be]) | skip)
           have H' := zK H; clear H; have hnb24 := aH.out; have hnc24 := aj.out
           have hcz25_0 : bb.cell? ⟨al, 0, none⟩ = some (.int .i64 0) := (blk_cell ah.out 0).trans rfl
           have hcz25_1 : bb.cell? ⟨al, 1, none⟩ = some (.int .i64 0) := (blk_cell ah.out 1).trans rfl
           have hcz25_2 : bb.cell? ⟨al, 2, none⟩ = some (.slice none 0 0) := (blk_cell ah.out 2).trans rfl
           have hfz25_0 := blk_frozen ah.out 0; have hfz25_1 := blk_frozen ah.out 1; have hfz25_2 := blk_frozen ah.out 2
           go_wp2
           go_meet
           case rel => exact ⟨_, (true), zf, H', ⟨by have := bw.out; have := bG.out; first | omega | exact Nat.le_refl _⟩, ⟨by (with_reducible repeat (first | apply Kd.R_alloc | apply Kd.R_drewN | apply Kd.R_drew)); exact Kd.R_mono (Kd.R_far (p := ⟨al, 2, none⟩) (Kd.R_far (p := ⟨al, 1, none⟩) (Kd.R_far (p := ⟨al, 0, none⟩) (Kd.R_types ai.out ah.out (by decide)) (fun _ hk => hk.2) (.int .i64 ((rd_T69 ab ad).f0))) (fun _ hk => hk.2) (.int .i64 ((rd_T69 ab ad).f1))) (fun _ hk => hk.2) (.slice aU ((rd_T69 ab ad).f2).length aV)) (fun _ hk => trivial)⟩, ⟨zh aa aj⟩, ⟨by (with_reducible repeat (first | refine zN ?_ _ | refine zD ?_ | refine zA ?_ _)); refine blk_put (cs := #[.int .i64 ((rd_T69 ab ad).f0), .int .i64 ((rd_T69 ab ad).f1), .slice none 0 0]) ?_ 2 _ rfl; (with_reducible repeat (first | refine zN ?_ _ | refine zD ?_ | refine zA ?_ _)); refine blk_put (cs := #[.int .i64 ((rd_T69 ab ad).f0), .int .i64 0, .slice none 0 0]) ?_ 1 _ rfl; (with_reducible repeat (first | refine zN ?_ _ | refine zD ?_ | refine zA ?_ _)); refine blk_put (cs := #[.int .i64 0, .int .i64 0, .slice none 0 0]) ?_ 0 _ rfl; (with_reducible repeat (first | refine zN ?_ _ | refine zD ?_ | refine zA ?_ _)); exact ah.out⟩, ⟨zb HB⟩⟩
          ·rw [if_neg cf] at H
           have be : decide (((rd_T69 ab ad).f0) < 0) = false := decide_eq_false cf
           clear cf
           (first | rw [be] | (simp only [i64_w, i32_w]; rw [be]) | skip)
           by_cases cg : ((rd_T69 ab ad).f0) ≥ (af.length : Int)
           ·rw [if_pos cg] at H
            have cr : decide ((af.length : Int) ≤ ((rd_T69 ab ad).f0)) = true := decide_eq_true cg
            clear cg; have H' := zK H; clear H; have hnb27 := aH.out; have hnc27 := aj.out
            have hcz28_0 : bb.cell? ⟨al, 0, none⟩ = some (.int .i64 0) := (blk_cell ah.out 0).trans rfl
            have hcz28_1 : bb.cell? ⟨al, 1, none⟩ = some (.int .i64 0) := (blk_cell ah.out 1).trans rfl
            have hcz28_2 : bb.cell? ⟨al, 2, none⟩ = some (.slice none 0 0) := (blk_cell ah.out 2).trans rfl
            have hfz28_0 := blk_frozen ah.out 0; have hfz28_1 := blk_frozen ah.out 1; have hfz28_2 := blk_frozen ah.out 2
            go_wp2
            go_meet
            case rel => exact ⟨_, (true), zf, H', ⟨by have := bw.out; have := bG.out; first | omega | exact Nat.le_refl _⟩, ⟨by (with_reducible repeat (first | apply Kd.R_alloc | apply Kd.R_drewN | apply Kd.R_drew)); exact Kd.R_mono (Kd.R_far (p := ⟨al, 2, none⟩) (Kd.R_far (p := ⟨al, 1, none⟩) (Kd.R_far (p := ⟨al, 0, none⟩) (Kd.R_types ai.out ah.out (by decide)) (fun _ hk => hk.2) (.int .i64 ((rd_T69 ab ad).f0))) (fun _ hk => hk.2) (.int .i64 ((rd_T69 ab ad).f1))) (fun _ hk => hk.2) (.slice aU ((rd_T69 ab ad).f2).length aV)) (fun _ hk => trivial)⟩, ⟨zh aa aj⟩, ⟨by (with_reducible repeat (first | refine zN ?_ _ | refine zD ?_ | refine zA ?_ _)); refine blk_put (cs := #[.int .i64 ((rd_T69 ab ad).f0), .int .i64 ((rd_T69 ab ad).f1), .slice none 0 0]) ?_ 2 _ rfl; (with_reducible repeat (first | refine zN ?_ _ | refine zD ?_ | refine zA ?_ _)); refine blk_put (cs := #[.int .i64 ((rd_T69 ab ad).f0), .int .i64 0, .slice none 0 0]) ?_ 1 _ rfl; (with_reducible repeat (first | refine zN ?_ _ | refine zD ?_ | refine zA ?_ _)); refine blk_put (cs := #[.int .i64 0, .int .i64 0, .slice none 0 0]) ?_ 0 _ rfl; (with_reducible repeat (first | refine zN ?_ _ | refine zD ?_ | refine zA ?_ _)); exact ah.out⟩, ⟨zb HB⟩⟩
           ·rw [if_neg cg] at H
            have cr : decide ((af.length : Int) ≤ ((rd_T69 ab ad).f0)) = false := decide_eq_false cg
            clear cg
            by_cases ch : ((rd_T69 ab ad).f1) < 0
            ·rw [if_pos ch] at H
             have ct : decide (((rd_T69 ab ad).f1) < 0) = true := decide_eq_true ch
             clear ch; have H' := zK H; clear H; have hnb30 := aH.out; have hnc30 := aj.out
             have hcz31_0 : bb.cell? ⟨al, 0, none⟩ = some (.int .i64 0) := (blk_cell ah.out 0).trans rfl
             have hcz31_1 : bb.cell? ⟨al, 1, none⟩ = some (.int .i64 0) := (blk_cell ah.out 1).trans rfl
             have hcz31_2 : bb.cell? ⟨al, 2, none⟩ = some (.slice none 0 0) := (blk_cell ah.out 2).trans rfl
             have hfz31_0 := blk_frozen ah.out 0; have hfz31_1 := blk_frozen ah.out 1; have hfz31_2 := blk_frozen ah.out 2
             go_wp2
             go_meet
             case rel => exact ⟨_, (true), zf, H', ⟨by have := bw.out; have := bG.out; first | omega | exact Nat.le_refl _⟩, ⟨by (with_reducible repeat (first | apply Kd.R_alloc | apply Kd.R_drewN | apply Kd.R_drew)); exact Kd.R_mono (Kd.R_far (p := ⟨al, 2, none⟩) (Kd.R_far (p := ⟨al, 1, none⟩) (Kd.R_far (p := ⟨al, 0, none⟩) (Kd.R_types ai.out ah.out (by decide)) (fun _ hk => hk.2) (.int .i64 ((rd_T69 ab ad).f0))) (fun _ hk => hk.2) (.int .i64 ((rd_T69 ab ad).f1))) (fun _ hk => hk.2) (.slice aU ((rd_T69 ab ad).f2).length aV)) (fun _ hk => trivial)⟩, ⟨zh aa aj⟩, ⟨by (with_reducible repeat (first | refine zN ?_ _ | refine zD ?_ | refine zA ?_ _)); refine blk_put (cs := #[.int .i64 ((rd_T69 ab ad).f0), .int .i64 ((rd_T69 ab ad).f1), .slice none 0 0]) ?_ 2 _ rfl; (with_reducible repeat (first | refine zN ?_ _ | refine zD ?_ | refine zA ?_ _)); refine blk_put (cs := #[.int .i64 ((rd_T69 ab ad).f0), .int .i64 0, .slice none 0 0]) ?_ 1 _ rfl; (with_reducible repeat (first | refine zN ?_ _ | refine zD ?_ | refine zA ?_ _)); refine blk_put (cs := #[.int .i64 0, .int .i64 0, .slice none 0 0]) ?_ 0 _ rfl; (with_reducible repeat (first | refine zN ?_ _ | refine zD ?_ | refine zA ?_ _)); exact ah.out⟩, ⟨zb HB⟩⟩
            ·rw [if_neg ch] at H
             have ct : decide (((rd_T69 ab ad).f1) < 0) = false := decide_eq_false ch
             clear ch
             by_cases ci : ((rd_T69 ab ad).f1) > 40
             ·rw [if_pos ci] at H
              have cu : decide (40 < ((rd_T69 ab ad).f1)) = true := decide_eq_true ci
              clear ci; have H' := zK H; clear H; have hnb33 := aH.out; have hnc33 := aj.out
              have hcz34_0 : bb.cell? ⟨al, 0, none⟩ = some (.int .i64 0) := (blk_cell ah.out 0).trans rfl
              have hcz34_1 : bb.cell? ⟨al, 1, none⟩ = some (.int .i64 0) := (blk_cell ah.out 1).trans rfl
              have hcz34_2 : bb.cell? ⟨al, 2, none⟩ = some (.slice none 0 0) := (blk_cell ah.out 2).trans rfl
              have hfz34_0 := blk_frozen ah.out 0; have hfz34_1 := blk_frozen ah.out 1; have hfz34_2 := blk_frozen ah.out 2
              go_wp2
              go_meet
              case rel => exact ⟨_, (true), zf, H', ⟨by have := bw.out; have := bG.out; first | omega | exact Nat.le_refl _⟩, ⟨by (with_reducible repeat (first | apply Kd.R_alloc | apply Kd.R_drewN | apply Kd.R_drew)); exact Kd.R_mono (Kd.R_far (p := ⟨al, 2, none⟩) (Kd.R_far (p := ⟨al, 1, none⟩) (Kd.R_far (p := ⟨al, 0, none⟩) (Kd.R_types ai.out ah.out (by decide)) (fun _ hk => hk.2) (.int .i64 ((rd_T69 ab ad).f0))) (fun _ hk => hk.2) (.int .i64 ((rd_T69 ab ad).f1))) (fun _ hk => hk.2) (.slice aU ((rd_T69 ab ad).f2).length aV)) (fun _ hk => trivial)⟩, ⟨zh aa aj⟩, ⟨by (with_reducible repeat (first | refine zN ?_ _ | refine zD ?_ | refine zA ?_ _)); refine blk_put (cs := #[.int .i64 ((rd_T69 ab ad).f0), .int .i64 ((rd_T69 ab ad).f1), .slice none 0 0]) ?_ 2 _ rfl; (with_reducible repeat (first | refine zN ?_ _ | refine zD ?_ | refine zA ?_ _)); refine blk_put (cs := #[.int .i64 ((rd_T69 ab ad).f0), .int .i64 0, .slice none 0 0]) ?_ 1 _ rfl; (with_reducible repeat (first | refine zN ?_ _ | refine zD ?_ | refine zA ?_ _)); refine blk_put (cs := #[.int .i64 0, .int .i64 0, .slice none 0 0]) ?_ 0 _ rfl; (with_reducible repeat (first | refine zN ?_ _ | refine zD ?_ | refine zA ?_ _)); exact ah.out⟩, ⟨zb HB⟩⟩
             ·rw [if_neg ci] at H
              have cu : decide (40 < ((rd_T69 ab ad).f1)) = false := decide_eq_false ci
              clear ci; have H' := zK H; clear H; have hnb35 := aH.out; have hnc35 := aj.out
              have hcz36_0 : bb.cell? ⟨al, 0, none⟩ = some (.int .i64 0) := (blk_cell ah.out 0).trans rfl
              have hcz36_1 : bb.cell? ⟨al, 1, none⟩ = some (.int .i64 0) := (blk_cell ah.out 1).trans rfl
              have hcz36_2 : bb.cell? ⟨al, 2, none⟩ = some (.slice none 0 0) := (blk_cell ah.out 2).trans rfl
              have hfz36_0 := blk_frozen ah.out 0; have hfz36_1 := blk_frozen ah.out 1; have hfz36_2 := blk_frozen ah.out 2
              go_wp2
              go_meet
              case rel => exact ⟨_, (decide ((((rd_T69 ab ad).f2).length : Int) > ((rd_T69 ab ad).f1))), zf, H', ⟨by have := bw.out; have := bG.out; first | omega | exact Nat.le_refl _⟩, ⟨by (with_reducible repeat (first | apply Kd.R_alloc | apply Kd.R_drewN | apply Kd.R_drew)); exact Kd.R_mono (Kd.R_far (p := ⟨al, 2, none⟩) (Kd.R_far (p := ⟨al, 1, none⟩) (Kd.R_far (p := ⟨al, 0, none⟩) (Kd.R_types ai.out ah.out (by decide)) (fun _ hk => hk.2) (.int .i64 ((rd_T69 ab ad).f0))) (fun _ hk => hk.2) (.int .i64 ((rd_T69 ab ad).f1))) (fun _ hk => hk.2) (.slice aU ((rd_T69 ab ad).f2).length aV)) (fun _ hk => trivial)⟩, ⟨zh aa aj⟩, ⟨by (with_reducible repeat (first | refine zN ?_ _ | refine zD ?_ | refine zA ?_ _)); refine blk_put (cs := #[.int .i64 ((rd_T69 ab ad).f0), .int .i64 ((rd_T69 ab ad).f1), .slice none 0 0]) ?_ 2 _ rfl; (with_reducible repeat (first | refine zN ?_ _ | refine zD ?_ | refine zA ?_ _)); refine blk_put (cs := #[.int .i64 ((rd_T69 ab ad).f0), .int .i64 0, .slice none 0 0]) ?_ 1 _ rfl; (with_reducible repeat (first | refine zN ?_ _ | refine zD ?_ | refine zA ?_ _)); refine blk_put (cs := #[.int .i64 0, .int .i64 0, .slice none 0 0]) ?_ 0 _ rfl; (with_reducible repeat (first | refine zN ?_ _ | refine zD ?_ | refine zA ?_ _)); exact ah.out⟩, ⟨zb HB⟩⟩
         case rest =>
          clear cb bq cp cq bJ bK bL bM bN bO a2 a3 a4 bH bI
          obtain ⟨kq, ba, rfl, HA, cv, ai, aa, ah, HB⟩ := hcut
          cases kq with
          | zero => exact absurd HA.out (by simp [impl_LoopOk.j2])
          | succ kj18 =>
           have H := HA.out; clear HA
           simp only [impl_LoopOk.j2] at H
           by_cases c37 : ba = true
           ·subst c37
            have H1 : (some false) = some r := by rw [if_pos rfl] at H; exact H
            clear H; have H := H1; clear H1; obtain rfl := Option.some.inj H
            go_wp2
            go_ret
            exact ⟨ze, zb HB⟩
           ·replace c37 := Bool.eq_false_iff.mpr c37
            subst c37
            have H1 : (if aJ.length < 17592186044416 then (impl_LoopOk.l0 kj18 (af.length : Int) (aJ ++ [((rd_T69 ab ad).f0)]) ab (ab.length : Int) (wrap64 (ad + 1)) af a0_1 ab ae) else (none)) = some r := by rw [if_neg (show ¬ (false = true) by decide)] at H; exact H
            clear H; have H := H1; clear H1
            by_cases c38 : aJ.length < 17592186044416
            ·rw [if_pos c38] at H
             have cw := zK c38; clear c38
             obtain ⟨cx, bf⟩ : ∃ y_ : List Int, y_ = (aJ ++ [((rd_T69 ab ad).f0)]) := ⟨_, rfl⟩
             replace H : (impl_LoopOk.l0 kj18 (af.length : Int) cx ab (ab.length : Int) (wrap64 (ad + 1)) af a0_1 ab ae) = some r := by first | (rw [bf]; with_reducible exact H) | (have H2_ := (Option.bind_some _ _).symm.trans H; rw [bf]; with_reducible exact H2_) | (have H2_ := (Option.bind_some _ _).symm.trans H; with_reducible exact H2_) | with_reducible exact H | (rw [bf]; exact H) | exact H
             have Ny208 := zK bf; clear bf; have H' := zK H; clear H; have hnb39 := aH.out; have hnc39 := aj.out
             have hcz40_0 : wc.cell? ⟨al, 0, none⟩ = some (.int .i64 ((rd_T69 ab ad).f0)) := (blk_cell ah.out 0).trans rfl
             have hcz40_1 : wc.cell? ⟨al, 1, none⟩ = some (.int .i64 ((rd_T69 ab ad).f1)) := (blk_cell ah.out 1).trans rfl
             have hcz40_2 : wc.cell? ⟨al, 2, none⟩ = some (.slice aU ((rd_T69 ab ad).f2).length aV) := (blk_cell ah.out 2).trans rfl
             have hfz40_0 := blk_frozen ah.out 0; have hfz40_1 := blk_frozen ah.out 1; have hfz40_2 := blk_frozen ah.out 2
             go_wp2_with (first | ((with_reducible refine gate_builtin (b := .append) (xs := #[.tmp 77, .tmp 80]) rfl ?_); (try (refine gate_guard (by rfl) ?_; dsimp only)); at_builtin; refine Kd.R_append (Kd.int .i64) (w0 := w) w.heap.size rfl (.tmp 77) (.tmp 80) 24 3 (.int .i64 0) 8 rfl Try.underlying24 info3 rfl (by decide) (by omega) u4 aJ ((rd_T69 ab ad).f0) [.int .i64 ((rd_T69 ab ad).f0)] (fun _ => True) (fun _ => False) rfl rfl ?aP (fun _ hk => hk.elim) ?aF ?aO ?aB ?aS ?aL ?_; (case aP => exact rfl); (case aB => exact (zb HB)); (case aF => exact (fun _ _ => trivial)); (case aO => exact (zR ai)); (case aS => exact (below_size (zb HB))); (case aL => have := cw.out; omega); intro v209 w41 ho hb hg hat; rw [← Ny208.out] at ho; have ay := zK (blk_grown (g := ac) (o := .cells #[.slice ao af.length ap, .int .i64 a0_1, .slice (some bd) ab.length aq, .slice aw ae.length ar] 28 (0, 0)) (zk aa) hg (Kd.R_ne ai.out aa.out (by decide))); have az := zK (blk_grown (g := al) (o := .cells #[.int .i64 ((rd_T69 ab ad).f0), .int .i64 ((rd_T69 ab ad).f1), .slice aU ((rd_T69 ab ad).f2).length aV] 69 (0, 0)) (zk ah) hg (Kd.R_ne ai.out ah.out (by decide))); have aA := zK (hb); have aC := zK (ho); clear aa; clear ah; clear HB; clear ai; have aa := ay; have ah := az; have HB := aA; have cy := aC; clear ay az aA aC; clear ho hb hg hat))
             go_roundg kj18
             case measure => have := bw.out; have := bG.out; have := cv.out; omega
             case rel => exact ⟨(cx), (wrap64 (ad + 1)), zf, H', ⟨by have := bw.out; have := bG.out; have := cv.out; omega⟩, ⟨zR cy⟩, ⟨zk aa⟩, ⟨zb HB⟩⟩
            ·rw [if_neg c38] at H
             exact absurd H (by simp)
        ·rw [if_neg c18] at H
         exact absurd H (by simp)
       ·rw [if_neg c17] at H
        exact absurd H (by simp)
      ·rw [if_neg ce] at H
       have bq : decide (ad < (ab.length : Int)) = false := decide_eq_false ce
       clear ce; have H' := zK H; clear H
       have bP : wr.cell? ⟨ac, 0, none⟩ = some (.slice ao af.length ap) := (blk_cell aa.out 0).trans rfl
       have bQ : wr.cell? ⟨ac, 1, none⟩ = some (.int .i64 a0_1) := (blk_cell aa.out 1).trans rfl
       have bR : wr.cell? ⟨ac, 2, none⟩ = some (.slice au ab.length aq) := (blk_cell aa.out 2).trans rfl
       have bS : wr.cell? ⟨ac, 3, none⟩ = some (.slice aw ae.length ar) := (blk_cell aa.out 3).trans rfl
       have bT := blk_frozen aa.out 0; have bU := blk_frozen aa.out 1; have bV := blk_frozen aa.out 2; have bW := blk_frozen aa.out 3
       go_wp2
       go_loopg [5, 86] k2 (fun kq v5 v86 w' => ∃ (aT : List Int) (am : Int), v86 = .int .i64 am ∧ Aside0 (impl_LoopOk.l1 kq aJ aT ae (ae.length : Int) am af a0_1 ab ae = some r) ∧ Aside0 (kq ≤ k2) ∧ Aside0 (Kd.R (Kd.int .i64) 3 w' w.heap.size (fun k_ => some k_ ≠ (v5 : Value).ownBlock) u4 aJ) ∧ Aside0 (Kd.R (Kd.int .i64) 3 w' w.heap.size (fun k_ => some k_ ≠ (u4 : Value).ownBlock) v5 aT) ∧ Aside0 (w'.heap[ac]? = some (.cells #[(.slice ao af.length ap), .int .i64 a0_1, (.slice au ab.length aq), (.slice aw ae.length ar)] 28 (0, 0))) ∧ Aside0 (Below w.heap.size w w'))
       case atStart => exact ⟨(([] : List Int)), (0), zf, H', ⟨Nat.le_refl _⟩, ⟨by (with_reducible repeat (first | apply Kd.R_alloc | apply Kd.R_drewN | apply Kd.R_drew)); exact Kd.R_mono ai.out (fun _ hk => (by simp [Value.ownBlock]))⟩, ⟨by first | exact Kd.R_nil _ _ _ _ _ | exact Kd.N_nil _ _ _ _ _ | exact Kd.V_nil _ _ _ _ _ | exact Kd.Q_nil _ _ _ _ _ | exact Kd.S_nil _ _ _ _ _⟩, ⟨zk aa⟩, ⟨zb HB⟩⟩
       case round =>
        clear H' bq bP bQ bR bS bT bU bV bW
        obtain ⟨aT, am, rfl, HA, HK3, ai, an, aa, HB⟩ := hrel
        cases gk with
        | zero => exact absurd HA.out (by simp [impl_LoopOk.l1])
        | succ k3 =>
         have H := HA.out; clear HA
         simp only [impl_LoopOk.l1] at H
         by_cases cj : am < (ae.length : Int)
         ·rw [if_pos cj] at H
          have cz : decide (am < (ae.length : Int)) = true := decide_eq_true cj
          clear cj
          by_cases c44 : 0 ≤ am
          ·rw [if_pos c44] at H
           have c44b0 : decide (0 ≤ am) = true := decide_eq_true c44
           clear c44
           by_cases c45 : am < (ae.length : Int)
           ·rw [if_pos c45] at H
            have c45b0 : decide (am < (ae.length : Int)) = true := decide_eq_true c45
            clear c45
            by_cases ck : ((rd_T74 ae am).f0) < 1
            ·rw [if_pos ck] at H
             have cA : decide (((rd_T74 ae am).f0) < 1) = true := decide_eq_true ck
             clear ck; obtain rfl := Option.some.inj H
             have a8 : 0 ≤ (am : Int) := zd
             have a9 : am < (ae.length : Int) := zd
             obtain ⟨aK, aZ, a0, bv, aD, aE, aM, aN⟩ := at_T74 a7.out am a8 a9
             cases bv
             replace aD := (HB.out.cell (World.block_lt_of_cell? w _ aD)).trans aD
             replace aE := (HB.out.cell (World.block_lt_of_cell? w _ aE)).trans aE
             have a5 := zK aN; have a6 := zK aM; clear aN aM; replace a8 := eq_true a8; replace a9 := eq_true a9
             go_wp2_with (first | ((with_reducible refine gate_dst (N := 9) rfl ?_); (try (refine gate_guard (by rfl) ?_; dsimp only)); refine zX 9 #[.int .i64 0, .slice none 0 0] 74 ?_; intro av hg w47 hbox hb; have ay := zK (Kd.R_below (zR ai) hb); have az := zK (Kd.R_below (zR an) hb); have aA := zK (blk_below (g := ac) (o := .cells #[.slice ao af.length ap, .int .i64 a0_1, .slice au ab.length aq, .slice (some aK) ae.length ar] 28 (0, 0)) (zk aa) hb); have aC := zK (below_step (zb HB) hb); have aG := zK (hbox); have br := zK ((by rw [hg]; exact (below_size (zb HB)) : w.heap.size ≤ av)); have bs := zK ((by rw [hg]; exact (below_size (zb HB)) : w.heap.size ≤ av)); have bu := zK ((by rw [hg]; exact Nat.ne_of_lt (blk_lt (g := ac) (o := .cells #[.slice ao af.length ap, .int .i64 a0_1, .slice au ab.length aq, .slice (some aK) ae.length ar] 28 (0, 0)) (zk aa)) : ac ≠ av)); have b1 := zK ((by rw [hg]; exact Nat.ne_of_gt (blk_lt (g := ac) (o := .cells #[.slice ao af.length ap, .int .i64 a0_1, .slice au ab.length aq, .slice (some aK) ae.length ar] 28 (0, 0)) (zk aa)) : av ≠ ac)); clear ai; clear an; clear aa; clear HB; have ai := ay; have an := az; have aa := aA; have HB := aC; have ax := aG; have b2 := br; have aY := bs; have aI := bu; have aQ := b1; clear ay az aA aC aG br bs bu b1; clear hb hbox hg; have hnb48 := aQ.out; have hnc48 := aI.out; have hcz49_0 : w47.cell? ⟨av, 0, none⟩ = some (.int .i64 0) := (blk_cell ax.out 0).trans rfl; have hcz49_1 : w47.cell? ⟨av, 1, none⟩ = some (.slice none 0 0) := (blk_cell ax.out 1).trans rfl; have hfz49_0 := blk_frozen ax.out 0; have hfz49_1 := blk_frozen ax.out 1))
             go_ret
             exact ⟨ze, zb HB⟩
            ·rw [if_neg ck] at H
             have cA : decide (((rd_T74 ae am).f0) < 1) = false := decide_eq_false ck
             clear ck; replace H := Option.bind_eq_some_iff.mp H
             obtain ⟨cB, cC, H⟩ := H
             replace H : (if cB = true then (if aT.length < 17592186044416 then (impl_LoopOk.l1 k3 aJ (aT ++ [(rd_T74 ae am).f0]) ae (ae.length : Int) (wrap64 (am + 1)) af a0_1 ab ae) else (none)) else (some false)) = some r := H
             have A50 := zK cC; clear cC
             by_cases c51 : cB = true
             ·subst c51
              have H1 : (if aT.length < 17592186044416 then (impl_LoopOk.l1 k3 aJ (aT ++ [(rd_T74 ae am).f0]) ae (ae.length : Int) (wrap64 (am + 1)) af a0_1 ab ae) else (none)) = some r := by rw [if_pos rfl] at H; exact H
              clear H; have H := H1; clear H1
              by_cases c52 : aT.length < 17592186044416
              ·rw [if_pos c52] at H
               have cD := zK c52; clear c52
               obtain ⟨cE, bg⟩ : ∃ y_ : List Int, y_ = (aT ++ [(rd_T74 ae am).f0]) := ⟨_, rfl⟩
               replace H : (impl_LoopOk.l1 k3 aJ cE ae (ae.length : Int) (wrap64 (am + 1)) af a0_1 ab ae) = some r := by first | (rw [bg]; with_reducible exact H) | (have H2_ := (Option.bind_some _ _).symm.trans H; rw [bg]; with_reducible exact H2_) | (have H2_ := (Option.bind_some _ _).symm.trans H; with_reducible exact H2_) | with_reducible exact H | (rw [bg]; exact H) | exact H
               have Ny214 := zK bg; clear bg; have H' := zK H; clear H
               have a8 : 0 ≤ (am : Int) := zd
               have a9 : am < (ae.length : Int) := zd
               obtain ⟨aK, aZ, a0, bv, aD, aE, aM, aN⟩ := at_T74 a7.out am a8 a9
               cases bv
               replace aD := (HB.out.cell (World.block_lt_of_cell? w _ aD)).trans aD
               replace aE := (HB.out.cell (World.block_lt_of_cell? w _ aE)).trans aE
               have a5 := zK aN; have a6 := zK aM; clear aN aM; replace a8 := eq_true a8; replace a9 := eq_true a9
               go_wp2_with (first | ((with_reducible refine gate_dst (N := 9) rfl ?_); (try (refine gate_guard (by rfl) ?_; dsimp only)); refine zX 9 #[.int .i64 0, .slice none 0 0] 74 ?_; intro av hg cl hbox hb; have ay := zK (Kd.R_below (zR ai) hb); have az := zK (Kd.R_below (zR an) hb); have aA := zK (blk_below (g := ac) (o := .cells #[.slice ao af.length ap, .int .i64 a0_1, .slice au ab.length aq, .slice (some aK) ae.length ar] 28 (0, 0)) (zk aa) hb); have aC := zK (below_step (zb HB) hb); have aG := zK (hbox); have br := zK ((by rw [hg]; exact (below_size (zb HB)) : w.heap.size ≤ av)); have bs := zK ((by rw [hg]; exact (below_size (zb HB)) : w.heap.size ≤ av)); have bu := zK ((by rw [hg]; exact Nat.ne_of_lt (blk_lt (g := ac) (o := .cells #[.slice ao af.length ap, .int .i64 a0_1, .slice au ab.length aq, .slice (some aK) ae.length ar] 28 (0, 0)) (zk aa)) : ac ≠ av)); have b1 := zK ((by rw [hg]; exact Nat.ne_of_gt (blk_lt (g := ac) (o := .cells #[.slice ao af.length ap, .int .i64 a0_1, .slice au ab.length aq, .slice (some aK) ae.length ar] 28 (0, 0)) (zk aa)) : av ≠ ac)); clear ai; clear an; clear aa; clear HB; have ai := ay; have an := az; have aa := aA; have HB := aC; have ax := aG; have b2 := br; have aY := bs; have aI := bu; have aQ := b1; clear ay az aA aC aG br bs bu b1; clear hb hbox hg; have hnb54 := aQ.out; have hnc54 := aI.out; have hcz55_0 : cl.cell? ⟨av, 0, none⟩ = some (.int .i64 0) := (blk_cell ax.out 0).trans rfl; have hcz55_1 : cl.cell? ⟨av, 1, none⟩ = some (.slice none 0 0) := (blk_cell ax.out 1).trans rfl; have hfz55_0 := blk_frozen ax.out 0; have hfz55_1 := blk_frozen ax.out 1; have hcz56_0 : cl.cell? ⟨ac, 0, none⟩ = some (.slice ao af.length ap) := (blk_cell aa.out 0).trans rfl; have hcz56_1 : cl.cell? ⟨ac, 1, none⟩ = some (.int .i64 a0_1) := (blk_cell aa.out 1).trans rfl; have hcz56_2 : cl.cell? ⟨ac, 2, none⟩ = some (.slice au ab.length aq) := (blk_cell aa.out 2).trans rfl; have hcz56_3 : cl.cell? ⟨ac, 3, none⟩ = some (.slice (some aK) ae.length ar) := (blk_cell aa.out 3).trans rfl; have hfz56_0 := blk_frozen aa.out 0; have hfz56_1 := blk_frozen aa.out 1; have hfz56_2 := blk_frozen aa.out 2; have hfz56_3 := blk_frozen aa.out 3) | (go_at_call 63; (with_reducible refine (impl_areIndexes.calls k3 _ _ ((rd_T74 ae am).f1) (ab.length : Int) true _ ?side1 ?side2 A50.out).mono ?_); (case side1 => exact Kd.C_below a5.out (zb HB)); (case side2 => exact a6.out); rintro e w' ⟨rfl, ⟨nd, rfl⟩⟩) | ((with_reducible refine gate_builtin (b := .append) (xs := #[.tmp 102, .tmp 105]) rfl ?_); (try (refine gate_guard (by rfl) ?_; dsimp only)); at_builtin; refine Kd.R_append (Kd.int .i64) (w0 := w) w.heap.size rfl (.tmp 102) (.tmp 105) 24 3 (.int .i64 0) 8 rfl Try.underlying24 info3 rfl (by decide) (by omega) u5 aT ((rd_T74 ae am).f0) [.int .i64 ((rd_T74 ae am).f0)] (fun k_ => some k_ ≠ (u4 : Value).ownBlock) (fun _ => False) rfl (by first | (go_simp; done) | (go_simp; rfl)) ?aP (fun _ hk => hk.elim) ?aF ?aO ?aB ?aS ?aL ?_; (case aP => exact rfl); (case aB => exact (zb HB)); (case aF => exact (fun k_ hk => Kd.fresh' (Kd.R_lt (by (with_reducible repeat (first | apply Kd.R_alloc | apply Kd.R_drewN | apply Kd.R_drew)); exact (Kd.R_mono (Kd.R_far (p := ⟨av, 1, none⟩) (Kd.R_far (p := ⟨av, 0, none⟩) (Kd.R_types ai.out ax.out (by decide)) (fun _ hk => hk.2) (.int .i64 ((rd_T74 ae am).f0))) (fun _ hk => hk.2) (.slice aZ ((rd_T74 ae am).f1).length a0)) (fun _ h_ => h_.1)))) k_ hk)); (case aO => exact (by (with_reducible repeat (first | apply Kd.R_alloc | apply Kd.R_drewN | apply Kd.R_drew)); exact Kd.R_mono (Kd.R_far (p := ⟨av, 1, none⟩) (Kd.R_far (p := ⟨av, 0, none⟩) (Kd.R_types an.out ax.out (by decide)) (fun _ hk => hk.2) (.int .i64 ((rd_T74 ae am).f0))) (fun _ hk => hk.2) (.slice aZ ((rd_T74 ae am).f1).length a0)) (fun _ hk => hk.1))); (case aS => exact (below_size (zb HB))); (case aL => have := cD.out; omega); intro v215 w57 ho hb hg hat; rw [← Ny214.out] at ho; have ay := zK (Kd.R_after (ok := (fun _ => True)) (by (with_reducible repeat (first | apply Kd.R_alloc | apply Kd.R_drewN | apply Kd.R_drew)); exact Kd.R_mono (Kd.R_far (p := ⟨av, 1, none⟩) (Kd.R_far (p := ⟨av, 0, none⟩) (Kd.R_types ai.out ax.out (by decide)) (fun _ hk => hk.2) (.int .i64 ((rd_T74 ae am).f0))) (fun _ hk => hk.2) (.slice aZ ((rd_T74 ae am).f1).length a0)) (fun _ hk => ⟨trivial, hk.1⟩)) hg hat); have az := zK (blk_grown (g := ac) (o := .cells #[.slice ao af.length ap, .int .i64 a0_1, .slice au ab.length aq, .slice (some aK) ae.length ar] 28 (0, 0)) (zh aa aI) hg (Kd.R_ne an.out aa.out (by decide))); have aA := zK (blk_grown (g := av) (o := .cells #[.int .i64 ((rd_T74 ae am).f0), .slice aZ ((rd_T74 ae am).f1).length a0] 74 (0, 0)) (by (with_reducible repeat (first | refine zN ?_ _ | refine zD ?_ | refine zA ?_ _)); refine blk_put (cs := #[.int .i64 ((rd_T74 ae am).f0), .slice none 0 0]) ?_ 1 _ rfl; (with_reducible repeat (first | refine zN ?_ _ | refine zD ?_ | refine zA ?_ _)); refine blk_put (cs := #[.int .i64 0, .slice none 0 0]) ?_ 0 _ rfl; (with_reducible repeat (first | refine zN ?_ _ | refine zD ?_ | refine zA ?_ _)); exact ax.out) hg (Kd.R_ne an.out ax.out (by decide))); have aC := zK (hb); have aG := zK (ho); clear ai; clear aa; clear ax; clear HB; clear an; have ai := ay; have aa := az; have ax := aA; have HB := aC; have cF := aG; clear ay az aA aC aG; clear ho hb hg hat))
               go_roundg k3
               case measure => have := bw.out; have := bG.out; have := HK3.out; omega
               case rel => exact ⟨(cE), (wrap64 (am + 1)), zf, H', ⟨by have := bw.out; have := bG.out; have := HK3.out; omega⟩, ⟨by (with_reducible repeat (first | apply Kd.R_alloc | apply Kd.R_drewN | apply Kd.R_drew)); exact Kd.R_mono ai.out (fun _ hk => hk.2)⟩, ⟨zR cF⟩, ⟨zk aa⟩, ⟨zb HB⟩⟩
              ·rw [if_neg c52] at H
               exact absurd H (by simp)
             ·replace c51 := Bool.eq_false_iff.mpr c51
              subst c51
              have H1 : (some false) = some r := by rw [if_neg (show ¬ (false = true) by decide)] at H; exact H
              clear H; have H := H1; clear H1; obtain rfl := Option.some.inj H
              have a8 : 0 ≤ (am : Int) := zd
              have a9 : am < (ae.length : Int) := zd
              obtain ⟨aK, aZ, a0, bv, aD, aE, aM, aN⟩ := at_T74 a7.out am a8 a9
              cases bv
              replace aD := (HB.out.cell (World.block_lt_of_cell? w _ aD)).trans aD
              replace aE := (HB.out.cell (World.block_lt_of_cell? w _ aE)).trans aE
              have a5 := zK aN; have a6 := zK aM; clear aN aM; replace a8 := eq_true a8; replace a9 := eq_true a9
              go_wp2_with (first | ((with_reducible refine gate_dst (N := 9) rfl ?_); (try (refine gate_guard (by rfl) ?_; dsimp only)); refine zX 9 #[.int .i64 0, .slice none 0 0] 74 ?_; intro av hg cm hbox hb; have ay := zK (Kd.R_below (zR ai) hb); have az := zK (Kd.R_below (zR an) hb); have aA := zK (blk_below (g := ac) (o := .cells #[.slice ao af.length ap, .int .i64 a0_1, .slice au ab.length aq, .slice (some aK) ae.length ar] 28 (0, 0)) (zk aa) hb); have aC := zK (below_step (zb HB) hb); have aG := zK (hbox); have br := zK ((by rw [hg]; exact (below_size (zb HB)) : w.heap.size ≤ av)); have bs := zK ((by rw [hg]; exact (below_size (zb HB)) : w.heap.size ≤ av)); have bu := zK ((by rw [hg]; exact Nat.ne_of_lt (blk_lt (g := ac) (o := .cells #[.slice ao af.length ap, .int .i64 a0_1, .slice au ab.length aq, .slice (some aK) ae.length ar] 28 (0, 0)) (zk aa)) : ac ≠ av)); have b1 := zK ((by rw [hg]; exact Nat.ne_of_gt (blk_lt (g := ac) (o := .cells #[.slice ao af.length ap, .int .i64 a0_1, .slice au ab.length aq, .slice (some aK) ae.length ar] 28 (0, 0)) (zk aa)) : av ≠ ac)); clear ai; clear an; clear aa; clear HB; have ai := ay; have an := az; have aa := aA; have HB := aC; have ax := aG; have b2 := br; have aY := bs; have aI := bu; have aQ := b1; clear ay az aA aC aG br bs bu b1; clear hb hbox hg; have hnb59 := aQ.out; have hnc59 := aI.out; have hcz60_0 : cm.cell? ⟨av, 0, none⟩ = some (.int .i64 0) := (blk_cell ax.out 0).trans rfl; have hcz60_1 : cm.cell? ⟨av, 1, none⟩ = some (.slice none 0 0) := (blk_cell ax.out 1).trans rfl; have hfz60_0 := blk_frozen ax.out 0; have hfz60_1 := blk_frozen ax.out 1; have hcz61_0 : cm.cell? ⟨ac, 0, none⟩ = some (.slice ao af.length ap) := (blk_cell aa.out 0).trans rfl; have hcz61_1 : cm.cell? ⟨ac, 1, none⟩ = some (.int .i64 a0_1) := (blk_cell aa.out 1).trans rfl; have hcz61_2 : cm.cell? ⟨ac, 2, none⟩ = some (.slice au ab.length aq) := (blk_cell aa.out 2).trans rfl; have hcz61_3 : cm.cell? ⟨ac, 3, none⟩ = some (.slice (some aK) ae.length ar) := (blk_cell aa.out 3).trans rfl; have hfz61_0 := blk_frozen aa.out 0; have hfz61_1 := blk_frozen aa.out 1; have hfz61_2 := blk_frozen aa.out 2; have hfz61_3 := blk_frozen aa.out 3) | (go_at_call 63; (with_reducible refine (impl_areIndexes.calls k3 _ _ ((rd_T74 ae am).f1) (ab.length : Int) false _ ?side1 ?side2 A50.out).mono ?_); (case side1 => exact Kd.C_below a5.out (zb HB)); (case side2 => exact a6.out); rintro e w' ⟨rfl, ⟨nd, rfl⟩⟩))
              go_ret
              exact ⟨ze, zb HB⟩
           ·rw [if_neg c45] at H
            exact absurd H (by simp)
          ·rw [if_neg c44] at H
           exact absurd H (by simp)
         ·rw [if_neg cj] at H
          have cz : decide (am < (ae.length : Int)) = false := decide_eq_false cj
          clear cj; replace H := Option.bind_eq_some_iff.mp H
          obtain ⟨aR, cG, H⟩ := H
          replace H : ((vc_impl_LoopOk_1_any.f aR).bind fun bX => (if bX = true then (some false) else ((impl_areDifferent.f aR).bind fun bh => (if bh = true then ((impl_areDifferent.f aJ).bind fun a1 => (if a1 = true then ((impl_areDifferent.f aT).bind fun aW => (some aW)) else (some false))) else (some false))))) = some r := H
          have A62 := zK cG; clear cG; replace H := Option.bind_eq_some_iff.mp H
          obtain ⟨bX, cH, H⟩ := H
          replace H : (if bX = true then (some false) else ((impl_areDifferent.f aR).bind fun bh => (if bh = true then ((impl_areDifferent.f aJ).bind fun a1 => (if a1 = true then ((impl_areDifferent.f aT).bind fun aW => (some aW)) else (some false))) else (some false)))) = some r := H
          have A63 := zK cH; clear cH
          by_cases c64 : bX = true
          ·subst c64
           have H1 : (some false) = some r := by rw [if_pos rfl] at H; exact H
           clear H; have H := H1; clear H1; obtain rfl := Option.some.inj H
           have hcz65_0 : wr.cell? ⟨ac, 0, none⟩ = some (.slice ao af.length ap) := (blk_cell aa.out 0).trans rfl
           have hcz65_1 : wr.cell? ⟨ac, 1, none⟩ = some (.int .i64 a0_1) := (blk_cell aa.out 1).trans rfl
           have hcz65_2 : wr.cell? ⟨ac, 2, none⟩ = some (.slice au ab.length aq) := (blk_cell aa.out 2).trans rfl
           have hcz65_3 : wr.cell? ⟨ac, 3, none⟩ = some (.slice aw ae.length ar) := (blk_cell aa.out 3).trans rfl
           have hfz65_0 := blk_frozen aa.out 0; have hfz65_1 := blk_frozen aa.out 1; have hfz65_2 := blk_frozen aa.out 2; have hfz65_3 := blk_frozen aa.out 3
           go_wp2_with (first | ((with_reducible refine gate_callee (f := 64) rfl ?_); refine goesL_ (some 109) rfl rfl Try.func64 (by kernel_rfl) rfl #[.agg #[.slice ao af.length ap, .int .i64 a0_1, .slice au ab.length aq, .slice aw ae.length ar]] rfl zg ?_; (with_reducible refine (impl_bagsOf.calls k3 _ _ af a0_1 _ _ ab _ _ ae aR _ ?side1 ?side2 ?side3 ?side4 ?side5 ?side6 A62.out).mono ?_); (case side1 => exact zs (Kd.C_below bi.out HB.out)); (case side2 => exact bj.out); (case side3 => exact zs (Kd.C_below bc.out HB.out)); (case side4 => exact bk.out); (case side5 => exact zs (Kd.C_below a7.out HB.out)); (case side6 => exact bl.out); rintro e w66 ⟨cc, rfl, ho0, hb⟩; refine ⟨_, rfl, ?_⟩; have ay := zK (Kd.R_elder' (zR ai) (Kd.R_base ho0) hb); have az := zK (Kd.R_elder' (zR an) (Kd.R_base ho0) hb); have aA := zK (Kd.R_lower (Kd.R_new' (Kd.R_new' ho0 (Kd.R_lt (zR ai))) (Kd.R_lt (zR an))) (below_size (zb HB))); have aC := zK (blk_below (g := ac) (o := .cells #[.slice ao af.length ap, .int .i64 a0_1, .slice au ab.length aq, .slice aw ae.length ar] 28 (0, 0)) (zk aa) hb); have aG := zK (below_step (zb HB) hb); clear ai; clear an; clear aa; clear HB; have ai := ay; have an := az; have ak := aA; have aa := aC; have HB := aG; clear ay az aA aC aG; (try clear hb); (try clear ho0); obtain ⟨Ao67, co67, eo67⟩ := Kd.R_slice ak.out; subst eo67) | ((with_reducible refine gate_callee (f := 65) rfl ?_); refine goesL_ (some 111) rfl rfl Try.func65 (by kernel_rfl) rfl #[.slice Ao67 aR.length co67, .func (.func 66) #[] #[]] rfl zg ?_; (with_reducible refine (vc_impl_LoopOk_1_any.calls _ _ aR true _ ?side1 ?side2 A63.out).mono ?_); (case side1 => exact zs (Kd.R_reads' ak.out).2.2); (case side2 => exact (Kd.R_reads' ak.out).2.1); rintro e w68 ⟨rfl, hb⟩; refine ⟨_, rfl, ?_⟩; have ay := zK (Kd.R_below (zR ai) hb); have az := zK (Kd.R_below (zR an) hb); have aA := zK (Kd.R_below (zR ak) hb); have aC := zK (blk_below (g := ac) (o := .cells #[.slice ao af.length ap, .int .i64 a0_1, .slice au ab.length aq, .slice aw ae.length ar] 28 (0, 0)) (zk aa) hb); have aG := zK (below_step (zb HB) hb); clear ai; clear an; clear ak; clear aa; clear HB; have ai := ay; have an := az; have ak := aA; have aa := aC; have HB := aG; clear ay az aA aC aG; (try clear hb)))
           go_ret
           exact ⟨ze, zb HB⟩
          ·replace c64 := Bool.eq_false_iff.mpr c64
           subst c64
           have H1 : ((impl_areDifferent.f aR).bind fun bh => (if bh = true then ((impl_areDifferent.f aJ).bind fun a1 => (if a1 = true then ((impl_areDifferent.f aT).bind fun aW => (some aW)) else (some false))) else (some false))) = some r := by rw [if_neg (show ¬ (false = true) by decide)] at H; exact H
           clear H; have H := H1; clear H1; replace H := Option.bind_eq_some_iff.mp H
           obtain ⟨bh, cI, H⟩ := H
           replace H : (if bh = true then ((impl_areDifferent.f aJ).bind fun a1 => (if a1 = true then ((impl_areDifferent.f aT).bind fun aW => (some aW)) else (some false))) else (some false)) = some r := H
           have A69 := zK cI; clear cI
           by_cases c70 : bh = true
           ·subst c70
            have H1 : ((impl_areDifferent.f aJ).bind fun a1 => (if a1 = true then ((impl_areDifferent.f aT).bind fun aW => (some aW)) else (some false))) = some r := by rw [if_pos rfl] at H; exact H
            clear H; have H := H1; clear H1; replace H := Option.bind_eq_some_iff.mp H
            obtain ⟨a1, cJ, H⟩ := H
            replace H : (if a1 = true then ((impl_areDifferent.f aT).bind fun aW => (some aW)) else (some false)) = some r := H
            have A71 := zK cJ; clear cJ
            by_cases c72 : a1 = true
            ·subst c72
             have H1 : ((impl_areDifferent.f aT).bind fun aW => (some aW)) = some r := by rw [if_pos rfl] at H; exact H
             clear H; have H := H1; clear H1; replace H := Option.bind_eq_some_iff.mp H
             obtain ⟨aW, cK, H⟩ := H
             replace H : (some aW) = some r := H
             have A73 := zK cK; clear cK; obtain rfl := Option.some.inj H
             have hcz74_0 : wr.cell? ⟨ac, 0, none⟩ = some (.slice ao af.length ap) := (blk_cell aa.out 0).trans rfl
             have hcz74_1 : wr.cell? ⟨ac, 1, none⟩ = some (.int .i64 a0_1) := (blk_cell aa.out 1).trans rfl
             have hcz74_2 : wr.cell? ⟨ac, 2, none⟩ = some (.slice au ab.length aq) := (blk_cell aa.out 2).trans rfl
             have hcz74_3 : wr.cell? ⟨ac, 3, none⟩ = some (.slice aw ae.length ar) := (blk_cell aa.out 3).trans rfl
             have hfz74_0 := blk_frozen aa.out 0; have hfz74_1 := blk_frozen aa.out 1; have hfz74_2 := blk_frozen aa.out 2; have hfz74_3 := blk_frozen aa.out 3
             go_wp2_with (first | ((with_reducible refine gate_callee (f := 64) rfl ?_); refine goesL_ (some 109) rfl rfl Try.func64 (by kernel_rfl) rfl #[.agg #[.slice ao af.length ap, .int .i64 a0_1, .slice au ab.length aq, .slice aw ae.length ar]] rfl zg ?_; (with_reducible refine (impl_bagsOf.calls k3 _ _ af a0_1 _ _ ab _ _ ae aR _ ?side1 ?side2 ?side3 ?side4 ?side5 ?side6 A62.out).mono ?_); (case side1 => exact zs (Kd.C_below bi.out HB.out)); (case side2 => exact bj.out); (case side3 => exact zs (Kd.C_below bc.out HB.out)); (case side4 => exact bk.out); (case side5 => exact zs (Kd.C_below a7.out HB.out)); (case side6 => exact bl.out); rintro e w75 ⟨cc, rfl, ho0, hb⟩; refine ⟨_, rfl, ?_⟩; have ay := zK (Kd.R_elder' (zR ai) (Kd.R_base ho0) hb); have az := zK (Kd.R_elder' (zR an) (Kd.R_base ho0) hb); have aA := zK (Kd.R_lower (Kd.R_new' (Kd.R_new' ho0 (Kd.R_lt (zR ai))) (Kd.R_lt (zR an))) (below_size (zb HB))); have aC := zK (blk_below (g := ac) (o := .cells #[.slice ao af.length ap, .int .i64 a0_1, .slice au ab.length aq, .slice aw ae.length ar] 28 (0, 0)) (zk aa) hb); have aG := zK (below_step (zb HB) hb); clear ai; clear an; clear aa; clear HB; have ai := ay; have an := az; have ak := aA; have aa := aC; have HB := aG; clear ay az aA aC aG; (try clear hb); (try clear ho0); obtain ⟨Ao76, co76, eo76⟩ := Kd.R_slice ak.out; subst eo76) | ((with_reducible refine gate_callee (f := 65) rfl ?_); refine goesL_ (some 111) rfl rfl Try.func65 (by kernel_rfl) rfl #[.slice Ao76 aR.length co76, .func (.func 66) #[] #[]] rfl zg ?_; (with_reducible refine (vc_impl_LoopOk_1_any.calls _ _ aR false _ ?side1 ?side2 A63.out).mono ?_); (case side1 => exact zs (Kd.R_reads' ak.out).2.2); (case side2 => exact (Kd.R_reads' ak.out).2.1); rintro e w77 ⟨rfl, hb⟩; refine ⟨_, rfl, ?_⟩; have ay := zK (Kd.R_below (zR ai) hb); have az := zK (Kd.R_below (zR an) hb); have aA := zK (Kd.R_below (zR ak) hb); have aC := zK (blk_below (g := ac) (o := .cells #[.slice ao af.length ap, .int .i64 a0_1, .slice au ab.length aq, .slice aw ae.length ar] 28 (0, 0)) (zk aa) hb); have aG := zK (below_step (zb HB) hb); clear ai; clear an; clear ak; clear aa; clear HB; have ai := ay; have an := az; have ak := aA; have aa := aC; have HB := aG; clear ay az aA aC aG; (try clear hb)) | (go_at_call 67; (with_reducible refine (impl_areDifferent.calls _ _ aR true _ ?side1 ?side2 A69.out).mono ?_); (case side1 => exact zs (Kd.R_reads' ak.out).2.2); (case side2 => exact (Kd.R_reads' ak.out).2.1); rintro e w78 ⟨rfl, hb⟩; have ay := zK (Kd.R_below (zR ai) hb); have az := zK (Kd.R_below (zR an) hb); have aA := zK (Kd.R_below (zR ak) hb); have aC := zK (blk_below (g := ac) (o := .cells #[.slice ao af.length ap, .int .i64 a0_1, .slice au ab.length aq, .slice aw ae.length ar] 28 (0, 0)) (zk aa) hb); have aG := zK (below_step (zb HB) hb); clear ai; clear an; clear ak; clear aa; clear HB; have ai := ay; have an := az; have ak := aA; have aa := aC; have HB := aG; clear ay az aA aC aG; (try clear hb); obtain ⟨Ao79, co79, eo79⟩ := Kd.R_slice ai.out; subst eo79) | (go_at_call 67; (with_reducible refine (impl_areDifferent.calls _ _ aJ true _ ?side1 ?side2 A71.out).mono ?_); (case side1 => exact zs (Kd.R_reads' ai.out).2.2); (case side2 => exact (Kd.R_reads' ai.out).2.1); rintro e w80 ⟨rfl, hb⟩; have ay := zK (Kd.R_below (zR ai) hb); have az := zK (Kd.R_below (zR an) hb); have aA := zK (Kd.R_below (zR ak) hb); have aC := zK (blk_below (g := ac) (o := .cells #[.slice ao af.length ap, .int .i64 a0_1, .slice au ab.length aq, .slice aw ae.length ar] 28 (0, 0)) (zk aa) hb); have aG := zK (below_step (zb HB) hb); clear ai; clear an; clear ak; clear aa; clear HB; have ai := ay; have an := az; have ak := aA; have aa := aC; have HB := aG; clear ay az aA aC aG; (try clear hb); obtain ⟨Ao81, co81, eo81⟩ := Kd.R_slice an.out; subst eo81) | (go_at_call 67; (with_reducible refine (impl_areDifferent.calls _ _ aT aW _ ?side1 ?side2 A73.out).mono ?_); (case side1 => exact zs (Kd.R_reads' an.out).2.2); (case side2 => exact (Kd.R_reads' an.out).2.1); rintro e w82 ⟨rfl, hb⟩; have ay := zK (Kd.R_below (zR ai) hb); have az := zK (Kd.R_below (zR an) hb); have aA := zK (Kd.R_below (zR ak) hb); have aC := zK (blk_below (g := ac) (o := .cells #[.slice ao af.length ap, .int .i64 a0_1, .slice au ab.length aq, .slice aw ae.length ar] 28 (0, 0)) (zk aa) hb); have aG := zK (below_step (zb HB) hb); clear ai; clear an; clear ak; clear aa; clear HB; have ai := ay; have an := az; have ak := aA; have aa := aC; have HB := aG; clear ay az aA aC aG; (try clear hb)))
             go_ret
             exact ⟨ze, zb HB⟩
            ·replace c72 := Bool.eq_false_iff.mpr c72
             subst c72
             have H1 : (some false) = some r := by rw [if_neg (show ¬ (false = true) by decide)] at H; exact H
             clear H; have H := H1; clear H1; obtain rfl := Option.some.inj H
             have hcz83_0 : wr.cell? ⟨ac, 0, none⟩ = some (.slice ao af.length ap) := (blk_cell aa.out 0).trans rfl
             have hcz83_1 : wr.cell? ⟨ac, 1, none⟩ = some (.int .i64 a0_1) := (blk_cell aa.out 1).trans rfl
             have hcz83_2 : wr.cell? ⟨ac, 2, none⟩ = some (.slice au ab.length aq) := (blk_cell aa.out 2).trans rfl
             have hcz83_3 : wr.cell? ⟨ac, 3, none⟩ = some (.slice aw ae.length ar) := (blk_cell aa.out 3).trans rfl
             have hfz83_0 := blk_frozen aa.out 0; have hfz83_1 := blk_frozen aa.out 1; have hfz83_2 := blk_frozen aa.out 2; have hfz83_3 := blk_frozen aa.out 3
             go_wp2_with (first | ((with_reducible refine gate_callee (f := 64) rfl ?_); refine goesL_ (some 109) rfl rfl Try.func64 (by kernel_rfl) rfl #[.agg #[.slice ao af.length ap, .int .i64 a0_1, .slice au ab.length aq, .slice aw ae.length ar]] rfl zg ?_; (with_reducible refine (impl_bagsOf.calls k3 _ _ af a0_1 _ _ ab _ _ ae aR _ ?side1 ?side2 ?side3 ?side4 ?side5 ?side6 A62.out).mono ?_); (case side1 => exact zs (Kd.C_below bi.out HB.out)); (case side2 => exact bj.out); (case side3 => exact zs (Kd.C_below bc.out HB.out)); (case side4 => exact bk.out); (case side5 => exact zs (Kd.C_below a7.out HB.out)); (case side6 => exact bl.out); rintro e w84 ⟨cc, rfl, ho0, hb⟩; refine ⟨_, rfl, ?_⟩; have ay := zK (Kd.R_elder' (zR ai) (Kd.R_base ho0) hb); have az := zK (Kd.R_elder' (zR an) (Kd.R_base ho0) hb); have aA := zK (Kd.R_lower (Kd.R_new' (Kd.R_new' ho0 (Kd.R_lt (zR ai))) (Kd.R_lt (zR an))) (below_size (zb HB))); have aC := zK (blk_below (g := ac) (o := .cells #[.slice ao af.length ap, .int .i64 a0_1, .slice au ab.length aq, .slice aw ae.length ar] 28 (0, 0)) (zk aa) hb); have aG := zK (below_step (zb HB) hb); clear ai; clear an; clear aa; clear HB; have ai := ay; have an := az; have ak := aA; have aa := aC; have HB := aG; clear ay az aA aC aG; (try clear hb); (try clear ho0); obtain ⟨Ao85, co85, eo85⟩ := Kd.R_slice ak.out; subst eo85) | ((with_reducible refine gate_callee (f := 65) rfl ?_); refine goesL_ (some 111) rfl rfl Try.func65 (by kernel_rfl) rfl #[.slice Ao85 aR.length co85, .func (.func 66) #[] #[]] rfl zg ?_; (with_reducible refine (vc_impl_LoopOk_1_any.calls _ _ aR false _ ?side1 ?side2 A63.out).mono ?_); (case side1 => exact zs (Kd.R_reads' ak.out).2.2); (case side2 => exact (Kd.R_reads' ak.out).2.1); rintro e w86 ⟨rfl, hb⟩; refine ⟨_, rfl, ?_⟩; have ay := zK (Kd.R_below (zR ai) hb); have az := zK (Kd.R_below (zR an) hb); have aA := zK (Kd.R_below (zR ak) hb); have aC := zK (blk_below (g := ac) (o := .cells #[.slice ao af.length ap, .int .i64 a0_1, .slice au ab.length aq, .slice aw ae.length ar] 28 (0, 0)) (zk aa) hb); have aG := zK (below_step (zb HB) hb); clear ai; clear an; clear ak; clear aa; clear HB; have ai := ay; have an := az; have ak := aA; have aa := aC; have HB := aG; clear ay az aA aC aG; (try clear hb)) | (go_at_call 67; (with_reducible refine (impl_areDifferent.calls _ _ aR true _ ?side1 ?side2 A69.out).mono ?_); (case side1 => exact zs (Kd.R_reads' ak.out).2.2); (case side2 => exact (Kd.R_reads' ak.out).2.1); rintro e w87 ⟨rfl, hb⟩; have ay := zK (Kd.R_below (zR ai) hb); have az := zK (Kd.R_below (zR an) hb); have aA := zK (Kd.R_below (zR ak) hb); have aC := zK (blk_below (g := ac) (o := .cells #[.slice ao af.length ap, .int .i64 a0_1, .slice au ab.length aq, .slice aw ae.length ar] 28 (0, 0)) (zk aa) hb); have aG := zK (below_step (zb HB) hb); clear ai; clear an; clear ak; clear aa; clear HB; have ai := ay; have an := az; have ak := aA; have aa := aC; have HB := aG; clear ay az aA aC aG; (try clear hb); obtain ⟨Ao88, co88, eo88⟩ := Kd.R_slice ai.out; subst eo88) | (go_at_call 67; (with_reducible refine (impl_areDifferent.calls _ _ aJ false _ ?side1 ?side2 A71.out).mono ?_); (case side1 => exact zs (Kd.R_reads' ai.out).2.2); (case side2 => exact (Kd.R_reads' ai.out).2.1); rintro e w89 ⟨rfl, hb⟩; have ay := zK (Kd.R_below (zR ai) hb); have az := zK (Kd.R_below (zR an) hb); have aA := zK (Kd.R_below (zR ak) hb); have aC := zK (blk_below (g := ac) (o := .cells #[.slice ao af.length ap, .int .i64 a0_1, .slice au ab.length aq, .slice aw ae.length ar] 28 (0, 0)) (zk aa) hb); have aG := zK (below_step (zb HB) hb); clear ai; clear an; clear ak; clear aa; clear HB; have ai := ay; have an := az; have ak := aA; have aa := aC; have HB := aG; clear ay az aA aC aG; (try clear hb)))
             go_ret
             exact ⟨ze, zb HB⟩
           ·replace c70 := Bool.eq_false_iff.mpr c70
            subst c70
            have H1 : (some false) = some r := by rw [if_neg (show ¬ (false = true) by decide)] at H; exact H
            clear H; have H := H1; clear H1; obtain rfl := Option.some.inj H
            have hcz90_0 : wr.cell? ⟨ac, 0, none⟩ = some (.slice ao af.length ap) := (blk_cell aa.out 0).trans rfl
            have hcz90_1 : wr.cell? ⟨ac, 1, none⟩ = some (.int .i64 a0_1) := (blk_cell aa.out 1).trans rfl
            have hcz90_2 : wr.cell? ⟨ac, 2, none⟩ = some (.slice au ab.length aq) := (blk_cell aa.out 2).trans rfl
            have hcz90_3 : wr.cell? ⟨ac, 3, none⟩ = some (.slice aw ae.length ar) := (blk_cell aa.out 3).trans rfl
            have hfz90_0 := blk_frozen aa.out 0; have hfz90_1 := blk_frozen aa.out 1; have hfz90_2 := blk_frozen aa.out 2; have hfz90_3 := blk_frozen aa.out 3
            go_wp2_with (first | ((with_reducible refine gate_callee (f := 64) rfl ?_); refine goesL_ (some 109) rfl rfl Try.func64 (by kernel_rfl) rfl #[.agg #[.slice ao af.length ap, .int .i64 a0_1, .slice au ab.length aq, .slice aw ae.length ar]] rfl zg ?_; (with_reducible refine (impl_bagsOf.calls k3 _ _ af a0_1 _ _ ab _ _ ae aR _ ?side1 ?side2 ?side3 ?side4 ?side5 ?side6 A62.out).mono ?_); (case side1 => exact zs (Kd.C_below bi.out HB.out)); (case side2 => exact bj.out); (case side3 => exact zs (Kd.C_below bc.out HB.out)); (case side4 => exact bk.out); (case side5 => exact zs (Kd.C_below a7.out HB.out)); (case side6 => exact bl.out); rintro e w91 ⟨cc, rfl, ho0, hb⟩; refine ⟨_, rfl, ?_⟩; have ay := zK (Kd.R_elder' (zR ai) (Kd.R_base ho0) hb); have az := zK (Kd.R_elder' (zR an) (Kd.R_base ho0) hb); have aA := zK (Kd.R_lower (Kd.R_new' (Kd.R_new' ho0 (Kd.R_lt (zR ai))) (Kd.R_lt (zR an))) (below_size (zb HB))); have aC := zK (blk_below (g := ac) (o := .cells #[.slice ao af.length ap, .int .i64 a0_1, .slice au ab.length aq, .slice aw ae.length ar] 28 (0, 0)) (zk aa) hb); have aG := zK (below_step (zb HB) hb); clear ai; clear an; clear aa; clear HB; have ai := ay; have an := az; have ak := aA; have aa := aC; have HB := aG; clear ay az aA aC aG; (try clear hb); (try clear ho0); obtain ⟨Ao92, co92, eo92⟩ := Kd.R_slice ak.out; subst eo92) | ((with_reducible refine gate_callee (f := 65) rfl ?_); refine goesL_ (some 111) rfl rfl Try.func65 (by kernel_rfl) rfl #[.slice Ao92 aR.length co92, .func (.func 66) #[] #[]] rfl zg ?_; (with_reducible refine (vc_impl_LoopOk_1_any.calls _ _ aR false _ ?side1 ?side2 A63.out).mono ?_); (case side1 => exact zs (Kd.R_reads' ak.out).2.2); (case side2 => exact (Kd.R_reads' ak.out).2.1); rintro e w93 ⟨rfl, hb⟩; refine ⟨_, rfl, ?_⟩; have ay := zK (Kd.R_below (zR ai) hb); have az := zK (Kd.R_below (zR an) hb); have aA := zK (Kd.R_below (zR ak) hb); have aC := zK (blk_below (g := ac) (o := .cells #[.slice ao af.length ap, .int .i64 a0_1, .slice au ab.length aq, .slice aw ae.length ar] 28 (0, 0)) (zk aa) hb); have aG := zK (below_step (zb HB) hb); clear ai; clear an; clear ak; clear aa; clear HB; have ai := ay; have an := az; have ak := aA; have aa := aC; have HB := aG; clear ay az aA aC aG; (try clear hb)) | (go_at_call 67; (with_reducible refine (impl_areDifferent.calls _ _ aR false _ ?side1 ?side2 A69.out).mono ?_); (case side1 => exact zs (Kd.R_reads' ak.out).2.2); (case side2 => exact (Kd.R_reads' ak.out).2.1); rintro e w94 ⟨rfl, hb⟩; have ay := zK (Kd.R_below (zR ai) hb); have az := zK (Kd.R_below (zR an) hb); have aA := zK (Kd.R_below (zR ak) hb); have aC := zK (blk_below (g := ac) (o := .cells #[.slice ao af.length ap, .int .i64 a0_1, .slice au ab.length aq, .slice aw ae.length ar] 28 (0, 0)) (zk aa) hb); have aG := zK (below_step (zb HB) hb); clear ai; clear an; clear ak; clear aa; clear HB; have ai := ay; have an := az; have ak := aA; have aa := aC; have HB := aG; clear ay az aA aC aG; (try clear hb)))
            go_ret
            exact ⟨ze, zb HB⟩
def spec_l03Has.l0 : Nat → List Int → Int → Int → Option (Bool)
 | 0, _, _, _ => none
 | k + 1, x0, x1, x5 => if x5 < (x0.length : Int) then (if 0 ≤ x5 then (if (rd x0 x5) = x1 then (some true) else (spec_l03Has.l0 k x0 x1 (wrap64 (x5 + 1)))) else (none)) else (some false)
def spec_l03Has.f (k : Nat) (l0 : List Int) (a1 : Int) : Option (Bool) := spec_l03Has.l0 k l0 a1 0
set_option maxHeartbeats 8000000 in
set_option maxRecDepth 100000 in
theorem spec_l03Has.calls (k : Nat) (A0 : Option Addr) (c0 : Nat) (l0 : List Int) (a1 : Int) (r : Bool) (w : World) (hr0 : Kd.C (Kd.int .i64) w A0 l0.length l0) (hc0 : l0.length ≤ c0) (h : spec_l03Has.f k l0 a1 = some r) :
  Calls Try.prog 55 #[.slice A0 l0.length c0, .int .i64 a1] w fun e w' => e = .returned (.bool r) ∧ Drawn0 w w' := by
 have HR0 := zK hr0; have HC0 := zK hc0; clear hr0 hc0
 have H : (spec_l03Has.l0 k l0 a1 0) = some r := h
 clear h; have H' := zK H; clear H
 go_enter Try.func55, Try.ntmps55
 go_wp2
 go_loopg [5] k (fun kq v5 w' => ∃ (aa : Int), v5 = .int .i64 aa ∧ Aside0 (spec_l03Has.l0 kq l0 a1 aa = some r) ∧ Aside0 (kq ≤ k) ∧ Drawn0 w w')
 case atStart => exact ⟨(0), zf, H', ⟨Nat.le_refl _⟩, by repeat (first | exact Drawn0.refl _ | apply Drawn0.step)⟩
 case round =>
  clear H'
  obtain ⟨aa, rfl, HA, HK1, ⟨m1, rfl⟩⟩ := hrel
  cases gk with
  | zero => exact absurd HA.out (by simp [spec_l03Has.l0])
  | succ k1 =>
   have H := HA.out; clear HA
   simp only [spec_l03Has.l0] at H
   by_cases c3 : aa < (l0.length : Int)
   ·rw [if_pos c3] at H
    have c3b0 : decide (aa < (l0.length : Int)) = true := decide_eq_true c3
    clear c3
    by_cases c4 : 0 ≤ aa
    ·rw [if_pos c4] at H
     have c4b0 : decide (0 ≤ aa) = true := decide_eq_true c4
     clear c4
     by_cases c5 : (rd l0 aa) = a1
     ·rw [if_pos c5] at H
      have c5b0 : ((rd l0 aa) == a1) = true := beq_iff_eq.mpr c5
      have c5b1 : ((rd l0 aa) != a1) = false := bne_eq_false_iff_eq.mpr c5
      clear c5; obtain rfl := Option.some.inj H
      have ab : 0 ≤ (aa : Int) := zd
      have ac : aa < (l0.length : Int) := zd
      obtain ⟨af, ae, ad⟩ := Kd.at_int HR0.out aa ab ac
      cases ae
      replace ab := eq_true ab; replace ac := eq_true ac
      go_wp2
      go_ret
      exact ⟨by first | rfl | (simp; done) | (simp [*]; done), by repeat (first | exact Drawn0.refl _ | apply Drawn0.step)⟩
     ·rw [if_neg c5] at H
      have c5b0 : ((rd l0 aa) == a1) = false := beq_eq_false_iff_ne.mpr c5
      have c5b1 : ((rd l0 aa) != a1) = true := bne_iff_ne.mpr c5
      have H' := zK H; clear H
      have ab : 0 ≤ (aa : Int) := zd
      have ac : aa < (l0.length : Int) := zd
      obtain ⟨af, ae, ad⟩ := Kd.at_int HR0.out aa ab ac
      cases ae
      replace ab := eq_true ab; replace ac := eq_true ac
      go_wp2
      go_roundg k1
      case measure => have := HK1.out; omega
      case rel => exact ⟨(wrap64 (aa + 1)), zf, H', ⟨by have := HK1.out; omega⟩, by repeat (first | exact Drawn0.refl _ | apply Drawn0.step)⟩
    ·rw [if_neg c4] at H
     exact absurd H (by simp)
   ·rw [if_neg c3] at H
    have c3b0 : decide (aa < (l0.length : Int)) = false := decide_eq_false c3
    clear c3; obtain rfl := Option.some.inj H
    go_wp2
    go_ret
    exact ⟨by first | rfl | (simp; done) | (simp [*]; done), by repeat (first | exact Drawn0.refl _ | apply Drawn0.step)⟩
def spec_l01In.f (a0 : Int) (a1 : Int) (a2 : Int) : Option (Bool) := if a0 ≥ a1 then (some (decide (a0 ≤ a2))) else (some false)
set_option maxHeartbeats 8000000 in
set_option maxRecDepth 100000 in
theorem spec_l01In.calls (a0 : Int) (a1 : Int) (a2 : Int) (r : Bool) (w : World) (h : spec_l01In.f a0 a1 a2 = some r) :
  Calls Try.prog 62 #[.int .i64 a0, .int .i64 a1, .int .i64 a2] w fun e w' => e = .returned (.bool r) ∧ Drawn0 w w' := by
 have H : (if a0 ≥ a1 then (some (decide (a0 ≤ a2))) else (some false)) = some r := h
 clear h
 by_cases c4 : a0 ≥ a1
 ·rw [if_pos c4] at H
  have c4b0 : decide (a1 ≤ a0) = true := decide_eq_true c4
  clear c4; obtain rfl := Option.some.inj H
  go_enter Try.func62, Try.ntmps62
  go_wp2
  go_ret
  exact ⟨by first | rfl | (simp; done) | (simp [*]; done), by repeat (first | exact Drawn0.refl _ | apply Drawn0.step)⟩
 ·rw [if_neg c4] at H
  have c4b0 : decide (a1 ≤ a0) = false := decide_eq_false c4
  clear c4; obtain rfl := Option.some.inj H
  go_enter Try.func62, Try.ntmps62
  go_wp2
  go_ret
  exact ⟨by first | rfl | (simp; done) | (simp [*]; done), by repeat (first | exact Drawn0.refl _ | apply Drawn0.step)⟩
end Go.Proofs.Ytmjhbdmicejppaa.Px
