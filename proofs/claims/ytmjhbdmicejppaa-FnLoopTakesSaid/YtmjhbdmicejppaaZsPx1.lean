import Derived.Test.YtmjhbdmicejppaaZsPx0
namespace Go.Proofs.Ytmjhbdmicejppaa.Px
open Go.RowKit Go.Proofs.YtmjhbdmicejppaaW.PrintWords Go.Proofs.YtmjhbdmicejppaaW.PrintLast Go.Proofs.YtmjhbdmicejppaaW.PrintMore
attribute [local go_sem] max2_int min2_int max_two min_two max_three min_three max_four min_four   
set_option linter.unusedVariables false
set_option linter.unusedSimpArgs false
def laws_big.f (a : List Int) : Option (Bool) := some (decide ((a.length : Int) > 1048576))
set_option maxHeartbeats 8000000 in
set_option maxRecDepth 100000 in
theorem laws_big.calls (A0 : Option Addr) (c0 : Nat) (l0 : List Int) (r : Bool) (w : World) (hr0 : Kd.C (Kd.int .u8) w A0 l0.length l0) (hc0 : l0.length ≤ c0) (h : laws_big.f l0 = some r) :
  Calls Try.prog 15 #[.slice A0 l0.length c0] w fun e w' => e = .returned (.bool r) ∧ Drawn0 w w' := by
 have HR0 := zK hr0; have HC0 := zK hc0; clear hr0 hc0
 have H := h; unfold laws_big.f at H
 clear h; obtain rfl := Option.some.inj H
 go_enter Try.func15, Try.ntmps15
 go_wp2
 go_ret
 exact ⟨by first | rfl | (simp; done) | (simp [*]; done), by repeat (first | exact Drawn0.refl _ | apply Drawn0.step)⟩
mutual
def impl_areIndexes.l0 : Nat → List Int → Int → List Int → Int → Int → Option (Bool)
 | 0, _, _, _, _, _ => none
 | k + 1, a, b, c, d, e => if e < d then (if 0 ≤ e then (if e < (c.length : Int) then (if (rd c e) < 0 then (impl_areIndexes.j1 k a b c d e true) else (if (rd c e) ≥ b then (impl_areIndexes.j1 k a b c d e true) else (if e > 0 then (if 0 ≤ (wrap64 (e - 1)) then (if (wrap64 (e - 1)) < (a.length : Int) then (impl_areIndexes.j1 k a b c d e (decide ((rd a (wrap64 (e - 1))) ≥ (rd c e)))) else (none)) else (none)) else (impl_areIndexes.j1 k a b c d e false)))) else (none)) else (none)) else (some true)
def impl_areIndexes.j1 : Nat → List Int → Int → List Int → Int → Int → Bool → Option (Bool)
 | 0, _, _, _, _, _, _ => none
 | k + 1, a, b, c, d, e, f => if f = true then (some false) else (impl_areIndexes.l0 k a b c d (wrap64 (e + 1)))
end
def impl_areIndexes.f (k : Nat) (a : List Int) (b : Int) : Option (Bool) := impl_areIndexes.l0 k a b a (a.length : Int) 0
set_option maxHeartbeats 8000000 in
set_option maxRecDepth 100000 in
theorem impl_areIndexes.calls (k : Nat) (A0 : Option Addr) (c0 : Nat) (l0 : List Int) (a1 : Int) (r : Bool) (w : World) (hr0 : Kd.C (Kd.int .i64) w A0 l0.length l0) (hc0 : l0.length ≤ c0) (h : impl_areIndexes.f k l0 a1 = some r) :
  Calls Try.prog 63 #[.slice A0 l0.length c0, .int .i64 a1] w fun e w' => e = .returned (.bool r) ∧ Drawn0 w w' := by
 have HR0 := zK hr0; have HC0 := zK hc0; clear hr0 hc0
 have H := h; unfold impl_areIndexes.f at H
 clear h; have H' := zK H; clear H
 go_enter Try.func63, Try.ntmps63
 go_wp2
 go_loopg [9] k (fun kq v9 w' => ∃ (aa : Int), v9 = .int .i64 aa ∧ Aside0 (impl_areIndexes.l0 kq l0 a1 l0 (l0.length : Int) aa = some r) ∧ Aside0 (kq ≤ k) ∧ Drawn0 w w')
 case atStart => exact ⟨(0), zf, H', ⟨Nat.le_refl _⟩, by repeat (first | exact Drawn0.refl _ | apply Drawn0.step)⟩
 case round =>
  clear H'
  obtain ⟨aa, rfl, HA, aj, ⟨m1, rfl⟩⟩ := hrel
  cases gk with
  | zero => exact absurd HA.out (by simp [impl_areIndexes.l0])
  | succ k1 =>
   have H := HA.out; clear HA
   simp only [impl_areIndexes.l0] at H
   by_cases c3 : aa < (l0.length : Int)
   ·rw [if_pos c3] at H
    have ak : decide (aa < (l0.length : Int)) = true := decide_eq_true c3
    clear c3
    by_cases c4 : 0 ≤ aa
    ·rw [if_pos c4] at H
     have c4b0 : decide (0 ≤ aa) = true := decide_eq_true c4
     clear c4
     by_cases c5 : aa < (l0.length : Int)
     ·rw [if_pos c5] at H
      have c5b0 : decide (aa < (l0.length : Int)) = true := decide_eq_true c5
      clear c5; have HC6 := zK H; clear H
      have ae : 0 ≤ (aa : Int) := zd
      have af : aa < (l0.length : Int) := zd
      obtain ⟨al, e101, ag⟩ := Kd.at_int HR0.out aa ae af
      cases e101
      replace ae := eq_true ae; replace af := eq_true af
      go_upto_region 4 with (fail)
      go_cut [33] (fun v33 wc => ∃ (kq : Nat) (ac : Bool), v33 = .bool ac ∧ Aside0 (impl_areIndexes.j1 kq l0 a1 l0 (l0.length : Int) aa ac = some r) ∧ Aside0 (kq ≤ k1) ∧ Drawn0 w wc)
      case first =>
       have H := HC6.out; clear HC6
       by_cases c7 : (rd l0 aa) < 0
       ·rw [if_pos c7] at H
        have c7b0 : decide ((rd l0 aa) < 0) = true := decide_eq_true c7
        clear c7; have H' := zK H; clear H
        go_wp2
        go_meet
        case rel => exact ⟨_, (true), zf, H', ⟨by have := aj.out; first | omega | exact Nat.le_refl _⟩, by repeat (first | exact Drawn0.refl _ | apply Drawn0.step)⟩
       ·rw [if_neg c7] at H
        have c7b0 : decide ((rd l0 aa) < 0) = false := decide_eq_false c7
        clear c7
        by_cases c8 : (rd l0 aa) ≥ a1
        ·rw [if_pos c8] at H
         have c8b0 : decide (a1 ≤ (rd l0 aa)) = true := decide_eq_true c8
         clear c8; have H' := zK H; clear H
         go_wp2
         go_meet
         case rel => exact ⟨_, (true), zf, H', ⟨by have := aj.out; first | omega | exact Nat.le_refl _⟩, by repeat (first | exact Drawn0.refl _ | apply Drawn0.step)⟩
        ·rw [if_neg c8] at H
         have c8b0 : decide (a1 ≤ (rd l0 aa)) = false := decide_eq_false c8
         clear c8
         by_cases c9 : aa > 0
         ·rw [if_pos c9] at H
          have c9b0 : decide (0 < aa) = true := decide_eq_true c9
          clear c9
          obtain ⟨ab, ad⟩ : ∃ j_ : Int, (wrap64 (aa - 1)) = j_ := ⟨_, rfl⟩
          replace H : (if 0 ≤ (ab) then (if (ab) < (l0.length : Int) then (impl_areIndexes.j1 k1 l0 a1 l0 (l0.length : Int) aa (decide ((rd l0 (ab)) ≥ (rd l0 aa)))) else (none)) else (none)) = some r := by rw [ad] at H; exact H
          have hji10w : (IntKind.i64.wrap (aa - 1)) = ab := (i64_w _).trans ad
          by_cases c11 : 0 ≤ (ab)
          ·rw [if_pos c11] at H
           have c11b0 : decide (0 ≤ (ab)) = true := decide_eq_true c11
           clear c11
           by_cases c12 : (ab) < (l0.length : Int)
           ·rw [if_pos c12] at H
            have c12b0 : decide ((ab) < (l0.length : Int)) = true := decide_eq_true c12
            clear c12; have H' := zK H; clear H
            have ah : 0 ≤ ((ab) : Int) := zd
            have ai : (ab) < (l0.length : Int) := zd
            obtain ⟨am, e102, hx102_0⟩ := Kd.at_int HR0.out (ab) ah ai
            obtain rfl : al = am := (by injection e102)
            replace ah := eq_true ah; replace ai := eq_true ai
            go_wp2
            go_meet
            case rel => exact ⟨_, (decide ((rd l0 (ab)) ≥ (rd l0 aa))), (by first | rfl | (simp; done) | (simp only [← ad] <;> (fail)) | (simp [*]; done)), H', ⟨by have := aj.out; first | omega | exact Nat.le_refl _⟩, by repeat (first | exact Drawn0.refl _ | apply Drawn0.step)⟩
           ·rw [if_neg c12] at H
            exact absurd H (by simp)
          ·rw [if_neg c11] at H
           exact absurd H (by simp)
         ·rw [if_neg c9] at H
          have c9b0 : decide (0 < aa) = false := decide_eq_false c9
          clear c9; have H' := zK H; clear H
          go_wp2
          go_meet
          case rel => exact ⟨_, (false), zf, H', ⟨by have := aj.out; first | omega | exact Nat.le_refl _⟩, by repeat (first | exact Drawn0.refl _ | apply Drawn0.step)⟩
      case rest =>
       clear HC6 ak c4b0 c5b0 ag ae af
       obtain ⟨kq, ac, rfl, HA, HJ5, ⟨mc5, rfl⟩⟩ := hcut
       cases kq with
       | zero => exact absurd HA.out (by simp [impl_areIndexes.j1])
       | succ kj5 =>
        have H := HA.out; clear HA
        simp only [impl_areIndexes.j1] at H
        by_cases c13 : ac = true
        ·subst c13
         rw [if_pos rfl] at H; obtain rfl := Option.some.inj H
         go_wp2
         go_ret
         exact ⟨by first | rfl | (simp; done) | (simp [*]; done), by repeat (first | exact Drawn0.refl _ | apply Drawn0.step)⟩
        ·replace c13 := Bool.eq_false_iff.mpr c13
         subst c13
         rw [if_neg (show ¬ (false = true) by decide)] at H; have H' := zK H; clear H
         go_wp2
         go_roundg kj5
         case measure => have := aj.out; have := HJ5.out; omega
         case rel => exact ⟨(wrap64 (aa + 1)), zf, H', ⟨by have := aj.out; have := HJ5.out; omega⟩, by repeat (first | exact Drawn0.refl _ | apply Drawn0.step)⟩
     ·rw [if_neg c5] at H
      exact absurd H (by simp)
    ·rw [if_neg c4] at H
     exact absurd H (by simp)
   ·rw [if_neg c3] at H
    have ak : decide (aa < (l0.length : Int)) = false := decide_eq_false c3
    clear c3; obtain rfl := Option.some.inj H
    go_wp2
    go_ret
    exact ⟨by first | rfl | (simp; done) | (simp [*]; done), by repeat (first | exact Drawn0.refl _ | apply Drawn0.step)⟩
def slices_Clone_int_int.f (a : List Int) : Option (List Int) := if a.length * 8 ≤ 140737488355328 then (some a) else (none)
set_option maxHeartbeats 4000000 in
set_option maxRecDepth 100000 in
theorem slices_Clone_int_int.calls (A0 : Option Addr) (c0 : Nat) (l0 : List Int) (r : List Int) (w : World) (aa : Kd.C (Kd.int .i64) w A0 l0.length l0) (hc0 : l0.length ≤ c0) (h : slices_Clone_int_int.f l0 = some r) :
  Calls Try.prog 58 #[.slice A0 l0.length c0] w fun e w' => ∃ v0_ : Value, e = .returned (v0_) ∧ Kd.R (Kd.int .i64) 3 w' w.heap.size (fun _ => True) v0_ r ∧ Below w.heap.size w w' := by
 unfold slices_Clone_int_int.f at h
 by_cases hb : l0.length * 8 ≤ 140737488355328
 ·rw [if_pos hb] at h
  obtain rfl := Option.some.inj h
  have q : ∀ (w : World) (a : Option Addr) (n c n' c' : Nat), (binOp .eql 24 (.slice a n c) (.slice none n' c')).run Try.prog w = .ok (.bool a.isNone) w := fun w a n c n' c' => Lib.run_eql_slice_nil w _ _ a n c n' c' Try.underlying24
  cases A0 with
  | none =>
   have hl : l0 = [] := by
    cases l0 with
    | nil => rfl
    | cons x t => obtain ⟨ad, e, _⟩ := aa.2.2 (by simp); cases e
   subst hl; clear aa hc0 h hb
   go_enter Try.func58, Try.ntmps58
   go_wp2
   go_ret
   exact ⟨_, rfl, Kd.R_nil _ _ _ _ _, Below.refl _ _⟩
  | some ad =>
   obtain ⟨news, hnr, hnc⟩ := ReadsRow.inner_ aa
   obtain ⟨i0, hi, hz0, hz1, hz2⟩ : ∃ i0, Try.prog.info? 3 = some i0 ∧ i0.zero = some ((.int .i64 0)) ∧ i0.size = 1 ∧ i0.bytes = 8 := by
    have hx : (Try.prog.info? 3).map (fun i => (i.zero, i.size, i.bytes)) = some (some ((.int .i64 0)), 1, 8) := by kernel_rfl
    cases hh : Try.prog.info? 3 with
    | none => rw [hh] at hx; cases hx
    | some i =>
     rw [hh] at hx
     have hx1 := Option.some.inj hx
     exact ⟨i, rfl, congrArg Prod.fst hx1, congrArg (fun y => y.2.1) hx1, congrArg (fun y => y.2.2) hx1⟩
   have hone : ∀ u ∈ news, u.oneCell' = true := by
    intro u hu
    obtain ⟨j, hj, rfl⟩ := List.getElem_of_mem hu
    have hlen := hnr.1
    have hq : j / 1 < l0.length := by
     have : j < l0.length * 1 := by rw [← show ((Kd.int .i64)).sz = 1 from rfl]; omega
     omega
    refine ((Kd.int .i64)).K_one (hnr.2 (j / 1) _ (List.getElem?_eq_getElem hq)) _ ?_
    refine List.mem_of_getElem? (i := j % 1) ?_
    rw [show ((Kd.int .i64)).sz = 1 from rfl, List.getElem?_take, if_pos (by omega), List.getElem?_drop, show j / 1 * 1 + j % 1 = j by omega, List.getElem?_eq_getElem hj]
   have hlen : news.length = l0.length * 1 := hnr.1
   have hmax : l0.length ≤ maxLen := aa.2.1
   have X := zK (show (∀ j u, news[j]? = some u → w.cell? (ad.add j) = some u) ∧ Reps (Kd.K (Kd.int .i64) w) (Kd.sz (Kd.int .i64)) l0 news from ⟨hnc, hnr⟩)
   clear hnc hnr aa h
   go_enter Try.func58, Try.ntmps58
   go_wp2_with (at_builtin; refine wpList_append_own _ rfl _ _ 24 rfl w.heap.size 3 i0 ((.int .i64 0)) 1 8 Try.underlying24 hi hz0 hz1 hz2 rfl (by decide) _ _ _ rfl (World.ownsRow_made w #[] 0 (Nat.le_refl _) (Nat.zero_le _) (by simp)) ad l0.length c0 news rfl ?qc1 ?qc2 ?qc3 ?qc4 ?qc5 ?qc6 ?_)
   case qc1 => exact hlen
   case qc2 =>
    intro j u hj
    exact Lib.cell?_alloc_some _ (X.out.1 j u hj)
   case qc3 => exact hone
   case qc4 => rw [Nat.zero_add]; exact hmax
   case qc5 => rw [Nat.zero_add]; exact hb
   case qc6 => simp
   intro v' w1 hown hgrow hnil
   go_wp2
   go_ret
   have hown2 : w1.ownsRow w.heap.size 3 1 v' l0.length news := by simpa using hown
   refine ⟨v', rfl, ⟨fun _ _ => trivial, news, hown2, X.out.2.imp_ (fun _ _ hp => hp)⟩, ?_⟩
   exact ((Below.refl _ w).alloc (Nat.le_refl _) _).grown hgrow (by simp) (by intro k hk; simp [Value.ownBlock] at hk; omega)
 ·rw [if_neg hb] at h
  cases h
def impl_bagsOf_1.f (a : Int) : Option (Bool) := some (a == 0)
set_option maxHeartbeats 8000000 in
set_option maxRecDepth 100000 in
theorem impl_bagsOf_1.calls (a0 : Int) (r : Bool) (w : World) (h : impl_bagsOf_1.f a0 = some r) :
  Calls Try.prog 93 #[.int .i64 a0] w fun e w' => e = .returned (.bool r) ∧ Drawn0 w w' := by
 have H := h; unfold impl_bagsOf_1.f at H
 clear h; obtain rfl := Option.some.inj H
 go_enter Try.func93, Try.ntmps93
 go_wp2
 go_ret
 exact ⟨by first | rfl | (simp; done) | (simp [*]; done), by repeat (first | exact Drawn0.refl _ | apply Drawn0.step)⟩
set_option maxHeartbeats 2000000 in
set_option maxRecDepth 100000 in
theorem idxF92 (g : Nat) (lb : Array Value) (eg : ∀ args w, (callFunc g args).run Try.prog w = .ok (.enter g args) w) (A : Option Addr) (c : Nat) (l : List Int) (p : Int → Bool) (w : World)
  (hr : Kd.C (Kd.int .i64) w A l.length l)
  (hp : ∀ (W : World) (x : Int), x ∈ l → Below w.heap.size w W → Calls Try.prog g (#[.int .i64 x] ++ lb) W fun e w' => e = .returned (.bool (p x)) ∧ Below W.heap.size W w') :
  Calls Try.prog 92 #[.slice A l.length c, .func (.func g) #[] lb] w fun e w' => e = .returned (.int .i64 (Opens.idxB p l)) ∧ Below w.heap.size w w' := by
 have hbig : l.length ≤ 9223372036854775807 := hr.2.1
 have HBIG := zK hbig; have HP := zK hp; have HR := zK hr; clear hp hr
 go_enter Try.func92, Try.ntmps92
 go_wp2
 go_loopg [5, 8] l.length (fun gg _ s8 wr => ∃ kk : Nat, kk ≤ l.length ∧ l.length - kk ≤ gg ∧ s8 = .int .i64 kk ∧ Aside0 (Below w.heap.size w wr) ∧ Aside0 (∀ j (hj : j < l.length), j < kk → p l[j] = false))
 case atStart => exact ⟨0, Nat.zero_le _, by omega, rfl, ⟨Below.refl _ w⟩, ⟨fun j _ hj => absurd hj (Nat.not_lt_zero _)⟩⟩
 case round =>
  obtain ⟨kk, hkk, hg, rfl, BW, AL⟩ := hrel
  by_cases hlt : kk < l.length
  ·have hltz : (kk : Int) < (l.length : Int) := by omega
   obtain ⟨ad, rfl, hcell0⟩ := Kd.at_int HR.out (kk : Int) (by omega) (by omega)
   replace hcell0 := (BW.out.cell (World.block_lt_of_cell? w _ hcell0)).trans hcell0
   have hrd : rd l (kk : Int) = l[kk] := by simp [rd, hlt]
   rw [Int.toNat_natCast] at hcell0
   simp only [hrd] at hcell0
   have hcall := HP.out wr l[kk] (List.getElem_mem hlt) BW.out
   generalize hy : l[kk] = y at hcell0 hcall
   have B := zK hy; clear hy hrd
   have hk0 : 0 ≤ (kk : Int) := by omega
   cases hq : p y with
   | true =>
    rw [hq] at hcall
    go_wp2_with (go_at_fn g; refine hcall.mono ?_; rintro e w' ⟨rfl, hb'⟩)
    go_ret
    refine ⟨?_, below_step BW.out hb'⟩
    rw [Opens.idxB_hit p l kk hlt (by rw [B.out]; exact hq) (fun j hj => AL.out j (by omega) hj)]
    rfl
   | false =>
    rw [hq] at hcall
    go_wp2_with (go_at_fn g; refine hcall.mono ?_; rintro e w' ⟨rfl, hb'⟩)
    go_roundg (l.length - (kk + 1))
    case measure => omega
    case rel =>
     refine ⟨kk + 1, by omega, by omega, by go_num, ⟨below_step BW.out hb'⟩, ⟨fun j hj' hj => ?_⟩⟩
     by_cases e : j = kk
     ·subst e
      rw [B.out]; exact hq
     ·exact AL.out j hj' (by omega)
  ·have hltz : ¬ (kk : Int) < (l.length : Int) := by omega
   go_wp2
   go_ret
   refine ⟨?_, BW.out⟩
   rw [Opens.idxB_miss p l (fun j hj => AL.out j hj (by omega))]
   rfl
theorem del_own {w : World} {base e : Nat} {v : Value} {l : List Int} (ho : Kd.R (Kd.int .i64) e w base (fun _ => True) v l) : w.ownsRow base e 1 v l.length (l.map (Value.int .i64)) := by
 obtain ⟨_, inner, ho, hreps⟩ := ho
 have hin : inner = l.map (Value.int .i64) := by
  apply List.ext_getElem?
  intro j
  rw [List.getElem?_map]
  by_cases hj : j < l.length
  ·have h2 := hreps.2 j _ (List.getElem?_eq_getElem hj)
   have h3 : (inner.drop (j * 1)).take 1 = [Value.int .i64 l[j]] := h2
   have h4 := congrArg (fun z => z[0]?) h3
   simp only [Nat.mul_one, List.getElem?_take, List.getElem?_drop, Nat.add_zero, List.getElem?_cons_zero] at h4
   rw [List.getElem?_eq_getElem hj]
   simpa using h4
  ·have h1 : inner.length = l.length * 1 := hreps.1
   rw [List.getElem?_eq_none (by omega), List.getElem?_eq_none (by omega)]
   rfl
 subst hin
 exact ho
theorem del_R {w : World} {base e n : Nat} {v : Value} {l : List Int} (hn : n = l.length) (ho : w.ownsRow base e 1 v n (l.map (Value.int .i64))) : Kd.R (Kd.int .i64) e w base (fun _ => True) v l := by
 subst hn
 exact Kd.R_of_own (enc := Value.int .i64) (h1 := fun _ => rfl) ho (fun _ _ => trivial)
structure DelInv (p : Int → Bool) (l dk : List Int) (jj kk : Nat) : Prop where
 size : dk.length = l.length
 lt : kk < jj
 le : jj ≤ l.length
 low : dk.take kk = (l.take jj).filter (fun z => !p z)
 high : dk.drop jj = l.drop jj
theorem DelInv.start {p : Int → Bool} {l : List Int} {i : Nat} (hi : i < l.length) (hp : p l[i] = true) (ha : ∀ j (hj : j < i), p l[j] = false) : DelInv p l l (i + 1) i where
 size := rfl
 lt := Nat.lt_succ_self _
 le := hi
 low := by
  rw [List.take_succ_eq_append_getElem hi, List.filter_append]
  have e1 : [l[i]].filter (fun z => !p z) = [] := by simp [hp]
  have e2 : (l.take i).filter (fun z => !p z) = l.take i := by
   apply List.filter_eq_self.2
   intro x hx
   obtain ⟨j, hj, rfl⟩ := List.getElem_of_mem hx
   rw [List.length_take] at hj
   rw [List.getElem_take, ha j (by omega)]
   rfl
  rw [e1, e2, List.append_nil]
 high := rfl
theorem DelInv.kklen {p : Int → Bool} {l dk : List Int} {jj kk : Nat} (h : DelInv p l dk jj kk) : ((l.take jj).filter (fun z => !p z)).length = kk := by
 rw [← h.low, List.length_take, h.size]
 have := h.lt; have := h.le
 omega
theorem DelInv.at {p : Int → Bool} {l dk : List Int} {jj kk : Nat} (h : DelInv p l dk jj kk) (hj : jj < l.length) : dk.getD jj 0 = l[jj] := by
 have e := congrArg (fun z => z[0]?) h.high
 simp only [List.getElem?_drop, Nat.add_zero] at e
 rw [List.getD_eq_getElem?_getD, e, List.getElem?_eq_getElem hj]
 rfl
theorem DelInv.skip {p : Int → Bool} {l dk : List Int} {jj kk : Nat} (h : DelInv p l dk jj kk) (hj : jj < l.length) (hp : p l[jj] = true) : DelInv p l dk (jj + 1) kk where
 size := h.size
 lt := by have := h.lt; omega
 le := hj
 low := by
  rw [List.take_succ_eq_append_getElem hj, List.filter_append, h.low]
  simp [hp]
 high := by
  have e := congrArg (List.drop 1) h.high
  rw [List.drop_drop, List.drop_drop] at e
  exact e
theorem DelInv.keep {p : Int → Bool} {l dk : List Int} {jj kk : Nat} (h : DelInv p l dk jj kk) (hj : jj < l.length) (hp : p l[jj] = false) : DelInv p l (dk.set kk l[jj]) (jj + 1) (kk + 1) where
 size := by rw [List.length_set]; exact h.size
 lt := by have := h.lt; omega
 le := hj
 low := by
  have hlt := h.lt; have hsz := h.size
  rw [List.take_succ_eq_append_getElem hj, List.filter_append]
  have e1 : [l[jj]].filter (fun z => !p z) = [l[jj]] := by simp [hp]
  rw [e1, ← h.low, List.take_succ_eq_append_getElem (by rw [List.length_set]; omega), List.getElem_set_self, List.take_set_of_le (Nat.le_refl _)]
 high := by
  have hlt := h.lt
  have e := congrArg (List.drop 1) h.high
  rw [List.drop_drop, List.drop_drop] at e
  rw [List.drop_set_of_lt (by omega)]
  exact e
open Go.Sort in
theorem del_step {w : World} {base e g cap : Nat} {dk : List Int} (ho : w.ownsRow base e 1 (.slice (some ⟨g, 0, none⟩) dk.length cap) dk.length (dk.map (Value.int .i64))) (kk : Nat) (hk : kk < dk.length) (x : Int) :
  (w.setCell ⟨g, kk, none⟩ (.int .i64 x)).ownsRow base e 1 (.slice (some ⟨g, 0, none⟩) dk.length cap) dk.length ((dk.set kk x).map (Value.int .i64)) := by
 obtain ⟨g', cap', he, hb, hgl, hn, hm, hl, hH⟩ := Lib.holds_of_ownsRow ho (by simp)
 injection he with he1 _ he3
 injection he1 with he1
 injection he1 with he1
 subst he1
 have e1 : w = putRow (Value.int .i64) (Sort.ahead w 0) g 0 dk.toArray := (putRow_self (Value.int .i64) w g 0 dk.toArray hH).symm
 have e2 : w.setCell ⟨g, 0 + kk, none⟩ (.int .i64 x) = putRow (Value.int .i64) (Sort.ahead w 0) g 0 (dk.toArray.setIfInBounds kk x) := by
  have := putRow_set (Value.int .i64) (Sort.ahead w 0) g 0 dk.toArray kk x (by simpa using hk)
  rw [← e1] at this
  exact this
 rw [Nat.zero_add] at e2
 rw [e2]
 have h2 := Lib.ownsRow_putRow (q := 0) (k := dk.length) (ys := dk.set kk x) ho (by simp) (Nat.le_refl _)
 rw [List.take_of_length_le (by simp)] at h2
 simpa using h2
theorem del_first {p : Int → Bool} : ∀ (l : List Int), (¬ ∀ x ∈ l, p x = false) → ∃ i, ∃ h : i < l.length, p l[i] = true ∧ ∀ j (hj : j < i), p (l[j]'(by omega)) = false
 | [], h => absurd (fun x hx => by cases hx) h
 | x :: r, h => by
  by_cases hx : p x = true
  ·exact ⟨0, by simp, hx, fun j hj => by omega⟩
  ·have hx' : p x = false := by simpa using hx
   obtain ⟨i, hi, h1, h2⟩ := del_first r (fun hh => h (fun y hy => by
    rcases List.mem_cons.1 hy with e | e
    ·rw [e]; exact hx'
    ·exact hh y e))
   refine ⟨i + 1, by simpa using hi, by simpa using h1, fun j hj => ?_⟩
   cases j with
   | zero => exact hx'
   | succ j => exact h2 j (by omega)
theorem del_grown {w wr : World} {b kk : Nat} {v : Value} (h : w.grownBy wr (some b)) : w.grownBy (wr.setCell ⟨b, kk, none⟩ v) (some b) :=
 ⟨h.os, h.tape, h.output, by simpa [World.setCell] using h.size, fun k hk hne => by
  rw [← h.block k hk hne]
  have hb : b ≠ k := fun e => hne (by rw [e])
  simp [World.setCell, Array.getElem?_modify, hb]⟩
theorem del_lay : ∀ (xs : List Int) (d : Array Int) (k : Nat), (Lib.lay d k xs).size = d.size
 | [], _, _ => rfl
 | x :: r, d, k => by rw [Lib.lay, del_lay r]; simp
open Go.Sort in
theorem del_cells {wr : World} {b : Nat} {dk : List Int} (hH : Holds (Value.int .i64) wr b 0 dk.toArray) (kk n : Nat) (h : kk + n ≤ dk.length) :
  wr.setCells b kk (List.replicate n (Value.int .i64 0)) = putRow (Value.int .i64) (Sort.ahead wr 0) b 0 (Lib.lay dk.toArray kk (List.replicate n 0)) := by
 have e1 : wr = putRow (Value.int .i64) (Sort.ahead wr 0) b 0 dk.toArray := (putRow_self (Value.int .i64) wr b 0 dk.toArray hH).symm
 have e2 := Lib.putRow_setCells (Value.int .i64) (Sort.ahead wr 0) b 0 (List.replicate n 0) dk.toArray kk (by simpa using h)
 rw [← e1, Nat.zero_add, List.map_replicate] at e2
 exact e2
open Go.Sort in
theorem del_end {p : Int → Bool} {wr : World} {base e b cap kk : Nat} {l dk : List Int} (hI : DelInv p l dk l.length kk) (ho : wr.ownsRow base e 1 (.slice (some ⟨b, 0, none⟩) l.length cap) l.length (dk.map (Value.int .i64))) (hH : Holds (Value.int .i64) wr b 0 dk.toArray) :
  Kd.R (Kd.int .i64) e (wr.setCells b kk (List.replicate (l.length - kk) (Value.int .i64 0))) base (fun _ => True) (.slice (some ⟨b, 0, none⟩) kk cap) (l.filter (fun z_ => !p z_)) := by
 have hk := hI.lt; have hs := hI.size
 rw [del_cells hH kk (l.length - kk) (by omega)]
 have hlen : (Lib.lay dk.toArray kk (List.replicate (l.length - kk) 0)).toList.length = l.length := by
  rw [Array.length_toList, del_lay, List.size_toArray, hs]
 have h2 := Lib.ownsRow_putRow (q := 0) (k := kk) (ys := (Lib.lay dk.toArray kk (List.replicate (l.length - kk) 0)).toList) ho hlen (by omega)
 have e1 : (Lib.lay dk.toArray kk (List.replicate (l.length - kk) 0)).toList.take kk = l.filter (fun z_ => !p z_) := by
  have hlow := hI.low
  rw [List.take_of_length_le (Nat.le_refl _)] at hlow
  rw [← hlow]
  apply List.ext_getElem?
  intro j
  rw [List.getElem?_take, List.getElem?_take]
  by_cases hj : j < kk
  ·rw [if_pos hj, if_pos hj, Array.getElem?_toList, Lib.lay_get? _ _ _ _ (by simp; omega), if_neg (by omega)]
   simp
  ·rw [if_neg hj, if_neg hj]
 rw [e1] at h2
 have hkk := hI.kklen
 rw [List.take_of_length_le (Nat.le_refl _)] at hkk
 rw [Array.toArray_toList] at h2
 exact del_R hkk.symm h2
open Go.Sort in
theorem del_below {w0 wr : World} {b : Nat} {dk : List Int} (h : Below w0.heap.size w0 wr) (hb : w0.heap.size ≤ b) (hH : Holds (Value.int .i64) wr b 0 dk.toArray) (kk n : Nat) (hn : kk + n ≤ dk.length) : Below w0.heap.size w0 (wr.setCells b kk (List.replicate n (Value.int .i64 0))) := by
 rw [del_cells hH kk n hn]
 exact Lib.below_putRow h hb
open Go.Sort in
theorem del_grown2 {w wr : World} {b : Nat} {dk : List Int} (h : w.grownBy wr (some b)) (hH : Holds (Value.int .i64) wr b 0 dk.toArray) (kk n : Nat) (hn : kk + n ≤ dk.length) : w.grownBy (wr.setCells b kk (List.replicate n (Value.int .i64 0))) (some b) := by
 rw [del_cells hH kk n hn]
 exact ⟨h.os, h.tape, h.output, by simpa [putRow, mapBlock, Sort.ahead] using h.size, fun k hk hne => by
  rw [← h.block k hk hne]
  have hb : b ≠ k := fun e => hne (by rw [e])
  simp [putRow, mapBlock, Sort.ahead, Array.getElem?_modify, hb]⟩
open Go.Sort in
set_option maxHeartbeats 4000000 in
set_option maxRecDepth 100000 in
theorem delF57 (g : Nat) (lb : Array Value) (eg : ∀ args w, (callFunc g args).run Try.prog w = .ok (.enter g args) w) (p : Int → Bool)
  (w0 w : World) (v : Value) (l : List Int) (hp : ∀ (W : World) (x : Int), x ∈ l → w.grownBy W v.ownBlock → Calls Try.prog g (#[.int .i64 x] ++ lb) W fun e w' => e = .returned (.bool (p x)) ∧ Below W.heap.size W w') (hB : Below w0.heap.size w0 w) (ho : Kd.R (Kd.int .i64) 3 w w0.heap.size (fun _ => True) v l) :
  Calls Try.prog 57 #[v, .func (.func g) #[] lb] w fun e w' => ∃ v', e = .returned v' ∧ Kd.R (Kd.int .i64) 3 w' w0.heap.size (fun _ => True) v' (l.filter (fun z_ => !p z_)) ∧ Below w0.heap.size w0 w' ∧ w.grownBy w' v.ownBlock := by
 obtain ⟨A, c, rfl, hc, hr⟩ := Kd.R_reads ho
 have hidx := idxF92 g lb eg A c l p w hr (fun W x hx hb => hp W x hx ⟨hb.os, hb.tape, hb.output, hb.size, fun k hk _ => hb.block k hk⟩)
 have hbig : l.length ≤ 9223372036854775807 := hr.2.1
 have hown := del_own ho; have HHP := zK hp; have HB0 := zK hB; clear hp hr ho hB
 by_cases hall : ∀ x ∈ l, p x = false
 ·have hi : Opens.idxB p l = -1 := Opens.idxB_miss p l (fun j hj => hall _ (List.getElem_mem hj))
  have hf : l.filter (fun z_ => !p z_) = l := List.filter_eq_self.2 (fun x hx => by simp [hall x hx])
  rw [hi] at hidx
  have HO := zK hown; have HF := zK hf; clear hown hall hi hf
  go_enter Try.func57, Try.ntmps57
  go_wp2_with (go_at_call 92; refine hidx.mono ?_; rintro e w1 ⟨rfl, hb1⟩; have HB1 := zK hb1; clear hb1 hidx)
  go_ret
  refine ⟨_, rfl, ?_, below_step HB0.out HB1.out, ⟨HB1.out.os, HB1.out.tape, HB1.out.output, HB1.out.size, fun k hk _ => HB1.out.block k hk⟩⟩
  rw [HF.out]
  exact del_R rfl (own_move HO.out (fun k hk => HB1.out.block k (by obtain ⟨cells, hcell⟩ := own_typed HO.out k hk; exact (Array.getElem?_eq_some_iff.1 hcell).1)))
 ·obtain ⟨i0, hi0, hp0, hf0⟩ : ∃ i0, ∃ h : i0 < l.length, p l[i0] = true ∧ ∀ j (hj : j < i0), p l[j] = false := del_first l hall
  have hi : Opens.idxB p l = (i0 : Int) := Opens.idxB_hit p l i0 hi0 hp0 (fun j hj => hf0 j hj)
  rw [hi] at hidx
  have hpos : 0 < l.length := by omega
  obtain ⟨b, cap, he, hbb, hbl, hn, hm, hl, hH⟩ := Lib.holds_of_ownsRow hown (fun e0 => by rcases hown.2 with ⟨_, h0⟩ | ⟨_, _, _, e1, _⟩; omega; rw [e0] at e1; cases e1)
  injection he with he1 _ he3
  subst he1; subst he3
  have hne1 : ((i0 : Int) == -1) = false := by
   rw [beq_eq_false_iff_ne]
   omega
  have START := zK (DelInv.start hi0 hp0 hf0)
  have HO := zK hown; clear hall hown hi hp0 hf0 hH hl
  go_enter Try.func57, Try.ntmps57
  go_wp2_with (go_at_call 92; refine hidx.mono ?_; rintro e w1 ⟨rfl, hb1⟩; have HB1 := zK hb1; clear hb1 hidx)
  go_loopg [5, 6] l.length (fun gg s5 s6 wr => ∃ (kk jj : Nat) (dk : List Int), s5 = .int .i64 kk ∧ s6 = .int .i64 jj ∧ jj ≤ l.length ∧ kk < jj ∧ l.length - jj ≤ gg ∧ Aside0 (DelInv p l dk jj kk) ∧ Aside0 (wr.ownsRow w0.heap.size 3 1 (.slice (some ⟨b, 0, none⟩) l.length c) l.length (dk.map (Value.int .i64))) ∧ Aside0 (Below w0.heap.size w0 wr) ∧ Aside0 (w.grownBy wr (some b)))
  case atStart =>
   refine ⟨i0, i0 + 1, l, rfl, by go_num, by omega, by omega, by omega, START, ⟨?_⟩, ⟨below_step HB0.out HB1.out⟩, ⟨⟨HB1.out.os, HB1.out.tape, HB1.out.output, HB1.out.size, fun k hk _ => HB1.out.block k hk⟩⟩⟩
   exact own_move HO.out (fun k hk => HB1.out.block k (by obtain ⟨cells, hcell⟩ := own_typed HO.out k hk; exact (Array.getElem?_eq_some_iff.1 hcell).1))
  case round =>
   obtain ⟨kk, jj, dk, rfl, rfl, hjl, hkj, hg, INV, OWN, BEL, GRO⟩ := hrel
   have hsz := INV.out.size
   obtain ⟨hbl', hHk⟩ : b < wr.heap.size ∧ Holds (Value.int .i64) wr b 0 dk.toArray := by
    obtain ⟨g', cap', he, _, h1, _, _, _, h2⟩ := Lib.holds_of_ownsRow OWN.out (by simp)
    injection he with he1 _ _
    injection he1 with he1
    injection he1 with he1
    subst he1
    exact ⟨h1, h2⟩
   by_cases hlt : jj < l.length
   ·obtain ⟨cm, _⟩ := hHk jj (by simpa [hsz] using hlt)
    obtain ⟨ck, fk⟩ := hHk kk (by simp [hsz]; omega)
    rw [Nat.zero_add, getElem!_pos _ jj (by simpa [hsz] using hlt), List.getElem_toArray] at cm
    rw [Nat.zero_add] at ck fk
    have ej : dk[jj]'(by omega) = l[jj] := by
     have := INV.out.at hlt
     rw [List.getD_eq_getElem?_getD, List.getElem?_eq_getElem (by omega), Option.getD_some] at this
     exact this
    rw [ej] at cm
    generalize hx : l[jj] = x at cm
    have HX := zK hx; clear hHk ej hx
    generalize dk.toArray[kk]! = old at ck
    have hcall := HHP.out wr x (by rw [← HX.out]; exact List.getElem_mem hlt) (by have h_ := GRO.out; simpa [Value.ownBlock] using h_)
    cases hq : p x with
    | true =>
     rw [hq] at hcall
     have HQ := zK hq; clear hq
     go_wp2_with (go_at_fn g; refine hcall.mono ?_; rintro e w2 ⟨rfl, hb2⟩; have HB2 := zK hb2; clear hb2 hcall)
     go_roundg (l.length - (jj + 1))
     case measure => omega
     case rel =>
      refine ⟨kk, jj + 1, dk, rfl, by go_num, by omega, by omega, by omega, ⟨INV.out.skip hlt (by rw [HX.out]; exact HQ.out)⟩, ⟨own_move OWN.out (fun k hk => HB2.out.block k ?_)⟩, ⟨below_step BEL.out HB2.out⟩, ⟨⟨HB2.out.os.trans GRO.out.os, HB2.out.tape.trans GRO.out.tape, HB2.out.output.trans GRO.out.output, Nat.le_trans GRO.out.size HB2.out.size, fun k hk hne => (HB2.out.block k (Nat.lt_of_lt_of_le hk GRO.out.size)).trans (GRO.out.block k hk hne)⟩⟩⟩
      obtain ⟨cells, hcell⟩ := own_typed OWN.out k hk
      exact (Array.getElem?_eq_some_iff.1 hcell).1
    | false =>
     rw [hq] at hcall
     have HQ := zK hq; clear hq
     go_wp2_with (go_at_fn g; refine hcall.mono ?_; rintro e w2 ⟨rfl, hb2⟩; have hbb2 : g < g + 1 := Nat.lt_succ_self _; have HB2 := zK hb2; have ck2 : w2.cell? ⟨b, kk, none⟩ = some (Value.int .i64 old) := (World.cell?_of_block (HB2.out.block b hbl')).trans ck; have fk2 : w2.frozen? ⟨b, kk, none⟩ = false := (World.frozen?_of_block (HB2.out.block b hbl')).trans fk; clear hb2 hcall hbb2)
     go_roundg (l.length - (jj + 1))
     case measure => omega
     case rel =>
      have OWN2 : w2.ownsRow w0.heap.size 3 1 (.slice (some ⟨b, 0, none⟩) l.length c) l.length (dk.map (Value.int .i64)) := own_move OWN.out (fun k hk => HB2.out.block k (by obtain ⟨cells, hcell⟩ := own_typed OWN.out k hk; exact (Array.getElem?_eq_some_iff.1 hcell).1))
      rw [← hsz] at OWN2
      have OWN3 := del_step OWN2 kk (by omega) x
      rw [hsz] at OWN3
      have gr2 : w.grownBy w2 (some b) := ⟨HB2.out.os.trans GRO.out.os, HB2.out.tape.trans GRO.out.tape, HB2.out.output.trans GRO.out.output, Nat.le_trans GRO.out.size HB2.out.size, fun k hk hne => (HB2.out.block k (Nat.lt_of_lt_of_le hk GRO.out.size)).trans (GRO.out.block k hk hne)⟩
      refine ⟨kk + 1, jj + 1, dk.set kk x, by go_num, by go_num, by omega, by omega, by omega, ⟨by have := INV.out.keep hlt (by rw [HX.out]; exact HQ.out); rwa [HX.out] at this⟩, ⟨OWN3⟩, ⟨zS (below_step BEL.out HB2.out) hbb⟩, ⟨del_grown gr2⟩⟩
   ·have hend : jj = l.length := by omega
    subst hend
    have hcl : ∀ ty, (Builtin.clear_ #[24] ty #[.slice (some ⟨b, 0 + kk, none⟩) (l.length - kk) (c - kk)]).run Try.prog wr = .ok (.tuple #[]) (wr.setCells b (0 + kk) (List.replicate (l.length - kk) (Value.int .i64 0))) :=
     fun ty => Lib.run_clear_slice wr _ _ ty _ Try.underlying24 Try.zeroValue3 rfl rfl b (0 + kk) _ _ (by omega) (fun j hj => by rw [show 0 + kk + j = 0 + (kk + j) by omega, (hHk (kk + j) (by simp [hsz]; omega)).1]; rfl) (fun j hj => by rw [show 0 + kk + j = 0 + (kk + j) by omega]; exact (hHk (kk + j) (by simp [hsz]; omega)).2)
    rw [Nat.zero_add] at hcl
    have HHK := zK hHk; clear hHk
    go_wp2
    go_ret
    refine ⟨_, rfl, ?_, ?_, ?_⟩
    ·exact del_end INV.out OWN.out HHK.out
    ·exact del_below BEL.out hbb HHK.out kk (l.length - kk) (by omega)
    ·exact del_grown2 GRO.out HHK.out kk (l.length - kk) (by omega)
def vc_impl_bagsOf_1_del.p (x : Int) : Bool := (impl_bagsOf_1.f x).getD false
theorem vc_impl_bagsOf_1_del.tot (x : Int) : impl_bagsOf_1.f x = some (vc_impl_bagsOf_1_del.p x) := by
 unfold vc_impl_bagsOf_1_del.p
 cases h : impl_bagsOf_1.f x with
 | some b => rfl
 | none => exact absurd h (by simp only [impl_bagsOf_1.f]; (repeat' split) <;> simp_all)
theorem vc_impl_bagsOf_1_del.del (w0 w : World) (v : Value) (l : List Int) (hB : Below w0.heap.size w0 w) (ho : Kd.R (Kd.int .i64) 3 w w0.heap.size (fun _ => True) v l) :
  Calls Try.prog 57 #[v, .func (.func 93) #[] #[]] w fun e w' => ∃ v', e = .returned v' ∧ Kd.R (Kd.int .i64) 3 w' w0.heap.size (fun _ => True) v' (l.filter (fun z_ => !vc_impl_bagsOf_1_del.p z_)) ∧ Below w0.heap.size w0 w' ∧ w.grownBy w' v.ownBlock :=
 delF57 93 #[] (enters_of Try.func93 (by kernel_rfl) rfl) vc_impl_bagsOf_1_del.p w0 w v l (fun W x _ _ => (impl_bagsOf_1.calls x _ W (vc_impl_bagsOf_1_del.tot x)).mono fun e w' h_ => ⟨h_.1, h_.2.below⟩) hB ho
def impl_bagsOf.l0 : Nat → List Int → List (S69) → Int → Int → Option (List Int)
 | 0, _, _, _, _ => none
 | k + 1, a, b, c, d => if d < c then (if 0 ≤ d then (if d < (b.length : Int) then (if a.length + ((rd_T69 b d).f2).length < 17592186044416 then (impl_bagsOf.l0 k (a ++ ((rd_T69 b d).f2)) b c (wrap64 (d + 1))) else (none)) else (none)) else (none)) else (some a)
def impl_bagsOf.f (k : Nat) (a : List Int) (b : Int) (c : List (S69)) (d : List (S74)) : Option (List Int) := (slices_Clone_int_int.f a).bind fun e => (impl_bagsOf.l0 k (e.filter (fun z_ => !vc_impl_bagsOf_1_del.p z_)) c (c.length : Int) 0)
set_option maxHeartbeats 8000000 in
set_option maxRecDepth 100000 in
theorem impl_bagsOf.calls (k : Nat) (ak : Option Addr) (al : Nat) (af : List Int) (a0_1 : Int) (au : Option Addr) (am : Nat) (ab : List (S69)) (an : Option Addr) (ao : Nat) (aj : List (S74)) (r : List Int) (w : World) (aQ : Kd.C (Kd.int .i64) w ak af.length af) (hc0_0 : af.length ≤ al) (aT : Kd.C k69 w au ab.length ab) (hc0_2 : ab.length ≤ am) (aU : Kd.C k74 w an aj.length aj) (hc0_3 : aj.length ≤ ao) (h : impl_bagsOf.f k af a0_1 ab aj = some r) :
  Calls Try.prog 64 #[.agg #[.slice ak af.length al, .int .i64 a0_1, .slice au ab.length am, .slice an aj.length ao]] w fun e w' => ∃ v0_ : Value, e = .returned (v0_) ∧ Kd.R (Kd.int .i64) 3 w' w.heap.size (fun _ => True) v0_ r ∧ Below w.heap.size w w' := by
 have hu28 := Try.underlying28; have hu69 := Try.underlying69; have bf := zK aQ; have bg := zK hc0_0; clear aQ hc0_0; have bh := zK aT; have HC0_2 := zK hc0_2; clear aT hc0_2; have HR0_3 := zK aU; have HC0_3 := zK hc0_3; clear aU hc0_3
 have HB := zK (Below.refl w.heap.size w)
 have H := h; unfold impl_bagsOf.f at H
 clear h; replace H := Option.bind_eq_some_iff.mp H
 obtain ⟨aG, A20, H⟩ := H
 (try dsimp only at H)
 have A2 := zK A20; clear A20
 obtain ⟨bi, aJ⟩ : ∃ y_ : List Int, y_ = (aG.filter (fun z_ => !vc_impl_bagsOf_1_del.p z_)) := ⟨_, rfl⟩
 replace H : (impl_bagsOf.l0 k bi ab (ab.length : Int) 0) = some r := by rw [aJ]; with_reducible exact H
 have Ny107 := zK aJ; clear aJ; have H' := zK H; clear H
 go_enter Try.func64, Try.ntmps64
 go_wp2_with (first | ((with_reducible refine gate_dst (N := 1) rfl ?_); refine zX 1 #[.slice ak af.length al, .int .i64 a0_1, .slice au ab.length am, .slice an aj.length ao] 28 ?_; intro ad hg w3 hbox hb; have aa := zK (hbox); have GW103 := zK ((by rw [hg]; exact (below_size (zb HB)) : w.heap.size ≤ ad)); have ae := zK ((by rw [hg]; exact (below_size (zb HB)) : w.heap.size ≤ ad)); replace HB := zK (below_step (zb HB) hb); clear hb hbox hg; obtain ⟨aW, aX, aY, aZ⟩ := zL4 aa; obtain ⟨a0, a1, a2, a3⟩ := zF4 aa) | ((with_reducible refine gate_callee (f := 58) rfl ?_); refine goesL_ (some 8) rfl rfl Try.func58 (by kernel_rfl) rfl #[.slice ak af.length al] rfl zg ?_; (with_reducible refine (slices_Clone_int_int.calls _ _ af aG _ ?side1 ?side2 A2.out).mono ?_); (case side1 => exact zs (Kd.C_below bf.out HB.out)); (case side2 => exact bg.out); rintro e w5 ⟨v105, rfl, ho0, hb⟩; refine ⟨_, rfl, ?_⟩; have az := zK (Kd.R_lower ho0 (below_size (zb HB))); replace aa := zK (blk_below (g := ad) (o := .cells #[.slice ak af.length al, .int .i64 a0_1, .slice au ab.length am, .slice an aj.length ao] 28 (0, 0)) (zk aa) hb); replace HB := zK (below_step (zb HB) hb); (try clear hb); (try clear ho0); obtain ⟨Ao7, co7, eo7⟩ := Kd.R_slice az.out; subst eo7) | (go_at_call 57; refine (vc_impl_bagsOf_1_del.del w _ _ aG (zb HB) (zR az)).mono ?_; rintro e w6 ⟨v108, rfl, ho, hb, hg⟩; rw [← Ny107.out] at ho; replace aa := zK (blk_grown (g := ad) (o := .cells #[.slice ak af.length al, .int .i64 a0_1, .slice au ab.length am, .slice an aj.length ao] 28 (0, 0)) (zk aa) hg (Kd.R_ne az.out aa.out (by decide))); replace HB := zK (hb); have bj := zK (ho); clear az; clear ho hb hg; obtain ⟨a4, a5, a6, a7⟩ := zL4 aa; obtain ⟨a8, a9, ba, bb⟩ := zF4 aa))
 go_loopg [3, 13] k (fun kq v3 v13 w' => ∃ (aH : List Int) (ac : Int), v13 = .int .i64 ac ∧ Aside0 (impl_bagsOf.l0 kq aH ab (ab.length : Int) ac = some r) ∧ Aside0 (kq ≤ k) ∧ Aside0 (Kd.R (Kd.int .i64) 3 w' w.heap.size (fun _ => True) v3 aH) ∧ Aside0 (w'.heap[ad]? = some (.cells #[(.slice ak af.length al), .int .i64 a0_1, (.slice au ab.length am), (.slice an aj.length ao)] 28 (0, 0))) ∧ Aside0 (Below w.heap.size w w'))
 case atStart => exact ⟨(bi), (0), zf, H', ⟨Nat.le_refl _⟩, ⟨zR bj⟩, ⟨zk aa⟩, ⟨zb HB⟩⟩
 case round =>
  clear H' aW aX aY aZ a4 a5 a6 a7 a0 a1 a2 a3 a8 a9 ba bb
  obtain ⟨aH, ac, rfl, HA, HK1, av, aa, HB⟩ := hrel
  cases gk with
  | zero => exact absurd HA.out (by simp [impl_bagsOf.l0])
  | succ k1 =>
   have H := HA.out; clear HA
   simp only [impl_bagsOf.l0] at H
   by_cases c9 : ac < (ab.length : Int)
   ·rw [if_pos c9] at H
    have c9b0 : decide (ac < (ab.length : Int)) = true := decide_eq_true c9
    clear c9
    by_cases c10 : 0 ≤ ac
    ·rw [if_pos c10] at H
     have c10b0 : decide (0 ≤ ac) = true := decide_eq_true c10
     clear c10
     by_cases c11 : ac < (ab.length : Int)
     ·rw [if_pos c11] at H
      have c11b0 : decide (ac < (ab.length : Int)) = true := decide_eq_true c11
      clear c11
      by_cases c12 : aH.length + ((rd_T69 ab ac).f2).length < 17592186044416
      ·rw [if_pos c12] at H
       have bk := zK c12; clear c12
       obtain ⟨bl, aK⟩ : ∃ y_ : List Int, y_ = (aH ++ ((rd_T69 ab ac).f2)) := ⟨_, rfl⟩
       replace H : (impl_bagsOf.l0 k1 bl ab (ab.length : Int) (wrap64 (ac + 1))) = some r := by rw [aK]; with_reducible exact H
       have Ny112 := zK aK; clear aK; have H' := zK H; clear H
       have bc : 0 ≤ (ac : Int) := zd
       have bd : ac < (ab.length : Int) := zd
       obtain ⟨aA, aM, aN, e110, ap, aq, ar, aC, aD⟩ := at_T69 bh.out ac bc bd
       cases e110
       replace ap := (HB.out.cell (World.block_lt_of_cell? w _ ap)).trans ap
       replace aq := (HB.out.cell (World.block_lt_of_cell? w _ aq)).trans aq
       replace ar := (HB.out.cell (World.block_lt_of_cell? w _ ar)).trans ar
       have aP := zK aD; have HC110_2 := zK aC; clear aD aC; replace bc := eq_true bc; replace bd := eq_true bd
       go_wp2_with (first | ((with_reducible refine gate_dst (N := 5) rfl ?_); refine zX 5 #[.int .i64 0, .int .i64 0, .slice none 0 0] 69 ?_; intro ag hg w13 hbox hb; replace av := zK (Kd.R_below (zR av) hb); have ah := zK (hbox); have GW111 := zK ((by rw [hg]; exact (below_size (zb HB)) : w.heap.size ≤ ag)); have aE := zK ((by rw [hg]; exact (below_size (zb HB)) : w.heap.size ≤ ag)); replace HB := zK (below_step (zb HB) hb); have ai := zK ((by rw [hg]; exact Nat.ne_of_lt (blk_lt (g := ad) (o := .cells #[.slice ak af.length al, .int .i64 a0_1, .slice (some aA) ab.length am, .slice an aj.length ao] 28 (0, 0)) (zk aa)) : ad ≠ ag)); have aI := zK ((by rw [hg]; exact Nat.ne_of_gt (blk_lt (g := ad) (o := .cells #[.slice ak af.length al, .int .i64 a0_1, .slice (some aA) ab.length am, .slice an aj.length ao] 28 (0, 0)) (zk aa)) : ag ≠ ad)); replace aa := zK (blk_below (g := ad) (o := .cells #[.slice ak af.length al, .int .i64 a0_1, .slice (some aA) ab.length am, .slice an aj.length ao] 28 (0, 0)) (zk aa) hb); clear hb hbox hg; have hnb14 := aI.out; have hnc14 := ai.out; obtain ⟨hcz15_0, hcz15_1, hcz15_2⟩ := zL3 ah; obtain ⟨hfz15_0, hfz15_1, hfz15_2⟩ := zF3 ah) | ((with_reducible refine gate_builtin (b := .append) (xs := #[.tmp 17, .tmp 19]) rfl ?_); at_builtin; refine Kd.R_append_rows (Kd.int .i64) (w0 := w) w.heap.size rfl (.tmp 17) (.tmp 19) 24 3 (.int .i64 0) 8 rfl Try.underlying24 info3 rfl (by decide) (by omega) u3 aH ((rd_T69 ab ac).f2) _ _ _ (fun _ => True) (fun _ => False) rfl rfl ?aO ?aR (fun _ _ h => h) (fun _ h => h.elim) ?aF ?aB ?aS ?aL ?_; (case aR => exact Kd.C_below aP.out (zb HB)); (case aB => exact (zb HB)); (case aF => exact (fun _ _ => trivial)); (case aO => exact (by (with_reducible repeat (first | apply Kd.R_alloc | apply Kd.R_drewN | apply Kd.R_drew)); exact Kd.R_mono (Kd.R_far (p := ⟨ag, 2, none⟩) (Kd.R_far (p := ⟨ag, 1, none⟩) (Kd.R_far (p := ⟨ag, 0, none⟩) (Kd.R_types av.out ah.out (by decide)) (fun _ hk => hk.2) (.int .i64 ((rd_T69 ab ac).f0))) (fun _ hk => hk.2) (.int .i64 ((rd_T69 ab ac).f1))) (fun _ hk => hk.2) (.slice aM ((rd_T69 ab ac).f2).length aN)) (fun _ hk => trivial))); (case aS => exact (below_size (zb HB))); (case aL => have := bk.out; omega); intro v113 w16 ho hb hg hat; rw [← Ny112.out] at ho; replace aa := zK (blk_grown (g := ad) (o := .cells #[.slice ak af.length al, .int .i64 a0_1, .slice (some aA) ab.length am, .slice an aj.length ao] 28 (0, 0)) (zh aa ai) hg (Kd.R_ne av.out aa.out (by decide))); replace ah := zK (blk_grown (g := ag) (o := .cells #[.int .i64 ((rd_T69 ab ac).f0), .int .i64 ((rd_T69 ab ac).f1), .slice aM ((rd_T69 ab ac).f2).length aN] 69 (0, 0)) (by (with_reducible repeat (first | refine zN ?_ _ | refine zD ?_ | refine zA ?_ _)); refine blk_put (cs := #[.int .i64 ((rd_T69 ab ac).f0), .int .i64 ((rd_T69 ab ac).f1), .slice none 0 0]) ?_ 2 _ rfl; (with_reducible repeat (first | refine zN ?_ _ | refine zD ?_ | refine zA ?_ _)); refine blk_put (cs := #[.int .i64 ((rd_T69 ab ac).f0), .int .i64 0, .slice none 0 0]) ?_ 1 _ rfl; (with_reducible repeat (first | refine zN ?_ _ | refine zD ?_ | refine zA ?_ _)); refine blk_put (cs := #[.int .i64 0, .int .i64 0, .slice none 0 0]) ?_ 0 _ rfl; (with_reducible repeat (first | refine zN ?_ _ | refine zD ?_ | refine zA ?_ _)); exact ah.out) hg (Kd.R_ne av.out ah.out (by decide))); replace HB := zK (hb); have bm := zK (ho); clear av; clear ho hb hg hat))
       go_roundg k1
       case measure => have := HK1.out; omega
       case rel => exact ⟨(bl), (wrap64 (ac + 1)), zf, H', ⟨by have := HK1.out; omega⟩, ⟨zR bm⟩, ⟨zk aa⟩, ⟨zb HB⟩⟩
      ·rw [if_neg c12] at H
       exact absurd H (by simp)
     ·rw [if_neg c11] at H
      exact absurd H (by simp)
    ·rw [if_neg c10] at H
     exact absurd H (by simp)
   ·rw [if_neg c9] at H
    have c9b0 : decide (ac < (ab.length : Int)) = false := decide_eq_false c9
    clear c9; obtain rfl := Option.some.inj H
    go_wp2
    go_ret
    exact ⟨_, ze, by (with_reducible repeat (first | apply Kd.R_alloc | apply Kd.R_drewN | apply Kd.R_drew)); exact av.out, zb HB⟩
def impl_LoopOk_1.f (a : Int) : Option (Bool) := some (decide (a < 1))
set_option maxHeartbeats 8000000 in
set_option maxRecDepth 100000 in
theorem impl_LoopOk_1.calls (a0 : Int) (r : Bool) (w : World) (h : impl_LoopOk_1.f a0 = some r) :
  Calls Try.prog 66 #[.int .i64 a0] w fun e w' => e = .returned (.bool r) ∧ Drawn0 w w' := by
 have H := h; unfold impl_LoopOk_1.f at H
 clear h; obtain rfl := Option.some.inj H
 go_enter Try.func66, Try.ntmps66
 go_wp2
 go_ret
 exact ⟨by first | rfl | (simp; done) | (simp [*]; done), by repeat (first | exact Drawn0.refl _ | apply Drawn0.step)⟩
def impl_areDifferent.f (a : List Int) : Option (Bool) := if a.length * 8 ≤ 140737488355328 then (some (decide a.Nodup)) else (none)
open Go.Sort in
set_option maxHeartbeats 4000000 in
set_option maxRecDepth 100000 in
theorem impl_areDifferent.calls (A0 : Option Addr) (c0 : Nat) (l0 : List Int) (r : Bool) (w : World) (hr0 : Kd.C (Kd.int .i64) w A0 l0.length l0) (hc0 : l0.length ≤ c0) (h : impl_areDifferent.f l0 = some r) :
  Calls Try.prog 67 #[.slice A0 l0.length c0] w fun e w' => e = .returned (.bool r) ∧ Below w.heap.size w w' := by
 unfold impl_areDifferent.f at h
 by_cases hb : l0.length * 8 ≤ 140737488355328
 ·rw [if_pos hb] at h
  obtain rfl := Option.some.inj h
  have hclone := slices_Clone_int_int.calls A0 c0 l0 l0 w hr0 hc0 (by unfold slices_Clone_int_int.f; rw [if_pos hb])
  clear hr0 h
  by_cases hz : l0 = []
  ·subst hz
   go_enter Try.func67, Try.ntmps67
   go_wp2_with (first
    | (
      go_at_call 58; refine hclone.mono ?_; rintro e w1 ⟨v1, rfl, hR, hbel⟩
      obtain ⟨p, cap, rfl⟩ : ∃ p cap, v1 = .slice p 0 cap := by
       obtain ⟨_, inner, ho, _⟩ := hR
       rcases ho.2 with ⟨e0, _⟩ | ⟨g, cap, _, e0, _⟩
       ·exact ⟨none, 0, e0⟩
       ·exact ⟨_, cap, e0⟩
      have hsort := Sh.Try.slices_Sort_int_none p cap w1; have hcomp := Sh.Try.slices_Compact_int_empty p cap w1; have X := zK hbel
      clear hR hbel hclone)
    | (
      go_at_call 94; refine hsort.mono ?_; rintro e w2 ⟨rfl, rfl⟩; clear hsort)
    | (
      go_at_call 95; refine hcomp.mono ?_; rintro e w3 ⟨rfl, rfl⟩; clear hcomp))
   go_ret
   exact ⟨by simp, X.out⟩
  ·have hlen0 : 0 < l0.length := by cases l0 with | nil => exact absurd rfl hz | cons => simp
   have hD := zK (diff_eq l0)
   clear hz
   go_enter Try.func67, Try.ntmps67
   go_wp2_with (first
    | (
      go_at_call 58; refine hclone.mono ?_; rintro e w1 ⟨v1, rfl, hR, hbel⟩
      obtain ⟨g, cap, rfl, hbg, hgl, hncap, hcm, hlen, hH⟩ : ∃ g cap, v1 = .slice (some ⟨g, 0, none⟩) l0.length cap ∧ w.heap.size ≤ g ∧ g < w1.heap.size ∧ l0.length ≤ cap ∧ cap ≤ maxLen ∧ l0.length = l0.length ∧ Holds (Value.int .i64) w1 g 0 l0.toArray := by
       obtain ⟨_, inner, ho, hreps⟩ := hR
       have hin : inner = l0.map (Value.int .i64) := by
        apply List.ext_getElem?
        intro j
        rw [List.getElem?_map]
        by_cases hj : j < l0.length
        ·have h2 := hreps.2 j _ (List.getElem?_eq_getElem hj)
         have h3 : (inner.drop (j * 1)).take 1 = [Value.int .i64 l0[j]] := h2
         have h4 := congrArg (fun z => z[0]?) h3
         simp only [Nat.mul_one, List.getElem?_take, List.getElem?_drop, Nat.add_zero, List.getElem?_cons_zero] at h4
         rw [List.getElem?_eq_getElem hj]
         simpa using h4
        ·have h1 : inner.length = l0.length * 1 := hreps.1
         rw [List.getElem?_eq_none (by omega), List.getElem?_eq_none (by omega)]
         rfl
       subst hin
       refine Lib.holds_of_ownsRow ho (fun e0 => ?_)
       rcases ho.2 with ⟨_, e1⟩ | ⟨g, cap, _, e1, _⟩
       ·omega
       ·rw [e0] at e1; cases e1
      have hsort := Sh.Try.slices_Sort_int g 0 cap l0 w1 hH hgl (by omega)
      have X : Aside (Below w.heap.size w w1 ∧ w.heap.size ≤ g ∧ g < w1.heap.size ∧ Holds (Value.int .i64) w1 g 0 l0.toArray) := ⟨hbel, hbg, hgl, hH⟩
      clear hbel hH hR hlen hclone)
    | (
      go_at_call 94; refine hsort.mono ?_; rintro e w2 ⟨rfl, nn, os, hw2⟩
      have hH2 : Holds (Value.int .i64) w2 g 0 (l0.mergeSort fun x y => decide (x ≤ y)).toArray := by
       subst hw2
       exact holds_grow _ _ os g 0 _ (by simpa [putRow, mapBlock, Sort.ahead] using X.out.2.2.1) (holds_putRow _ _ g 0 _ _ (holds_ahead _ w1 nn g 0 _ X.out.2.2.2) (by simp))
      have hB2 : Below w.heap.size w w2 := by
       subst hw2
       exact X.out.1.grown (grownBy_sortedI _) X.out.1.size (fun j hj => by cases hj; exact X.out.2.1)
      have hcomp := Sh.Try.slices_Compact_int g 0 cap (l0.mergeSort fun x y => decide (x ≤ y)) w2 hH2 (by rw [List.length_mergeSort]; omega) (by rw [List.length_mergeSort]; exact hncap)
      rw [List.length_mergeSort] at hcomp
      obtain ⟨mm, hmm⟩ : ∃ mm, (Lib.compact (l0.mergeSort fun x y => decide (x ≤ y))).length = mm := ⟨_, rfl⟩
      have Y : Aside (Below w.heap.size w w2 ∧ w.heap.size ≤ g ∧ (Lib.compact (l0.mergeSort fun x y => decide (x ≤ y))).length = mm) := ⟨hB2, X.out.2.1, hmm⟩
      rw [hmm] at hcomp
      clear hw2 hsort hH2 hB2 X hmm)
    | (
      go_at_call 95; refine hcomp.mono ?_; rintro e w3 ⟨rfl, qq, hw3⟩
      have hB3 : Below w.heap.size w w3 := by
       subst hw3
       exact Lib.below_putRow Y.out.1 Y.out.2.1
      have Z : Aside (Below w.heap.size w w3 ∧ (Lib.compact (l0.mergeSort fun x y => decide (x ≤ y))).length = mm) := ⟨hB3, Y.out.2.2⟩
      clear hw3 hcomp hB3 Y))
   go_ret
   refine ⟨?_, Z.out.1⟩
   have e1 := hD.out
   rw [Z.out.2] at e1
   rw [← e1]
   rfl
 ·rw [if_neg hb] at h
  cases h
set_option maxHeartbeats 2000000 in
set_option maxRecDepth 100000 in
theorem cntF65 (g : Nat) (lb : Array Value) (eg : ∀ args w, (callFunc g args).run Try.prog w = .ok (.enter g args) w) (A : Option Addr) (c : Nat) (l : List Int) (p : Int → Bool) (w : World)
  (hr : Kd.C (Kd.int .i64) w A l.length l)
  (hp : ∀ (W : World) (x : Int), x ∈ l → Below w.heap.size w W → Calls Try.prog g (#[.int .i64 x] ++ lb) W fun e w' => e = .returned (.bool (p x)) ∧ Below W.heap.size W w') :
  Calls Try.prog 65 #[.slice A l.length c, .func (.func g) #[] lb] w fun e w' => e = .returned (.bool (l.any p)) ∧ Below w.heap.size w w' := by
 rw [← Opens.idxB_any p l]
 go_enter Try.func65, Try.ntmps65
 go_wp2_with (go_at_call 92; refine (idxF92 g lb eg A c l p _ hr hp).mono ?_; rintro e w' ⟨rfl, hb'⟩)
 go_ret
 exact ⟨rfl, hb'⟩
def vc_impl_LoopOk_1_any.p (x : Int) : Bool := (impl_LoopOk_1.f x).getD false
theorem vc_impl_LoopOk_1_any.tot (x : Int) : impl_LoopOk_1.f x = some (vc_impl_LoopOk_1_any.p x) := by
 unfold vc_impl_LoopOk_1_any.p
 cases h : impl_LoopOk_1.f x with
 | some b => rfl
 | none => exact absurd h (by simp only [impl_LoopOk_1.f]; (repeat' split) <;> simp_all)
def vc_impl_LoopOk_1_any.f (a : List Int) : Option (Bool) := some (a.any vc_impl_LoopOk_1_any.p)
theorem vc_impl_LoopOk_1_any.calls (A0 : Option Addr) (c0 : Nat) (l0 : List Int) (r : Bool) (w : World) (hr0 : Kd.C (Kd.int .i64) w A0 l0.length l0) (hc0 : l0.length ≤ c0) (h : vc_impl_LoopOk_1_any.f l0 = some r) :
  Calls Try.prog 65 #[.slice A0 l0.length c0, .func (.func 66) #[] #[]] w fun e w' => e = .returned (.bool r) ∧ Below w.heap.size w w' := by
 obtain rfl := Option.some.inj h
 exact cntF65 66 #[] (enters_of Try.func66 (by kernel_rfl) rfl) A0 c0 l0 _ w hr0 (fun W x _ _ => (impl_LoopOk_1.calls x _ W (vc_impl_LoopOk_1_any.tot x)).mono fun e w' h_ => ⟨h_.1, h_.2.below⟩)
mutual
def impl_LoopOk.j0 : Nat → Int → Bool → List Int → Int → List (S69) → List (S74) → Option (Bool)
 | 0, _, _, _, _, _, _ => none
 | k + 1, a, b, c, d, e, f => if b = true then (some false) else (impl_LoopOk.l0 k a ([] : List Int) e (e.length : Int) 0 c d e f)
def impl_LoopOk.l0 : Nat → Int → List Int → List (S69) → Int → Int → List Int → Int → List (S69) → List (S74) → Option (Bool)
 | 0, _, _, _, _, _, _, _, _, _ => none
 | k + 1, a, b, c, d, e, f, g, i, j => if e < d then (if 0 ≤ e then (if e < (c.length : Int) then (if ((rd_T69 c e).f0) < 0 then (impl_LoopOk.j2 k a b c d e true f g i j ((rd_T69 c e).f0) ((rd_T69 c e).f1) ((rd_T69 c e).f2)) else (if ((rd_T69 c e).f0) ≥ a then (impl_LoopOk.j2 k a b c d e true f g i j ((rd_T69 c e).f0) ((rd_T69 c e).f1) ((rd_T69 c e).f2)) else (if ((rd_T69 c e).f1) < 0 then (impl_LoopOk.j2 k a b c d e true f g i j ((rd_T69 c e).f0) ((rd_T69 c e).f1) ((rd_T69 c e).f2)) else (if ((rd_T69 c e).f1) > 40 then (impl_LoopOk.j2 k a b c d e true f g i j ((rd_T69 c e).f0) ((rd_T69 c e).f1) ((rd_T69 c e).f2)) else (impl_LoopOk.j2 k a b c d e (decide ((((rd_T69 c e).f2).length : Int) > ((rd_T69 c e).f1))) f g i j ((rd_T69 c e).f0) ((rd_T69 c e).f1) ((rd_T69 c e).f2)))))) else (none)) else (none)) else (impl_LoopOk.l1 k b ([] : List Int) j (j.length : Int) 0 f g i j)
def impl_LoopOk.j2 : Nat → Int → List Int → List (S69) → Int → Int → Bool → List Int → Int → List (S69) → List (S74) → Int → Int → List Int → Option (Bool)
 | 0, _, _, _, _, _, _, _, _, _, _, _, _, _ => none
 | k + 1, a, b, c, d, e, f, g, i, j, l, m, n, o => if f = true then (some false) else (if b.length < 17592186044416 then (impl_LoopOk.l0 k a (b ++ [m]) c d (wrap64 (e + 1)) g i j l) else (none))
def impl_LoopOk.l1 : Nat → List Int → List Int → List (S74) → Int → Int → List Int → Int → List (S69) → List (S74) → Option (Bool)
 | 0, _, _, _, _, _, _, _, _, _ => none
 | k + 1, a, b, c, d, e, f, g, i, j => if e < d then (if 0 ≤ e then (if e < (c.length : Int) then (if ((rd_T74 c e).f0) < 1 then (some false) else ((impl_areIndexes.f k ((rd_T74 c e).f1) (i.length : Int)).bind fun l => (if l = true then (if b.length < 17592186044416 then (impl_LoopOk.l1 k a (b ++ [(rd_T74 c e).f0]) c d (wrap64 (e + 1)) f g i j) else (none)) else (some false)))) else (none)) else (none)) else ((impl_bagsOf.f k f g i j).bind fun m => ((vc_impl_LoopOk_1_any.f m).bind fun n => (if n = true then (some false) else ((impl_areDifferent.f m).bind fun o => (if o = true then ((impl_areDifferent.f a).bind fun p => (if p = true then ((impl_areDifferent.f b).bind fun q => (some q)) else (some false))) else (some false))))))
end
def impl_LoopOk.f (k : Nat) (a : List Int) (b : Int) (c : List (S69)) (d : List (S74)) : Option (Bool) := if (a.length : Int) < 2 then (impl_LoopOk.j0 k (a.length : Int) true a b c d) else (if (a.length : Int) > 60 then (impl_LoopOk.j0 k (a.length : Int) true a b c d) else (if b < 0 then (impl_LoopOk.j0 k (a.length : Int) true a b c d) else (if b ≥ (a.length : Int) then (impl_LoopOk.j0 k (a.length : Int) true a b c d) else (if (c.length : Int) > 8 then (impl_LoopOk.j0 k (a.length : Int) true a b c d) else (impl_LoopOk.j0 k (a.length : Int) (decide ((d.length : Int) > 60)) a b c d)))))
set_option maxHeartbeats 8000000 in
set_option maxRecDepth 100000 in
theorem impl_LoopOk.calls (k : Nat) (ao : Option Addr) (ap : Nat) (af : List Int) (a0_1 : Int) (au : Option Addr) (aq : Nat) (ab : List (S69)) (aw : Option Addr) (ar : Nat) (ae : List (S74)) (r : Bool) (w : World) (bX : Kd.C (Kd.int .i64) w ao af.length af) (hc0_0 : af.length ≤ ap) (bY : Kd.C k69 w au ab.length ab) (hc0_2 : ab.length ≤ aq) (bZ : Kd.C k74 w aw ae.length ae) (hc0_3 : ae.length ≤ ar) (h : impl_LoopOk.f k af a0_1 ab ae = some r) :
  Calls Try.prog 24 #[.agg #[.slice ao af.length ap, .int .i64 a0_1, .slice au ab.length aq, .slice aw ae.length ar]] w fun e w' => e = .returned (.bool r) ∧ Below w.heap.size w w' := by
 have hu28 := Try.underlying28; have hu69 := Try.underlying69; have hu74 := Try.underlying74; have bg := zK bX; have bh := zK hc0_0; clear bX hc0_0; have bc := zK bY; have bi := zK hc0_2; clear bY hc0_2; have a7 := zK bZ; have bj := zK hc0_3; clear bZ hc0_3
 have HB := zK (Below.refl w.heap.size w)
 have H := h; unfold impl_LoopOk.f at H
 clear h; have HC2 := zK H; clear H
 go_enter Try.func24, Try.ntmps24
 go_upto_region 2 with ((with_reducible refine gate_dst (N := 1) rfl ?_); (try (refine gate_guard (by rfl) ?_; dsimp only)); refine zX 1 #[.slice ao af.length ap, .int .i64 a0_1, .slice au ab.length aq, .slice aw ae.length ar] 28 ?_; intro ac hg w3 hbox hb; have aa := zK (hbox); have GW115 := zK ((by rw [hg]; exact (below_size (zb HB)) : w.heap.size ≤ ac)); have ag := zK ((by rw [hg]; exact (below_size (zb HB)) : w.heap.size ≤ ac)); replace HB := zK (below_step (zb HB) hb); clear hb hbox hg; obtain ⟨b2, b3, b4, b5⟩ := zL4 aa; obtain ⟨b6, b7, b8, b9⟩ := zF4 aa)
 go_cut [42] (fun v42 wc => ∃ (kq : Nat) (bk : Bool), v42 = .bool bk ∧ Aside0 (impl_LoopOk.j0 kq (af.length : Int) bk af a0_1 ab ae = some r) ∧ Aside0 (kq ≤ k) ∧ Aside0 (wc.heap[ac]? = some (.cells #[(.slice ao af.length ap), .int .i64 a0_1, (.slice au ab.length aq), (.slice aw ae.length ar)] 28 (0, 0))) ∧ Aside0 (Below w.heap.size w wc))
 case first =>
  have H := HC2.out; clear HC2
  by_cases c5 : (af.length : Int) < 2
  ·rw [if_pos c5] at H
   have c5b0 : decide ((af.length : Int) < 2) = true := decide_eq_true c5
   have c5b1 : decide (af.length < 2) = true := decide_eq_true (by omega)
   clear c5; have H' := zK H; clear H
   go_wp2
   go_meet
   case rel => exact ⟨_, (true), zf, H', ⟨by first | omega | exact Nat.le_refl _⟩, ⟨zk aa⟩, ⟨zb HB⟩⟩
  ·rw [if_neg c5] at H
   have c5b0 : decide ((af.length : Int) < 2) = false := decide_eq_false c5
   have c5b1 : decide (af.length < 2) = false := decide_eq_false (by omega)
   clear c5
   by_cases c6 : (af.length : Int) > 60
   ·rw [if_pos c6] at H
    have c6b0 : decide (60 < (af.length : Int)) = true := decide_eq_true c6
    have c6b1 : decide (60 < af.length) = true := decide_eq_true (by omega)
    clear c6; have H' := zK H; clear H
    go_wp2
    go_meet
    case rel => exact ⟨_, (true), zf, H', ⟨by first | omega | exact Nat.le_refl _⟩, ⟨zk aa⟩, ⟨zb HB⟩⟩
   ·rw [if_neg c6] at H
    have c6b0 : decide (60 < (af.length : Int)) = false := decide_eq_false c6
    have c6b1 : decide (60 < af.length) = false := decide_eq_false (by omega)
    clear c6
    by_cases c7 : a0_1 < 0
    ·rw [if_pos c7] at H
     have c7b0 : decide (a0_1 < 0) = true := decide_eq_true c7
     clear c7; have H' := zK H; clear H
     obtain ⟨hcz8_0, hcz8_1, hcz8_2, hcz8_3⟩ := zL4 aa
     obtain ⟨hfz8_0, hfz8_1, hfz8_2, hfz8_3⟩ := zF4 aa
     go_wp2
     go_meet
     case rel => exact ⟨_, (true), zf, H', ⟨by first | omega | exact Nat.le_refl _⟩, ⟨zk aa⟩, ⟨zb HB⟩⟩
    ·rw [if_neg c7] at H
     have c7b0 : decide (a0_1 < 0) = false := decide_eq_false c7
     clear c7
     by_cases c9 : a0_1 ≥ (af.length : Int)
     ·rw [if_pos c9] at H
      have c9b0 : decide ((af.length : Int) ≤ a0_1) = true := decide_eq_true c9
      clear c9; have H' := zK H; clear H
      obtain ⟨hcz10_0, hcz10_1, hcz10_2, hcz10_3⟩ := zL4 aa
      obtain ⟨hfz10_0, hfz10_1, hfz10_2, hfz10_3⟩ := zF4 aa
      go_wp2
      go_meet
      case rel => exact ⟨_, (true), zf, H', ⟨by first | omega | exact Nat.le_refl _⟩, ⟨zk aa⟩, ⟨zb HB⟩⟩
     ·rw [if_neg c9] at H
      have c9b0 : decide ((af.length : Int) ≤ a0_1) = false := decide_eq_false c9
      clear c9
      by_cases cc : (ab.length : Int) > 8
      ·rw [if_pos cc] at H
       have cm : decide (8 < (ab.length : Int)) = true := decide_eq_true cc
       have cn : decide (8 < ab.length) = true := decide_eq_true (by omega)
       clear cc; have H' := zK H; clear H
       obtain ⟨hcz12_0, hcz12_1, hcz12_2, hcz12_3⟩ := zL4 aa
       obtain ⟨hfz12_0, hfz12_1, hfz12_2, hfz12_3⟩ := zF4 aa
       go_wp2
       go_meet
       case rel => exact ⟨_, (true), zf, H', ⟨by first | omega | exact Nat.le_refl _⟩, ⟨zk aa⟩, ⟨zb HB⟩⟩
      ·rw [if_neg cc] at H
       have cm : decide (8 < (ab.length : Int)) = false := decide_eq_false cc
       have cn : decide (8 < ab.length) = false := decide_eq_false (by omega)
       clear cc; have H' := zK H; clear H
       obtain ⟨hcz13_0, hcz13_1, hcz13_2, hcz13_3⟩ := zL4 aa
       obtain ⟨hfz13_0, hfz13_1, hfz13_2, hfz13_3⟩ := zF4 aa
       go_wp2
       go_meet
       case rel => exact ⟨_, (decide ((ae.length : Int) > 60)), zf, H', ⟨by first | omega | exact Nat.le_refl _⟩, ⟨zk aa⟩, ⟨zb HB⟩⟩
 case rest =>
  clear HC2 b2 b3 b4 b5 b6 b7 b8 b9
  obtain ⟨kq, bk, rfl, HA, bv, aa, HB⟩ := hcut
  cases kq with
  | zero => exact absurd HA.out (by simp [impl_LoopOk.j0])
  | succ kj1 =>
   have H := HA.out; clear HA
   simp only [impl_LoopOk.j0] at H
   by_cases c14 : bk = true
   ·subst c14
    rw [if_pos rfl] at H; obtain rfl := Option.some.inj H
    go_wp2
    go_ret
    exact ⟨ze, zb HB⟩
   ·replace c14 := Bool.eq_false_iff.mpr c14
    subst c14
    rw [if_neg (show ¬ (false = true) by decide)] at H; have H' := zK H; clear H
    obtain ⟨bw, bx, bz, bA⟩ := zL4 aa
    obtain ⟨bB, bC, bD, bE⟩ := zF4 aa
    go_wp2
    go_loopg [4, 46] kj1 (fun kq v4 v46 w' => ∃ (aJ : List Int) (ad : Int), v46 = .int .i64 ad ∧ Aside0 (impl_LoopOk.l0 kq (af.length : Int) aJ ab (ab.length : Int) ad af a0_1 ab ae = some r) ∧ Aside0 (kq ≤ kj1) ∧ Aside0 (Kd.R (Kd.int .i64) 3 w' w.heap.size (fun _ => True) v4 aJ) ∧ Aside0 (w'.heap[ac]? = some (.cells #[(.slice ao af.length ap), .int .i64 a0_1, (.slice au ab.length aq), (.slice aw ae.length ar)] 28 (0, 0))) ∧ Aside0 (Below w.heap.size w w'))
    case atStart => exact ⟨(([] : List Int)), (0), zf, H', ⟨Nat.le_refl _⟩, ⟨by first | exact Kd.R_nil _ _ _ _ _ | exact Kd.N_nil _ _ _ _ _ | exact Kd.V_nil _ _ _ _ _ | exact Kd.Q_nil _ _ _ _ _ | exact Kd.S_nil _ _ _ _ _⟩, ⟨zk aa⟩, ⟨zb HB⟩⟩
    case round =>
     clear H' bw bx bz bA bB bC bD bE
     obtain ⟨aJ, ad, rfl, HA, bF, ai, aa, HB⟩ := hrel
     cases gk with
     | zero => exact absurd HA.out (by simp [impl_LoopOk.l0])
     | succ k2 =>
      have H := HA.out; clear HA
      simp only [impl_LoopOk.l0] at H
      by_cases cd : ad < (ab.length : Int)
      ·rw [if_pos cd] at H
       have bn : decide (ad < (ab.length : Int)) = true := decide_eq_true cd
       clear cd
       by_cases c17 : 0 ≤ ad
       ·rw [if_pos c17] at H
        have co : decide (0 ≤ ad) = true := decide_eq_true c17
        clear c17
        by_cases c18 : ad < (ab.length : Int)
        ·rw [if_pos c18] at H
         have cp : decide (ad < (ab.length : Int)) = true := decide_eq_true c18
         clear c18; have ca := zK H; clear H
         have bG : 0 ≤ (ad : Int) := zd
         have bH : ad < (ab.length : Int) := zd
         obtain ⟨bd, aU, aV, e116, a2, a3, a4, bl, bm⟩ := at_T69 bc.out ad bG bH
         cases e116
         replace a2 := (HB.out.cell (World.block_lt_of_cell? w _ a2)).trans a2
         replace a3 := (HB.out.cell (World.block_lt_of_cell? w _ a3)).trans a3
         replace a4 := (HB.out.cell (World.block_lt_of_cell? w _ a4)).trans a4
         have HR116_2 := zK bm; have HC116_2 := zK bl; clear bm bl; replace bG := eq_true bG; replace bH := eq_true bH
         go_upto_region 8 with ((with_reducible refine gate_dst (N := 7) rfl ?_); (try (refine gate_guard (by rfl) ?_; dsimp only)); refine zX 7 #[.int .i64 0, .int .i64 0, .slice none 0 0] 69 ?_; intro al hg bb hbox hb; replace ai := zK (Kd.R_below (zR ai) hb); have ah := zK (hbox); have GW117 := zK ((by rw [hg]; exact (below_size (zb HB)) : w.heap.size ≤ al)); have aX := zK ((by rw [hg]; exact (below_size (zb HB)) : w.heap.size ≤ al)); replace HB := zK (below_step (zb HB) hb); have aj := zK ((by rw [hg]; exact Nat.ne_of_lt (blk_lt (g := ac) (o := .cells #[.slice ao af.length ap, .int .i64 a0_1, .slice (some bd) ab.length aq, .slice aw ae.length ar] 28 (0, 0)) (zk aa)) : ac ≠ al)); have aH := zK ((by rw [hg]; exact Nat.ne_of_gt (blk_lt (g := ac) (o := .cells #[.slice ao af.length ap, .int .i64 a0_1, .slice (some bd) ab.length aq, .slice aw ae.length ar] 28 (0, 0)) (zk aa)) : al ≠ ac)); replace aa := zK (blk_below (g := ac) (o := .cells #[.slice ao af.length ap, .int .i64 a0_1, .slice (some bd) ab.length aq, .slice aw ae.length ar] 28 (0, 0)) (zk aa) hb); clear hb hbox hg; have hnb21 := aH.out; have hnc21 := aj.out; obtain ⟨bI, bJ, bK⟩ := zL3 ah; obtain ⟨bL, bM, bN⟩ := zF3 ah)
         go_cut [76] (fun v76 wc => ∃ (kq : Nat) (ba : Bool), v76 = .bool ba ∧ Aside0 (impl_LoopOk.j2 kq (af.length : Int) aJ ab (ab.length : Int) ad ba af a0_1 ab ae ((rd_T69 ab ad).f0) ((rd_T69 ab ad).f1) ((rd_T69 ab ad).f2) = some r) ∧ Aside0 (kq ≤ k2) ∧ Aside0 (Kd.R (Kd.int .i64) 3 wc w.heap.size (fun _ => True) u4 aJ) ∧ Aside0 (wc.heap[ac]? = some (.cells #[(.slice ao af.length ap), .int .i64 a0_1, (.slice (some bd) ab.length aq), (.slice aw ae.length ar)] 28 (0, 0))) ∧ Aside0 (wc.heap[al]? = some (.cells #[.int .i64 ((rd_T69 ab ad).f0), .int .i64 ((rd_T69 ab ad).f1), (.slice aU ((rd_T69 ab ad).f2).length aV)] 69 (0, 0))) ∧ Aside0 (Below w.heap.size w wc))
         case first =>
          have H := ca.out; clear ca
          by_cases ce : ((rd_T69 ab ad).f0) < 0
          ·rw [if_pos ce] at H
           have cq : decide (((rd_T69 ab ad).f0) < 0) = true := decide_eq_true ce
           clear ce; have H' := zK H; clear H; have hnb24 := aH.out; have hnc24 := aj.out
           obtain ⟨hcz25_0, hcz25_1, hcz25_2⟩ := zL3 ah
           obtain ⟨hfz25_0, hfz25_1, hfz25_2⟩ := zF3 ah
           go_wp2
           go_meet
           case rel => exact ⟨_, (true), zf, H', ⟨by have := bv.out; have := bF.out; first | omega | exact Nat.le_refl _⟩, ⟨by (with_reducible repeat (first | apply Kd.R_alloc | apply Kd.R_drewN | apply Kd.R_drew)); exact Kd.R_mono (Kd.R_far (p := ⟨al, 2, none⟩) (Kd.R_far (p := ⟨al, 1, none⟩) (Kd.R_far (p := ⟨al, 0, none⟩) (Kd.R_types ai.out ah.out (by decide)) (fun _ hk => hk.2) (.int .i64 ((rd_T69 ab ad).f0))) (fun _ hk => hk.2) (.int .i64 ((rd_T69 ab ad).f1))) (fun _ hk => hk.2) (.slice aU ((rd_T69 ab ad).f2).length aV)) (fun _ hk => trivial)⟩, ⟨zh aa aj⟩, ⟨by (with_reducible repeat (first | refine zN ?_ _ | refine zD ?_ | refine zA ?_ _)); refine blk_put (cs := #[.int .i64 ((rd_T69 ab ad).f0), .int .i64 ((rd_T69 ab ad).f1), .slice none 0 0]) ?_ 2 _ rfl; (with_reducible repeat (first | refine zN ?_ _ | refine zD ?_ | refine zA ?_ _)); refine blk_put (cs := #[.int .i64 ((rd_T69 ab ad).f0), .int .i64 0, .slice none 0 0]) ?_ 1 _ rfl; (with_reducible repeat (first | refine zN ?_ _ | refine zD ?_ | refine zA ?_ _)); refine blk_put (cs := #[.int .i64 0, .int .i64 0, .slice none 0 0]) ?_ 0 _ rfl; (with_reducible repeat (first | refine zN ?_ _ | refine zD ?_ | refine zA ?_ _)); exact ah.out⟩, ⟨zb HB⟩⟩
          ·rw [if_neg ce] at H
           have cq : decide (((rd_T69 ab ad).f0) < 0) = false := decide_eq_false ce
           clear ce
           by_cases cf : ((rd_T69 ab ad).f0) ≥ (af.length : Int)
           ·rw [if_pos cf] at H
            have cr : decide ((af.length : Int) ≤ ((rd_T69 ab ad).f0)) = true := decide_eq_true cf
            clear cf; have H' := zK H; clear H; have hnb27 := aH.out; have hnc27 := aj.out
            obtain ⟨hcz28_0, hcz28_1, hcz28_2⟩ := zL3 ah
            obtain ⟨hfz28_0, hfz28_1, hfz28_2⟩ := zF3 ah
            go_wp2
            go_meet
            case rel => exact ⟨_, (true), zf, H', ⟨by have := bv.out; have := bF.out; first | omega | exact Nat.le_refl _⟩, ⟨by (with_reducible repeat (first | apply Kd.R_alloc | apply Kd.R_drewN | apply Kd.R_drew)); exact Kd.R_mono (Kd.R_far (p := ⟨al, 2, none⟩) (Kd.R_far (p := ⟨al, 1, none⟩) (Kd.R_far (p := ⟨al, 0, none⟩) (Kd.R_types ai.out ah.out (by decide)) (fun _ hk => hk.2) (.int .i64 ((rd_T69 ab ad).f0))) (fun _ hk => hk.2) (.int .i64 ((rd_T69 ab ad).f1))) (fun _ hk => hk.2) (.slice aU ((rd_T69 ab ad).f2).length aV)) (fun _ hk => trivial)⟩, ⟨zh aa aj⟩, ⟨by (with_reducible repeat (first | refine zN ?_ _ | refine zD ?_ | refine zA ?_ _)); refine blk_put (cs := #[.int .i64 ((rd_T69 ab ad).f0), .int .i64 ((rd_T69 ab ad).f1), .slice none 0 0]) ?_ 2 _ rfl; (with_reducible repeat (first | refine zN ?_ _ | refine zD ?_ | refine zA ?_ _)); refine blk_put (cs := #[.int .i64 ((rd_T69 ab ad).f0), .int .i64 0, .slice none 0 0]) ?_ 1 _ rfl; (with_reducible repeat (first | refine zN ?_ _ | refine zD ?_ | refine zA ?_ _)); refine blk_put (cs := #[.int .i64 0, .int .i64 0, .slice none 0 0]) ?_ 0 _ rfl; (with_reducible repeat (first | refine zN ?_ _ | refine zD ?_ | refine zA ?_ _)); exact ah.out⟩, ⟨zb HB⟩⟩
           ·rw [if_neg cf] at H
            have cr : decide ((af.length : Int) ≤ ((rd_T69 ab ad).f0)) = false := decide_eq_false cf
            clear cf
            by_cases cg : ((rd_T69 ab ad).f1) < 0
            ·rw [if_pos cg] at H
             have ct : decide (((rd_T69 ab ad).f1) < 0) = true := decide_eq_true cg
             clear cg; have H' := zK H; clear H; have hnb30 := aH.out; have hnc30 := aj.out
             obtain ⟨hcz31_0, hcz31_1, hcz31_2⟩ := zL3 ah
             obtain ⟨hfz31_0, hfz31_1, hfz31_2⟩ := zF3 ah
             go_wp2
             go_meet
             case rel => exact ⟨_, (true), zf, H', ⟨by have := bv.out; have := bF.out; first | omega | exact Nat.le_refl _⟩, ⟨by (with_reducible repeat (first | apply Kd.R_alloc | apply Kd.R_drewN | apply Kd.R_drew)); exact Kd.R_mono (Kd.R_far (p := ⟨al, 2, none⟩) (Kd.R_far (p := ⟨al, 1, none⟩) (Kd.R_far (p := ⟨al, 0, none⟩) (Kd.R_types ai.out ah.out (by decide)) (fun _ hk => hk.2) (.int .i64 ((rd_T69 ab ad).f0))) (fun _ hk => hk.2) (.int .i64 ((rd_T69 ab ad).f1))) (fun _ hk => hk.2) (.slice aU ((rd_T69 ab ad).f2).length aV)) (fun _ hk => trivial)⟩, ⟨zh aa aj⟩, ⟨by (with_reducible repeat (first | refine zN ?_ _ | refine zD ?_ | refine zA ?_ _)); refine blk_put (cs := #[.int .i64 ((rd_T69 ab ad).f0), .int .i64 ((rd_T69 ab ad).f1), .slice none 0 0]) ?_ 2 _ rfl; (with_reducible repeat (first | refine zN ?_ _ | refine zD ?_ | refine zA ?_ _)); refine blk_put (cs := #[.int .i64 ((rd_T69 ab ad).f0), .int .i64 0, .slice none 0 0]) ?_ 1 _ rfl; (with_reducible repeat (first | refine zN ?_ _ | refine zD ?_ | refine zA ?_ _)); refine blk_put (cs := #[.int .i64 0, .int .i64 0, .slice none 0 0]) ?_ 0 _ rfl; (with_reducible repeat (first | refine zN ?_ _ | refine zD ?_ | refine zA ?_ _)); exact ah.out⟩, ⟨zb HB⟩⟩
            ·rw [if_neg cg] at H
             have ct : decide (((rd_T69 ab ad).f1) < 0) = false := decide_eq_false cg
             clear cg
             by_cases ch : ((rd_T69 ab ad).f1) > 40
             ·rw [if_pos ch] at H
              have cu : decide (40 < ((rd_T69 ab ad).f1)) = true := decide_eq_true ch
              clear ch; have H' := zK H; clear H; have hnb33 := aH.out; have hnc33 := aj.out
              obtain ⟨hcz34_0, hcz34_1, hcz34_2⟩ := zL3 ah
              obtain ⟨hfz34_0, hfz34_1, hfz34_2⟩ := zF3 ah
              go_wp2
              go_meet
              case rel => exact ⟨_, (true), zf, H', ⟨by have := bv.out; have := bF.out; first | omega | exact Nat.le_refl _⟩, ⟨by (with_reducible repeat (first | apply Kd.R_alloc | apply Kd.R_drewN | apply Kd.R_drew)); exact Kd.R_mono (Kd.R_far (p := ⟨al, 2, none⟩) (Kd.R_far (p := ⟨al, 1, none⟩) (Kd.R_far (p := ⟨al, 0, none⟩) (Kd.R_types ai.out ah.out (by decide)) (fun _ hk => hk.2) (.int .i64 ((rd_T69 ab ad).f0))) (fun _ hk => hk.2) (.int .i64 ((rd_T69 ab ad).f1))) (fun _ hk => hk.2) (.slice aU ((rd_T69 ab ad).f2).length aV)) (fun _ hk => trivial)⟩, ⟨zh aa aj⟩, ⟨by (with_reducible repeat (first | refine zN ?_ _ | refine zD ?_ | refine zA ?_ _)); refine blk_put (cs := #[.int .i64 ((rd_T69 ab ad).f0), .int .i64 ((rd_T69 ab ad).f1), .slice none 0 0]) ?_ 2 _ rfl; (with_reducible repeat (first | refine zN ?_ _ | refine zD ?_ | refine zA ?_ _)); refine blk_put (cs := #[.int .i64 ((rd_T69 ab ad).f0), .int .i64 0, .slice none 0 0]) ?_ 1 _ rfl; (with_reducible repeat (first | refine zN ?_ _ | refine zD ?_ | refine zA ?_ _)); refine blk_put (cs := #[.int .i64 0, .int .i64 0, .slice none 0 0]) ?_ 0 _ rfl; (with_reducible repeat (first | refine zN ?_ _ | refine zD ?_ | refine zA ?_ _)); exact ah.out⟩, ⟨zb HB⟩⟩
             ·rw [if_neg ch] at H
              have cu : decide (40 < ((rd_T69 ab ad).f1)) = false := decide_eq_false ch
              clear ch; have H' := zK H; clear H; have hnb35 := aH.out; have hnc35 := aj.out
              obtain ⟨hcz36_0, hcz36_1, hcz36_2⟩ := zL3 ah
              obtain ⟨hfz36_0, hfz36_1, hfz36_2⟩ := zF3 ah
              go_wp2
              go_meet
              case rel => exact ⟨_, (decide ((((rd_T69 ab ad).f2).length : Int) > ((rd_T69 ab ad).f1))), zf, H', ⟨by have := bv.out; have := bF.out; first | omega | exact Nat.le_refl _⟩, ⟨by (with_reducible repeat (first | apply Kd.R_alloc | apply Kd.R_drewN | apply Kd.R_drew)); exact Kd.R_mono (Kd.R_far (p := ⟨al, 2, none⟩) (Kd.R_far (p := ⟨al, 1, none⟩) (Kd.R_far (p := ⟨al, 0, none⟩) (Kd.R_types ai.out ah.out (by decide)) (fun _ hk => hk.2) (.int .i64 ((rd_T69 ab ad).f0))) (fun _ hk => hk.2) (.int .i64 ((rd_T69 ab ad).f1))) (fun _ hk => hk.2) (.slice aU ((rd_T69 ab ad).f2).length aV)) (fun _ hk => trivial)⟩, ⟨zh aa aj⟩, ⟨by (with_reducible repeat (first | refine zN ?_ _ | refine zD ?_ | refine zA ?_ _)); refine blk_put (cs := #[.int .i64 ((rd_T69 ab ad).f0), .int .i64 ((rd_T69 ab ad).f1), .slice none 0 0]) ?_ 2 _ rfl; (with_reducible repeat (first | refine zN ?_ _ | refine zD ?_ | refine zA ?_ _)); refine blk_put (cs := #[.int .i64 ((rd_T69 ab ad).f0), .int .i64 0, .slice none 0 0]) ?_ 1 _ rfl; (with_reducible repeat (first | refine zN ?_ _ | refine zD ?_ | refine zA ?_ _)); refine blk_put (cs := #[.int .i64 0, .int .i64 0, .slice none 0 0]) ?_ 0 _ rfl; (with_reducible repeat (first | refine zN ?_ _ | refine zD ?_ | refine zA ?_ _)); exact ah.out⟩, ⟨zb HB⟩⟩
         case rest =>
          clear ca bn co cp bI bJ bK bL bM bN a2 a3 a4 bG bH
          obtain ⟨kq, ba, rfl, HA, cv, ai, aa, ah, HB⟩ := hcut
          cases kq with
          | zero => exact absurd HA.out (by simp [impl_LoopOk.j2])
          | succ kj18 =>
           have H := HA.out; clear HA
           simp only [impl_LoopOk.j2] at H
           by_cases c37 : ba = true
           ·subst c37
            rw [if_pos rfl] at H; obtain rfl := Option.some.inj H
            go_wp2
            go_ret
            exact ⟨ze, zb HB⟩
           ·replace c37 := Bool.eq_false_iff.mpr c37
            subst c37
            rw [if_neg (show ¬ (false = true) by decide)] at H
            by_cases c38 : aJ.length < 17592186044416
            ·rw [if_pos c38] at H
             have cw := zK c38; clear c38
             obtain ⟨cx, br⟩ : ∃ y_ : List Int, y_ = (aJ ++ [((rd_T69 ab ad).f0)]) := ⟨_, rfl⟩
             replace H : (impl_LoopOk.l0 kj18 (af.length : Int) cx ab (ab.length : Int) (wrap64 (ad + 1)) af a0_1 ab ae) = some r := by rw [br]; with_reducible exact H
             have Ny118 := zK br; clear br; have H' := zK H; clear H; have hnb39 := aH.out; have hnc39 := aj.out
             obtain ⟨hcz40_0, hcz40_1, hcz40_2⟩ := zL3 ah
             obtain ⟨hfz40_0, hfz40_1, hfz40_2⟩ := zF3 ah
             go_wp2_with ((with_reducible refine gate_builtin (b := .append) (xs := #[.tmp 77, .tmp 80]) rfl ?_); (try (refine gate_guard (by rfl) ?_; dsimp only)); at_builtin; refine Kd.R_append (Kd.int .i64) (w0 := w) w.heap.size rfl (.tmp 77) (.tmp 80) 24 3 (.int .i64 0) 8 rfl Try.underlying24 info3 rfl (by decide) (by omega) u4 aJ ((rd_T69 ab ad).f0) [.int .i64 ((rd_T69 ab ad).f0)] (fun _ => True) (fun _ => False) rfl rfl ?aP (fun _ hk => hk.elim) ?aF ?aO ?aB ?aS ?aL ?_; (case aP => exact rfl); (case aB => exact (zb HB)); (case aF => exact (fun _ _ => trivial)); (case aO => exact (zR ai)); (case aS => exact (below_size (zb HB))); (case aL => have := cw.out; omega); intro v119 w41 ho hb hg hat; rw [← Ny118.out] at ho; replace aa := zK (blk_grown (g := ac) (o := .cells #[.slice ao af.length ap, .int .i64 a0_1, .slice (some bd) ab.length aq, .slice aw ae.length ar] 28 (0, 0)) (zk aa) hg (Kd.R_ne ai.out aa.out (by decide))); replace ah := zK (blk_grown (g := al) (o := .cells #[.int .i64 ((rd_T69 ab ad).f0), .int .i64 ((rd_T69 ab ad).f1), .slice aU ((rd_T69 ab ad).f2).length aV] 69 (0, 0)) (zk ah) hg (Kd.R_ne ai.out ah.out (by decide))); replace HB := zK (hb); have cy := zK (ho); clear ai; clear ho hb hg hat)
             go_roundg kj18
             case measure => have := bv.out; have := bF.out; have := cv.out; omega
             case rel => exact ⟨(cx), (wrap64 (ad + 1)), zf, H', ⟨by have := bv.out; have := bF.out; have := cv.out; omega⟩, ⟨zR cy⟩, ⟨zk aa⟩, ⟨zb HB⟩⟩
            ·rw [if_neg c38] at H
             exact absurd H (by simp)
        ·rw [if_neg c18] at H
         exact absurd H (by simp)
       ·rw [if_neg c17] at H
        exact absurd H (by simp)
      ·rw [if_neg cd] at H
       have bn : decide (ad < (ab.length : Int)) = false := decide_eq_false cd
       clear cd; have H' := zK H; clear H
       obtain ⟨bO, bP, bQ, bR⟩ := zL4 aa
       obtain ⟨bS, bT, bU, bV⟩ := zF4 aa
       go_wp2
       go_loopg [5, 86] k2 (fun kq v5 v86 w' => ∃ (aT : List Int) (am : Int), v86 = .int .i64 am ∧ Aside0 (impl_LoopOk.l1 kq aJ aT ae (ae.length : Int) am af a0_1 ab ae = some r) ∧ Aside0 (kq ≤ k2) ∧ Aside0 (Kd.R (Kd.int .i64) 3 w' w.heap.size (fun k_ => some k_ ≠ (v5 : Value).ownBlock) u4 aJ) ∧ Aside0 (Kd.R (Kd.int .i64) 3 w' w.heap.size (fun k_ => some k_ ≠ (u4 : Value).ownBlock) v5 aT) ∧ Aside0 (w'.heap[ac]? = some (.cells #[(.slice ao af.length ap), .int .i64 a0_1, (.slice au ab.length aq), (.slice aw ae.length ar)] 28 (0, 0))) ∧ Aside0 (Below w.heap.size w w'))
       case atStart => exact ⟨(([] : List Int)), (0), zf, H', ⟨Nat.le_refl _⟩, ⟨by (with_reducible repeat (first | apply Kd.R_alloc | apply Kd.R_drewN | apply Kd.R_drew)); exact Kd.R_mono ai.out (fun _ hk => (by simp [Value.ownBlock]))⟩, ⟨by first | exact Kd.R_nil _ _ _ _ _ | exact Kd.N_nil _ _ _ _ _ | exact Kd.V_nil _ _ _ _ _ | exact Kd.Q_nil _ _ _ _ _ | exact Kd.S_nil _ _ _ _ _⟩, ⟨zk aa⟩, ⟨zb HB⟩⟩
       case round =>
        clear H' bn bO bP bQ bR bS bT bU bV
        obtain ⟨aT, am, rfl, HA, HK3, ai, an, aa, HB⟩ := hrel
        cases gk with
        | zero => exact absurd HA.out (by simp [impl_LoopOk.l1])
        | succ k3 =>
         have H := HA.out; clear HA
         simp only [impl_LoopOk.l1] at H
         by_cases ci : am < (ae.length : Int)
         ·rw [if_pos ci] at H
          have cz : decide (am < (ae.length : Int)) = true := decide_eq_true ci
          clear ci
          by_cases c44 : 0 ≤ am
          ·rw [if_pos c44] at H
           have c44b0 : decide (0 ≤ am) = true := decide_eq_true c44
           clear c44
           by_cases c45 : am < (ae.length : Int)
           ·rw [if_pos c45] at H
            have c45b0 : decide (am < (ae.length : Int)) = true := decide_eq_true c45
            clear c45
            by_cases cj : ((rd_T74 ae am).f0) < 1
            ·rw [if_pos cj] at H
             have cA : decide (((rd_T74 ae am).f0) < 1) = true := decide_eq_true cj
             clear cj; obtain rfl := Option.some.inj H
             have a8 : 0 ≤ (am : Int) := zd
             have a9 : am < (ae.length : Int) := zd
             obtain ⟨aK, aZ, a0, bs, aD, aE, aM, aN⟩ := at_T74 a7.out am a8 a9
             cases bs
             replace aD := (HB.out.cell (World.block_lt_of_cell? w _ aD)).trans aD
             replace aE := (HB.out.cell (World.block_lt_of_cell? w _ aE)).trans aE
             have a5 := zK aN; have a6 := zK aM; clear aN aM; replace a8 := eq_true a8; replace a9 := eq_true a9
             go_wp2_with ((with_reducible refine gate_dst (N := 9) rfl ?_); (try (refine gate_guard (by rfl) ?_; dsimp only)); refine zX 9 #[.int .i64 0, .slice none 0 0] 74 ?_; intro av hg w47 hbox hb; replace ai := zK (Kd.R_below (zR ai) hb); replace an := zK (Kd.R_below (zR an) hb); have ax := zK (hbox); have b1 := zK ((by rw [hg]; exact (below_size (zb HB)) : w.heap.size ≤ av)); have aY := zK ((by rw [hg]; exact (below_size (zb HB)) : w.heap.size ≤ av)); replace HB := zK (below_step (zb HB) hb); have aI := zK ((by rw [hg]; exact Nat.ne_of_lt (blk_lt (g := ac) (o := .cells #[.slice ao af.length ap, .int .i64 a0_1, .slice au ab.length aq, .slice (some aK) ae.length ar] 28 (0, 0)) (zk aa)) : ac ≠ av)); have aQ := zK ((by rw [hg]; exact Nat.ne_of_gt (blk_lt (g := ac) (o := .cells #[.slice ao af.length ap, .int .i64 a0_1, .slice au ab.length aq, .slice (some aK) ae.length ar] 28 (0, 0)) (zk aa)) : av ≠ ac)); replace aa := zK (blk_below (g := ac) (o := .cells #[.slice ao af.length ap, .int .i64 a0_1, .slice au ab.length aq, .slice (some aK) ae.length ar] 28 (0, 0)) (zk aa) hb); clear hb hbox hg; have hnb48 := aQ.out; have hnc48 := aI.out; obtain ⟨hcz49_0, hcz49_1⟩ := zL2 ax; obtain ⟨hfz49_0, hfz49_1⟩ := zF2 ax)
             go_ret
             exact ⟨ze, zb HB⟩
            ·rw [if_neg cj] at H
             have cA : decide (((rd_T74 ae am).f0) < 1) = false := decide_eq_false cj
             clear cj; replace H := Option.bind_eq_some_iff.mp H
             obtain ⟨cB, cC, H⟩ := H
             (try dsimp only at H)
             have A50 := zK cC; clear cC
             by_cases c51 : cB = true
             ·subst c51
              rw [if_pos rfl] at H
              by_cases c52 : aT.length < 17592186044416
              ·rw [if_pos c52] at H
               have cD := zK c52; clear c52
               obtain ⟨cE, bu⟩ : ∃ y_ : List Int, y_ = (aT ++ [(rd_T74 ae am).f0]) := ⟨_, rfl⟩
               replace H : (impl_LoopOk.l1 k3 aJ cE ae (ae.length : Int) (wrap64 (am + 1)) af a0_1 ab ae) = some r := by rw [bu]; with_reducible exact H
               have Ny124 := zK bu; clear bu; have H' := zK H; clear H
               have a8 : 0 ≤ (am : Int) := zd
               have a9 : am < (ae.length : Int) := zd
               obtain ⟨aK, aZ, a0, bs, aD, aE, aM, aN⟩ := at_T74 a7.out am a8 a9
               cases bs
               replace aD := (HB.out.cell (World.block_lt_of_cell? w _ aD)).trans aD
               replace aE := (HB.out.cell (World.block_lt_of_cell? w _ aE)).trans aE
               have a5 := zK aN; have a6 := zK aM; clear aN aM; replace a8 := eq_true a8; replace a9 := eq_true a9
               go_wp2_with (first | ((with_reducible refine gate_dst (N := 9) rfl ?_); (try (refine gate_guard (by rfl) ?_; dsimp only)); refine zX 9 #[.int .i64 0, .slice none 0 0] 74 ?_; intro av hg ck hbox hb; replace ai := zK (Kd.R_below (zR ai) hb); replace an := zK (Kd.R_below (zR an) hb); have ax := zK (hbox); have b1 := zK ((by rw [hg]; exact (below_size (zb HB)) : w.heap.size ≤ av)); have aY := zK ((by rw [hg]; exact (below_size (zb HB)) : w.heap.size ≤ av)); replace HB := zK (below_step (zb HB) hb); have aI := zK ((by rw [hg]; exact Nat.ne_of_lt (blk_lt (g := ac) (o := .cells #[.slice ao af.length ap, .int .i64 a0_1, .slice au ab.length aq, .slice (some aK) ae.length ar] 28 (0, 0)) (zk aa)) : ac ≠ av)); have aQ := zK ((by rw [hg]; exact Nat.ne_of_gt (blk_lt (g := ac) (o := .cells #[.slice ao af.length ap, .int .i64 a0_1, .slice au ab.length aq, .slice (some aK) ae.length ar] 28 (0, 0)) (zk aa)) : av ≠ ac)); replace aa := zK (blk_below (g := ac) (o := .cells #[.slice ao af.length ap, .int .i64 a0_1, .slice au ab.length aq, .slice (some aK) ae.length ar] 28 (0, 0)) (zk aa) hb); clear hb hbox hg; have hnb54 := aQ.out; have hnc54 := aI.out; obtain ⟨hcz55_0, hcz55_1⟩ := zL2 ax; obtain ⟨hfz55_0, hfz55_1⟩ := zF2 ax; obtain ⟨hcz56_0, hcz56_1, hcz56_2, hcz56_3⟩ := zL4 aa; obtain ⟨hfz56_0, hfz56_1, hfz56_2, hfz56_3⟩ := zF4 aa) | (go_at_call 63; (with_reducible refine (impl_areIndexes.calls k3 _ _ ((rd_T74 ae am).f1) (ab.length : Int) true _ ?side1 ?side2 A50.out).mono ?_); (case side1 => exact Kd.C_below a5.out (zb HB)); (case side2 => exact a6.out); rintro e w' ⟨rfl, ⟨nd, rfl⟩⟩) | ((with_reducible refine gate_builtin (b := .append) (xs := #[.tmp 102, .tmp 105]) rfl ?_); (try (refine gate_guard (by rfl) ?_; dsimp only)); at_builtin; refine Kd.R_append (Kd.int .i64) (w0 := w) w.heap.size rfl (.tmp 102) (.tmp 105) 24 3 (.int .i64 0) 8 rfl Try.underlying24 info3 rfl (by decide) (by omega) u5 aT ((rd_T74 ae am).f0) [.int .i64 ((rd_T74 ae am).f0)] (fun k_ => some k_ ≠ (u4 : Value).ownBlock) (fun _ => False) rfl (by first | (go_simp; done) | (go_simp; rfl)) ?aP (fun _ hk => hk.elim) ?aF ?aO ?aB ?aS ?aL ?_; (case aP => exact rfl); (case aB => exact (zb HB)); (case aF => exact (fun k_ hk => Kd.fresh' (Kd.R_lt (by (with_reducible repeat (first | apply Kd.R_alloc | apply Kd.R_drewN | apply Kd.R_drew)); exact (Kd.R_mono (Kd.R_far (p := ⟨av, 1, none⟩) (Kd.R_far (p := ⟨av, 0, none⟩) (Kd.R_types ai.out ax.out (by decide)) (fun _ hk => hk.2) (.int .i64 ((rd_T74 ae am).f0))) (fun _ hk => hk.2) (.slice aZ ((rd_T74 ae am).f1).length a0)) (fun _ h_ => h_.1)))) k_ hk)); (case aO => exact (by (with_reducible repeat (first | apply Kd.R_alloc | apply Kd.R_drewN | apply Kd.R_drew)); exact Kd.R_mono (Kd.R_far (p := ⟨av, 1, none⟩) (Kd.R_far (p := ⟨av, 0, none⟩) (Kd.R_types an.out ax.out (by decide)) (fun _ hk => hk.2) (.int .i64 ((rd_T74 ae am).f0))) (fun _ hk => hk.2) (.slice aZ ((rd_T74 ae am).f1).length a0)) (fun _ hk => hk.1))); (case aS => exact (below_size (zb HB))); (case aL => have := cD.out; omega); intro v125 w57 ho hb hg hat; rw [← Ny124.out] at ho; replace ai := zK (Kd.R_after (ok := (fun _ => True)) (by (with_reducible repeat (first | apply Kd.R_alloc | apply Kd.R_drewN | apply Kd.R_drew)); exact Kd.R_mono (Kd.R_far (p := ⟨av, 1, none⟩) (Kd.R_far (p := ⟨av, 0, none⟩) (Kd.R_types ai.out ax.out (by decide)) (fun _ hk => hk.2) (.int .i64 ((rd_T74 ae am).f0))) (fun _ hk => hk.2) (.slice aZ ((rd_T74 ae am).f1).length a0)) (fun _ hk => ⟨trivial, hk.1⟩)) hg hat); replace aa := zK (blk_grown (g := ac) (o := .cells #[.slice ao af.length ap, .int .i64 a0_1, .slice au ab.length aq, .slice (some aK) ae.length ar] 28 (0, 0)) (zh aa aI) hg (Kd.R_ne an.out aa.out (by decide))); replace ax := zK (blk_grown (g := av) (o := .cells #[.int .i64 ((rd_T74 ae am).f0), .slice aZ ((rd_T74 ae am).f1).length a0] 74 (0, 0)) (by (with_reducible repeat (first | refine zN ?_ _ | refine zD ?_ | refine zA ?_ _)); refine blk_put (cs := #[.int .i64 ((rd_T74 ae am).f0), .slice none 0 0]) ?_ 1 _ rfl; (with_reducible repeat (first | refine zN ?_ _ | refine zD ?_ | refine zA ?_ _)); refine blk_put (cs := #[.int .i64 0, .slice none 0 0]) ?_ 0 _ rfl; (with_reducible repeat (first | refine zN ?_ _ | refine zD ?_ | refine zA ?_ _)); exact ax.out) hg (Kd.R_ne an.out ax.out (by decide))); replace HB := zK (hb); have cF := zK (ho); clear an; clear ho hb hg hat))
               go_roundg k3
               case measure => have := bv.out; have := bF.out; have := HK3.out; omega
               case rel => exact ⟨(cE), (wrap64 (am + 1)), zf, H', ⟨by have := bv.out; have := bF.out; have := HK3.out; omega⟩, ⟨by (with_reducible repeat (first | apply Kd.R_alloc | apply Kd.R_drewN | apply Kd.R_drew)); exact Kd.R_mono ai.out (fun _ hk => hk.2)⟩, ⟨zR cF⟩, ⟨zk aa⟩, ⟨zb HB⟩⟩
              ·rw [if_neg c52] at H
               exact absurd H (by simp)
             ·replace c51 := Bool.eq_false_iff.mpr c51
              subst c51
              rw [if_neg (show ¬ (false = true) by decide)] at H; obtain rfl := Option.some.inj H
              have a8 : 0 ≤ (am : Int) := zd
              have a9 : am < (ae.length : Int) := zd
              obtain ⟨aK, aZ, a0, bs, aD, aE, aM, aN⟩ := at_T74 a7.out am a8 a9
              cases bs
              replace aD := (HB.out.cell (World.block_lt_of_cell? w _ aD)).trans aD
              replace aE := (HB.out.cell (World.block_lt_of_cell? w _ aE)).trans aE
              have a5 := zK aN; have a6 := zK aM; clear aN aM; replace a8 := eq_true a8; replace a9 := eq_true a9
              go_wp2_with (first | ((with_reducible refine gate_dst (N := 9) rfl ?_); (try (refine gate_guard (by rfl) ?_; dsimp only)); refine zX 9 #[.int .i64 0, .slice none 0 0] 74 ?_; intro av hg cl hbox hb; replace ai := zK (Kd.R_below (zR ai) hb); replace an := zK (Kd.R_below (zR an) hb); have ax := zK (hbox); have b1 := zK ((by rw [hg]; exact (below_size (zb HB)) : w.heap.size ≤ av)); have aY := zK ((by rw [hg]; exact (below_size (zb HB)) : w.heap.size ≤ av)); replace HB := zK (below_step (zb HB) hb); have aI := zK ((by rw [hg]; exact Nat.ne_of_lt (blk_lt (g := ac) (o := .cells #[.slice ao af.length ap, .int .i64 a0_1, .slice au ab.length aq, .slice (some aK) ae.length ar] 28 (0, 0)) (zk aa)) : ac ≠ av)); have aQ := zK ((by rw [hg]; exact Nat.ne_of_gt (blk_lt (g := ac) (o := .cells #[.slice ao af.length ap, .int .i64 a0_1, .slice au ab.length aq, .slice (some aK) ae.length ar] 28 (0, 0)) (zk aa)) : av ≠ ac)); replace aa := zK (blk_below (g := ac) (o := .cells #[.slice ao af.length ap, .int .i64 a0_1, .slice au ab.length aq, .slice (some aK) ae.length ar] 28 (0, 0)) (zk aa) hb); clear hb hbox hg; have hnb59 := aQ.out; have hnc59 := aI.out; obtain ⟨hcz60_0, hcz60_1⟩ := zL2 ax; obtain ⟨hfz60_0, hfz60_1⟩ := zF2 ax; obtain ⟨hcz61_0, hcz61_1, hcz61_2, hcz61_3⟩ := zL4 aa; obtain ⟨hfz61_0, hfz61_1, hfz61_2, hfz61_3⟩ := zF4 aa) | (go_at_call 63; (with_reducible refine (impl_areIndexes.calls k3 _ _ ((rd_T74 ae am).f1) (ab.length : Int) false _ ?side1 ?side2 A50.out).mono ?_); (case side1 => exact Kd.C_below a5.out (zb HB)); (case side2 => exact a6.out); rintro e w' ⟨rfl, ⟨nd, rfl⟩⟩))
              go_ret
              exact ⟨ze, zb HB⟩
           ·rw [if_neg c45] at H
            exact absurd H (by simp)
          ·rw [if_neg c44] at H
           exact absurd H (by simp)
         ·rw [if_neg ci] at H
          have cz : decide (am < (ae.length : Int)) = false := decide_eq_false ci
          clear ci; replace H := Option.bind_eq_some_iff.mp H
          obtain ⟨aR, cG, H⟩ := H
          (try dsimp only at H)
          have A62 := zK cG; clear cG; replace H := Option.bind_eq_some_iff.mp H
          obtain ⟨bW, cH, H⟩ := H
          (try dsimp only at H)
          have A63 := zK cH; clear cH
          by_cases c64 : bW = true
          ·subst c64
           rw [if_pos rfl] at H; obtain rfl := Option.some.inj H
           obtain ⟨hcz65_0, hcz65_1, hcz65_2, hcz65_3⟩ := zL4 aa
           obtain ⟨hfz65_0, hfz65_1, hfz65_2, hfz65_3⟩ := zF4 aa
           go_wp2_with (first | ((with_reducible refine gate_callee (f := 64) rfl ?_); refine goesL_ (some 109) rfl rfl Try.func64 (by kernel_rfl) rfl #[.agg #[.slice ao af.length ap, .int .i64 a0_1, .slice au ab.length aq, .slice aw ae.length ar]] rfl zg ?_; (with_reducible refine (impl_bagsOf.calls k3 _ _ af a0_1 _ _ ab _ _ ae aR _ ?side1 ?side2 ?side3 ?side4 ?side5 ?side6 A62.out).mono ?_); (case side1 => exact zs (Kd.C_below bg.out HB.out)); (case side2 => exact bh.out); (case side3 => exact zs (Kd.C_below bc.out HB.out)); (case side4 => exact bi.out); (case side5 => exact zs (Kd.C_below a7.out HB.out)); (case side6 => exact bj.out); rintro e w66 ⟨cb, rfl, ho0, hb⟩; refine ⟨_, rfl, ?_⟩; have ak := zK (Kd.R_lower (Kd.R_new' (Kd.R_new' ho0 (Kd.R_lt (zR ai))) (Kd.R_lt (zR an))) (below_size (zb HB))); replace ai := zK (Kd.R_elder' (zR ai) (Kd.R_base ho0) hb); replace an := zK (Kd.R_elder' (zR an) (Kd.R_base ho0) hb); replace aa := zK (blk_below (g := ac) (o := .cells #[.slice ao af.length ap, .int .i64 a0_1, .slice au ab.length aq, .slice aw ae.length ar] 28 (0, 0)) (zk aa) hb); replace HB := zK (below_step (zb HB) hb); (try clear hb); (try clear ho0); obtain ⟨Ao67, co67, eo67⟩ := Kd.R_slice ak.out; subst eo67) | ((with_reducible refine gate_callee (f := 65) rfl ?_); refine goesL_ (some 111) rfl rfl Try.func65 (by kernel_rfl) rfl #[.slice Ao67 aR.length co67, .func (.func 66) #[] #[]] rfl zg ?_; (with_reducible refine (vc_impl_LoopOk_1_any.calls _ _ aR true _ ?side1 ?side2 A63.out).mono ?_); (case side1 => exact zs (Kd.R_reads' ak.out).2.2); (case side2 => exact (Kd.R_reads' ak.out).2.1); rintro e w68 ⟨rfl, hb⟩; refine ⟨_, rfl, ?_⟩; replace ai := zK (Kd.R_below (zR ai) hb); replace an := zK (Kd.R_below (zR an) hb); replace ak := zK (Kd.R_below (zR ak) hb); replace aa := zK (blk_below (g := ac) (o := .cells #[.slice ao af.length ap, .int .i64 a0_1, .slice au ab.length aq, .slice aw ae.length ar] 28 (0, 0)) (zk aa) hb); replace HB := zK (below_step (zb HB) hb); (try clear hb)))
           go_ret
           exact ⟨ze, zb HB⟩
          ·replace c64 := Bool.eq_false_iff.mpr c64
           subst c64
           rw [if_neg (show ¬ (false = true) by decide)] at H; replace H := Option.bind_eq_some_iff.mp H
           obtain ⟨bf, cI, H⟩ := H
           (try dsimp only at H)
           have A69 := zK cI; clear cI
           by_cases c70 : bf = true
           ·subst c70
            rw [if_pos rfl] at H; replace H := Option.bind_eq_some_iff.mp H
            obtain ⟨a1, cJ, H⟩ := H
            (try dsimp only at H)
            have A71 := zK cJ; clear cJ
            by_cases c72 : a1 = true
            ·subst c72
             rw [if_pos rfl] at H; replace H := Option.bind_eq_some_iff.mp H
             obtain ⟨aW, cK, H⟩ := H
             (try dsimp only at H)
             have A73 := zK cK; clear cK; obtain rfl := Option.some.inj H
             obtain ⟨hcz74_0, hcz74_1, hcz74_2, hcz74_3⟩ := zL4 aa
             obtain ⟨hfz74_0, hfz74_1, hfz74_2, hfz74_3⟩ := zF4 aa
             go_wp2_with (first | ((with_reducible refine gate_callee (f := 64) rfl ?_); refine goesL_ (some 109) rfl rfl Try.func64 (by kernel_rfl) rfl #[.agg #[.slice ao af.length ap, .int .i64 a0_1, .slice au ab.length aq, .slice aw ae.length ar]] rfl zg ?_; (with_reducible refine (impl_bagsOf.calls k3 _ _ af a0_1 _ _ ab _ _ ae aR _ ?side1 ?side2 ?side3 ?side4 ?side5 ?side6 A62.out).mono ?_); (case side1 => exact zs (Kd.C_below bg.out HB.out)); (case side2 => exact bh.out); (case side3 => exact zs (Kd.C_below bc.out HB.out)); (case side4 => exact bi.out); (case side5 => exact zs (Kd.C_below a7.out HB.out)); (case side6 => exact bj.out); rintro e w75 ⟨cb, rfl, ho0, hb⟩; refine ⟨_, rfl, ?_⟩; have ak := zK (Kd.R_lower (Kd.R_new' (Kd.R_new' ho0 (Kd.R_lt (zR ai))) (Kd.R_lt (zR an))) (below_size (zb HB))); replace ai := zK (Kd.R_elder' (zR ai) (Kd.R_base ho0) hb); replace an := zK (Kd.R_elder' (zR an) (Kd.R_base ho0) hb); replace aa := zK (blk_below (g := ac) (o := .cells #[.slice ao af.length ap, .int .i64 a0_1, .slice au ab.length aq, .slice aw ae.length ar] 28 (0, 0)) (zk aa) hb); replace HB := zK (below_step (zb HB) hb); (try clear hb); (try clear ho0); obtain ⟨Ao76, co76, eo76⟩ := Kd.R_slice ak.out; subst eo76) | ((with_reducible refine gate_callee (f := 65) rfl ?_); refine goesL_ (some 111) rfl rfl Try.func65 (by kernel_rfl) rfl #[.slice Ao76 aR.length co76, .func (.func 66) #[] #[]] rfl zg ?_; (with_reducible refine (vc_impl_LoopOk_1_any.calls _ _ aR false _ ?side1 ?side2 A63.out).mono ?_); (case side1 => exact zs (Kd.R_reads' ak.out).2.2); (case side2 => exact (Kd.R_reads' ak.out).2.1); rintro e w77 ⟨rfl, hb⟩; refine ⟨_, rfl, ?_⟩; replace ai := zK (Kd.R_below (zR ai) hb); replace an := zK (Kd.R_below (zR an) hb); replace ak := zK (Kd.R_below (zR ak) hb); replace aa := zK (blk_below (g := ac) (o := .cells #[.slice ao af.length ap, .int .i64 a0_1, .slice au ab.length aq, .slice aw ae.length ar] 28 (0, 0)) (zk aa) hb); replace HB := zK (below_step (zb HB) hb); (try clear hb)) | (go_at_call 67; (with_reducible refine (impl_areDifferent.calls _ _ aR true _ ?side1 ?side2 A69.out).mono ?_); (case side1 => exact zs (Kd.R_reads' ak.out).2.2); (case side2 => exact (Kd.R_reads' ak.out).2.1); rintro e w78 ⟨rfl, hb⟩; replace ai := zK (Kd.R_below (zR ai) hb); replace an := zK (Kd.R_below (zR an) hb); replace ak := zK (Kd.R_below (zR ak) hb); replace aa := zK (blk_below (g := ac) (o := .cells #[.slice ao af.length ap, .int .i64 a0_1, .slice au ab.length aq, .slice aw ae.length ar] 28 (0, 0)) (zk aa) hb); replace HB := zK (below_step (zb HB) hb); (try clear hb); obtain ⟨Ao79, co79, eo79⟩ := Kd.R_slice ai.out; subst eo79) | (go_at_call 67; (with_reducible refine (impl_areDifferent.calls _ _ aJ true _ ?side1 ?side2 A71.out).mono ?_); (case side1 => exact zs (Kd.R_reads' ai.out).2.2); (case side2 => exact (Kd.R_reads' ai.out).2.1); rintro e w80 ⟨rfl, hb⟩; replace ai := zK (Kd.R_below (zR ai) hb); replace an := zK (Kd.R_below (zR an) hb); replace ak := zK (Kd.R_below (zR ak) hb); replace aa := zK (blk_below (g := ac) (o := .cells #[.slice ao af.length ap, .int .i64 a0_1, .slice au ab.length aq, .slice aw ae.length ar] 28 (0, 0)) (zk aa) hb); replace HB := zK (below_step (zb HB) hb); (try clear hb); obtain ⟨Ao81, co81, eo81⟩ := Kd.R_slice an.out; subst eo81) | (go_at_call 67; (with_reducible refine (impl_areDifferent.calls _ _ aT aW _ ?side1 ?side2 A73.out).mono ?_); (case side1 => exact zs (Kd.R_reads' an.out).2.2); (case side2 => exact (Kd.R_reads' an.out).2.1); rintro e w82 ⟨rfl, hb⟩; replace ai := zK (Kd.R_below (zR ai) hb); replace an := zK (Kd.R_below (zR an) hb); replace ak := zK (Kd.R_below (zR ak) hb); replace aa := zK (blk_below (g := ac) (o := .cells #[.slice ao af.length ap, .int .i64 a0_1, .slice au ab.length aq, .slice aw ae.length ar] 28 (0, 0)) (zk aa) hb); replace HB := zK (below_step (zb HB) hb); (try clear hb)))
             go_ret
             exact ⟨ze, zb HB⟩
            ·replace c72 := Bool.eq_false_iff.mpr c72
             subst c72
             rw [if_neg (show ¬ (false = true) by decide)] at H; obtain rfl := Option.some.inj H
             obtain ⟨hcz83_0, hcz83_1, hcz83_2, hcz83_3⟩ := zL4 aa
             obtain ⟨hfz83_0, hfz83_1, hfz83_2, hfz83_3⟩ := zF4 aa
             go_wp2_with (first | ((with_reducible refine gate_callee (f := 64) rfl ?_); refine goesL_ (some 109) rfl rfl Try.func64 (by kernel_rfl) rfl #[.agg #[.slice ao af.length ap, .int .i64 a0_1, .slice au ab.length aq, .slice aw ae.length ar]] rfl zg ?_; (with_reducible refine (impl_bagsOf.calls k3 _ _ af a0_1 _ _ ab _ _ ae aR _ ?side1 ?side2 ?side3 ?side4 ?side5 ?side6 A62.out).mono ?_); (case side1 => exact zs (Kd.C_below bg.out HB.out)); (case side2 => exact bh.out); (case side3 => exact zs (Kd.C_below bc.out HB.out)); (case side4 => exact bi.out); (case side5 => exact zs (Kd.C_below a7.out HB.out)); (case side6 => exact bj.out); rintro e w84 ⟨cb, rfl, ho0, hb⟩; refine ⟨_, rfl, ?_⟩; have ak := zK (Kd.R_lower (Kd.R_new' (Kd.R_new' ho0 (Kd.R_lt (zR ai))) (Kd.R_lt (zR an))) (below_size (zb HB))); replace ai := zK (Kd.R_elder' (zR ai) (Kd.R_base ho0) hb); replace an := zK (Kd.R_elder' (zR an) (Kd.R_base ho0) hb); replace aa := zK (blk_below (g := ac) (o := .cells #[.slice ao af.length ap, .int .i64 a0_1, .slice au ab.length aq, .slice aw ae.length ar] 28 (0, 0)) (zk aa) hb); replace HB := zK (below_step (zb HB) hb); (try clear hb); (try clear ho0); obtain ⟨Ao85, co85, eo85⟩ := Kd.R_slice ak.out; subst eo85) | ((with_reducible refine gate_callee (f := 65) rfl ?_); refine goesL_ (some 111) rfl rfl Try.func65 (by kernel_rfl) rfl #[.slice Ao85 aR.length co85, .func (.func 66) #[] #[]] rfl zg ?_; (with_reducible refine (vc_impl_LoopOk_1_any.calls _ _ aR false _ ?side1 ?side2 A63.out).mono ?_); (case side1 => exact zs (Kd.R_reads' ak.out).2.2); (case side2 => exact (Kd.R_reads' ak.out).2.1); rintro e w86 ⟨rfl, hb⟩; refine ⟨_, rfl, ?_⟩; replace ai := zK (Kd.R_below (zR ai) hb); replace an := zK (Kd.R_below (zR an) hb); replace ak := zK (Kd.R_below (zR ak) hb); replace aa := zK (blk_below (g := ac) (o := .cells #[.slice ao af.length ap, .int .i64 a0_1, .slice au ab.length aq, .slice aw ae.length ar] 28 (0, 0)) (zk aa) hb); replace HB := zK (below_step (zb HB) hb); (try clear hb)) | (go_at_call 67; (with_reducible refine (impl_areDifferent.calls _ _ aR true _ ?side1 ?side2 A69.out).mono ?_); (case side1 => exact zs (Kd.R_reads' ak.out).2.2); (case side2 => exact (Kd.R_reads' ak.out).2.1); rintro e w87 ⟨rfl, hb⟩; replace ai := zK (Kd.R_below (zR ai) hb); replace an := zK (Kd.R_below (zR an) hb); replace ak := zK (Kd.R_below (zR ak) hb); replace aa := zK (blk_below (g := ac) (o := .cells #[.slice ao af.length ap, .int .i64 a0_1, .slice au ab.length aq, .slice aw ae.length ar] 28 (0, 0)) (zk aa) hb); replace HB := zK (below_step (zb HB) hb); (try clear hb); obtain ⟨Ao88, co88, eo88⟩ := Kd.R_slice ai.out; subst eo88) | (go_at_call 67; (with_reducible refine (impl_areDifferent.calls _ _ aJ false _ ?side1 ?side2 A71.out).mono ?_); (case side1 => exact zs (Kd.R_reads' ai.out).2.2); (case side2 => exact (Kd.R_reads' ai.out).2.1); rintro e w89 ⟨rfl, hb⟩; replace ai := zK (Kd.R_below (zR ai) hb); replace an := zK (Kd.R_below (zR an) hb); replace ak := zK (Kd.R_below (zR ak) hb); replace aa := zK (blk_below (g := ac) (o := .cells #[.slice ao af.length ap, .int .i64 a0_1, .slice au ab.length aq, .slice aw ae.length ar] 28 (0, 0)) (zk aa) hb); replace HB := zK (below_step (zb HB) hb); (try clear hb)))
             go_ret
             exact ⟨ze, zb HB⟩
           ·replace c70 := Bool.eq_false_iff.mpr c70
            subst c70
            rw [if_neg (show ¬ (false = true) by decide)] at H; obtain rfl := Option.some.inj H
            obtain ⟨hcz90_0, hcz90_1, hcz90_2, hcz90_3⟩ := zL4 aa
            obtain ⟨hfz90_0, hfz90_1, hfz90_2, hfz90_3⟩ := zF4 aa
            go_wp2_with (first | ((with_reducible refine gate_callee (f := 64) rfl ?_); refine goesL_ (some 109) rfl rfl Try.func64 (by kernel_rfl) rfl #[.agg #[.slice ao af.length ap, .int .i64 a0_1, .slice au ab.length aq, .slice aw ae.length ar]] rfl zg ?_; (with_reducible refine (impl_bagsOf.calls k3 _ _ af a0_1 _ _ ab _ _ ae aR _ ?side1 ?side2 ?side3 ?side4 ?side5 ?side6 A62.out).mono ?_); (case side1 => exact zs (Kd.C_below bg.out HB.out)); (case side2 => exact bh.out); (case side3 => exact zs (Kd.C_below bc.out HB.out)); (case side4 => exact bi.out); (case side5 => exact zs (Kd.C_below a7.out HB.out)); (case side6 => exact bj.out); rintro e w91 ⟨cb, rfl, ho0, hb⟩; refine ⟨_, rfl, ?_⟩; have ak := zK (Kd.R_lower (Kd.R_new' (Kd.R_new' ho0 (Kd.R_lt (zR ai))) (Kd.R_lt (zR an))) (below_size (zb HB))); replace ai := zK (Kd.R_elder' (zR ai) (Kd.R_base ho0) hb); replace an := zK (Kd.R_elder' (zR an) (Kd.R_base ho0) hb); replace aa := zK (blk_below (g := ac) (o := .cells #[.slice ao af.length ap, .int .i64 a0_1, .slice au ab.length aq, .slice aw ae.length ar] 28 (0, 0)) (zk aa) hb); replace HB := zK (below_step (zb HB) hb); (try clear hb); (try clear ho0); obtain ⟨Ao92, co92, eo92⟩ := Kd.R_slice ak.out; subst eo92) | ((with_reducible refine gate_callee (f := 65) rfl ?_); refine goesL_ (some 111) rfl rfl Try.func65 (by kernel_rfl) rfl #[.slice Ao92 aR.length co92, .func (.func 66) #[] #[]] rfl zg ?_; (with_reducible refine (vc_impl_LoopOk_1_any.calls _ _ aR false _ ?side1 ?side2 A63.out).mono ?_); (case side1 => exact zs (Kd.R_reads' ak.out).2.2); (case side2 => exact (Kd.R_reads' ak.out).2.1); rintro e w93 ⟨rfl, hb⟩; refine ⟨_, rfl, ?_⟩; replace ai := zK (Kd.R_below (zR ai) hb); replace an := zK (Kd.R_below (zR an) hb); replace ak := zK (Kd.R_below (zR ak) hb); replace aa := zK (blk_below (g := ac) (o := .cells #[.slice ao af.length ap, .int .i64 a0_1, .slice au ab.length aq, .slice aw ae.length ar] 28 (0, 0)) (zk aa) hb); replace HB := zK (below_step (zb HB) hb); (try clear hb)) | (go_at_call 67; (with_reducible refine (impl_areDifferent.calls _ _ aR false _ ?side1 ?side2 A69.out).mono ?_); (case side1 => exact zs (Kd.R_reads' ak.out).2.2); (case side2 => exact (Kd.R_reads' ak.out).2.1); rintro e w94 ⟨rfl, hb⟩; replace ai := zK (Kd.R_below (zR ai) hb); replace an := zK (Kd.R_below (zR an) hb); replace ak := zK (Kd.R_below (zR ak) hb); replace aa := zK (blk_below (g := ac) (o := .cells #[.slice ao af.length ap, .int .i64 a0_1, .slice au ab.length aq, .slice aw ae.length ar] 28 (0, 0)) (zk aa) hb); replace HB := zK (below_step (zb HB) hb); (try clear hb)))
            go_ret
            exact ⟨ze, zb HB⟩
theorem wr1 {x : Int} {k n : Nat} (h : 0 ≤ x ∧ x + ((k + 1 : Nat) : Int) = n) (hn : n ≤ maxLen) : 0 ≤ wrap64 (x + 1) ∧ wrap64 (x + 1) + (k : Int) = n := by
 have h2 : n ≤ 9223372036854775807 := hn
 have : wrap64 (x + 1) = x + 1 := by unfold wrap64; omega
 omega
set_option maxHeartbeats 4000000 in
set_option maxRecDepth 100000 in
theorem laws_sameInts.eq (A0 : Option Addr) (c0 : Nat) (A1 : Option Addr) (c1 : Nat) (l : List Int) (w : World) (hr0 : Kd.C (Kd.int .i64) w A0 l.length l) (hr1 : Kd.C (Kd.int .i64) w A1 l.length l) :
 Calls Try.prog 27 #[.slice A0 l.length c0, .slice A1 l.length c1] w fun e w' => e = .returned (.bool true) ∧ Drawn0 w w' := by
 have LM := zK hr0.2.1; have HR0 := zK hr0; have HR1 := zK hr1; clear hr0 hr1
 go_enter Try.func27, Try.ntmps27
 go_wp2
 go_loopg [5] l.length (fun kq v5 w' => ∃ j : Int, v5 = .int .i64 j ∧ Aside0 (0 ≤ j ∧ j + (kq : Int) = (l.length : Int)) ∧ Drawn0 w w')
 case atStart => exact ⟨0, rfl, ⟨by omega⟩, by repeat (first | exact Drawn0.refl _ | apply Drawn0.step)⟩
 case round =>
 obtain ⟨j, rfl, HJ, ⟨m1, rfl⟩⟩ := hrel
 cases gk with
 | zero =>
  have d1 : decide (j < (l.length : Int)) = false := decide_eq_false (by have := HJ.out; omega)
  go_wp2
  go_ret
  exact ⟨rfl, by repeat (first | exact Drawn0.refl _ | apply Drawn0.step)⟩
 | succ k1 =>
  have p1 : 0 ≤ j := HJ.out.1
  have q1 : j < (l.length : Int) := by have := HJ.out; omega
  obtain ⟨ad0, e0, hx0⟩ := Kd.at_int HR0.out j p1 q1
  cases e0
  obtain ⟨ad1, e1, hx1⟩ := Kd.at_int HR1.out j p1 q1
  cases e1
  have d1 : decide (j < (l.length : Int)) = true := decide_eq_true q1
  replace p1 := eq_true p1; replace q1 := eq_true q1
  have b1 : (rd l j != rd l j) = false := bne_self_eq_false _
  go_wp2
  repeat (go_quiet (fail); try go_wp2)
  go_roundg k1
  case measure => omega
  case rel => exact ⟨_, rfl, ⟨wr1 HJ.out LM.out⟩, by repeat (first | exact Drawn0.refl _ | apply Drawn0.step)⟩
mutual
def laws_aboard.l0 : Nat → Int → Int → List Int → Int → List (S69) → List (S74) → Option (Int)
 | 0, _, _, _, _, _, _ => none
 | k + 1, a, b, c, d, e, f => if b < (c.length : Int) then (if 0 ≤ b then (if (rd c b) = 0 then (laws_aboard.l0 k a (wrap64 (b + 1)) c d e f) else (laws_aboard.l0 k (wrap64 (a + 1)) (wrap64 (b + 1)) c d e f)) else (none)) else (laws_aboard.l1 k a 0 c d e f)
def laws_aboard.l1 : Nat → Int → Int → List Int → Int → List (S69) → List (S74) → Option (Int)
 | 0, _, _, _, _, _, _ => none
 | k + 1, a, b, c, d, e, f => if b < (e.length : Int) then (if 0 ≤ b then (laws_aboard.l1 k (wrap64 (a + (((rd_T69 e b).f2).length : Int))) (wrap64 (b + 1)) c d e f) else (none)) else (some a)
end
def laws_aboard.f (k : Nat) (a : List Int) (b : Int) (c : List (S69)) (d : List (S74)) : Option (Int) := laws_aboard.l0 k 0 0 a b c d
set_option maxHeartbeats 8000000 in
set_option maxRecDepth 100000 in
theorem laws_aboard.calls (k : Nat) (ai : Option Addr) (aj : Nat) (ac : List Int) (a0_1 : Int) (ak : Option Addr) (al : Nat) (ad : List (S69)) (am : Option Addr) (an : Nat) (ag : List (S74)) (r : Int) (w : World) (aA : Kd.C (Kd.int .i64) w ai ac.length ac) (hc0_0 : ac.length ≤ aj) (aB : Kd.C k69 w ak ad.length ad) (hc0_2 : ad.length ≤ al) (aC : Kd.C k74 w am ag.length ag) (hc0_3 : ag.length ≤ an) (h : laws_aboard.f k ac a0_1 ad ag = some r) :
  Calls Try.prog 28 #[.agg #[.slice ai ac.length aj, .int .i64 a0_1, .slice ak ad.length al, .slice am ag.length an]] w fun e w' => e = .returned (.int .i64 r) ∧ Below w.heap.size w w' := by
 have hu28 := Try.underlying28; have aD := zK aA; have HC0_0 := zK hc0_0; clear aA hc0_0; have aQ := zK aB; have HC0_2 := zK hc0_2; clear aB hc0_2; have HR0_3 := zK aC; have HC0_3 := zK hc0_3; clear aC hc0_3
 have HB := zK (Below.refl w.heap.size w)
 have H := h; unfold laws_aboard.f at H
 clear h; have H' := zK H; clear H
 go_enter Try.func28, Try.ntmps28
 go_wp2_with ((with_reducible refine gate_dst (N := 1) rfl ?_); refine zX 1 #[.slice ai ac.length aj, .int .i64 a0_1, .slice ak ad.length al, .slice am ag.length an] 28 ?_; intro ab hg w2 hbox hb; have aa := zK (hbox); have GW135 := zK ((by rw [hg]; exact (below_size (zb HB)) : w.heap.size ≤ ab)); have ao := zK ((by rw [hg]; exact (below_size (zb HB)) : w.heap.size ≤ ab)); replace HB := zK (below_step (zb HB) hb); clear hb hbox hg)
 go_loopg [3, 4] k (fun kq v3 v4 w' => ∃ (ay : Int) (ae : Int), v3 = .int .i64 ay ∧ v4 = .int .i64 ae ∧ Aside0 (laws_aboard.l0 kq ay ae ac a0_1 ad ag = some r) ∧ Aside0 (kq ≤ k) ∧ Aside0 (w'.heap[ab]? = some (.cells #[(.slice ai ac.length aj), .int .i64 a0_1, (.slice ak ad.length al), (.slice am ag.length an)] 28 (0, 0))) ∧ Aside0 (Below w.heap.size w w'))
 case atStart => exact ⟨(0), (0), zf, zf, H', ⟨Nat.le_refl _⟩, ⟨zk aa⟩, ⟨zb HB⟩⟩
 case round =>
  clear H'
  obtain ⟨ay, ae, rfl, rfl, HA, aP, aa, HB⟩ := hrel
  cases gk with
  | zero => exact absurd HA.out (by simp [laws_aboard.l0])
  | succ k1 =>
   have H := HA.out; clear HA
   simp only [laws_aboard.l0] at H
   by_cases c3 : ae < (ac.length : Int)
   ·rw [if_pos c3] at H
    have aR : decide (ae < (ac.length : Int)) = true := decide_eq_true c3
    clear c3
    by_cases c4 : 0 ≤ ae
    ·rw [if_pos c4] at H
     have c4b0 : decide (0 ≤ ae) = true := decide_eq_true c4
     clear c4
     by_cases c5 : (rd ac ae) = 0
     ·rw [if_pos c5] at H
      have c5b0 : ((rd ac ae) == 0) = true := beq_iff_eq.mpr c5
      have c5b1 : ((rd ac ae) != 0) = false := bne_eq_false_iff_eq.mpr c5
      clear c5; have H' := zK H; clear H
      obtain ⟨hcz6_0, hcz6_1, hcz6_2, hcz6_3⟩ := zL4 aa
      obtain ⟨hfz6_0, hfz6_1, hfz6_2, hfz6_3⟩ := zF4 aa
      have au : 0 ≤ (ae : Int) := zd
      have av : ae < (ac.length : Int) := zd
      obtain ⟨aS, aE, af⟩ := Kd.at_int aD.out ae au av
      cases aE
      replace af := (HB.out.cell (World.block_lt_of_cell? w _ af)).trans af
      replace au := eq_true au; replace av := eq_true av
      go_wp2
      go_roundg k1
      case measure => have := aP.out; omega
      case rel => exact ⟨(ay), (wrap64 (ae + 1)), zf, zf, H', ⟨by have := aP.out; omega⟩, ⟨zk aa⟩, ⟨zb HB⟩⟩
     ·rw [if_neg c5] at H
      have c5b0 : ((rd ac ae) == 0) = false := beq_eq_false_iff_ne.mpr c5
      have c5b1 : ((rd ac ae) != 0) = true := bne_iff_ne.mpr c5
      have H' := zK H; clear H
      obtain ⟨hcz7_0, hcz7_1, hcz7_2, hcz7_3⟩ := zL4 aa
      obtain ⟨hfz7_0, hfz7_1, hfz7_2, hfz7_3⟩ := zF4 aa
      have au : 0 ≤ (ae : Int) := zd
      have av : ae < (ac.length : Int) := zd
      obtain ⟨aS, aE, af⟩ := Kd.at_int aD.out ae au av
      cases aE
      replace af := (HB.out.cell (World.block_lt_of_cell? w _ af)).trans af
      replace au := eq_true au; replace av := eq_true av
      go_wp2
      go_roundg k1
      case measure => have := aP.out; omega
      case rel => exact ⟨(wrap64 (ay + 1)), (wrap64 (ae + 1)), zf, zf, H', ⟨by have := aP.out; omega⟩, ⟨zk aa⟩, ⟨zb HB⟩⟩
    ·rw [if_neg c4] at H
     exact absurd H (by simp)
   ·rw [if_neg c3] at H
    have aR : decide (ae < (ac.length : Int)) = false := decide_eq_false c3
    clear c3; have H' := zK H; clear H
    obtain ⟨aF, aG, aH, aI⟩ := zL4 aa
    obtain ⟨aJ, aK, aL, aM⟩ := zF4 aa
    go_wp2
    go_loopg [3, 5] k1 (fun kq v3 v5 w' => ∃ (az : Int) (ah : Int), v3 = .int .i64 az ∧ v5 = .int .i64 ah ∧ Aside0 (laws_aboard.l1 kq az ah ac a0_1 ad ag = some r) ∧ Aside0 (kq ≤ k1) ∧ Aside0 (w'.heap[ab]? = some (.cells #[(.slice ai ac.length aj), .int .i64 a0_1, (.slice ak ad.length al), (.slice am ag.length an)] 28 (0, 0))) ∧ Aside0 (Below w.heap.size w w'))
    case atStart => exact ⟨(ay), (0), zf, zf, H', ⟨Nat.le_refl _⟩, ⟨zk aa⟩, ⟨zb HB⟩⟩
    case round =>
     clear H' aR aF aG aH aI aJ aK aL aM
     obtain ⟨az, ah, rfl, rfl, HA, HK2, aa, HB⟩ := hrel
     cases gk with
     | zero => exact absurd HA.out (by simp [laws_aboard.l1])
     | succ k2 =>
      have H := HA.out; clear HA
      simp only [laws_aboard.l1] at H
      by_cases c9 : ah < (ad.length : Int)
      ·rw [if_pos c9] at H
       have c9b0 : decide (ah < (ad.length : Int)) = true := decide_eq_true c9
       clear c9
       by_cases c10 : 0 ≤ ah
       ·rw [if_pos c10] at H
        have c10b0 : decide (0 ≤ ah) = true := decide_eq_true c10
        clear c10; have H' := zK H; clear H
        obtain ⟨hcz11_0, hcz11_1, hcz11_2, hcz11_3⟩ := zL4 aa
        obtain ⟨hfz11_0, hfz11_1, hfz11_2, hfz11_3⟩ := zF4 aa
        have aN : 0 ≤ (ah : Int) := zd
        have aO : ah < (ad.length : Int) := zd
        obtain ⟨ad137, A137_2, c137_2, e137, ap, aq, ar, aw, ax⟩ := at_T69 aQ.out ah aN aO
        cases e137
        replace ap := (HB.out.cell (World.block_lt_of_cell? w _ ap)).trans ap
        replace aq := (HB.out.cell (World.block_lt_of_cell? w _ aq)).trans aq
        replace ar := (HB.out.cell (World.block_lt_of_cell? w _ ar)).trans ar
        have HR137_2 := zK ax; have HC137_2 := zK aw; clear ax aw; replace aN := eq_true aN; replace aO := eq_true aO
        go_wp2
        go_roundg k2
        case measure => have := aP.out; have := HK2.out; omega
        case rel => exact ⟨(wrap64 (az + (((rd_T69 ad ah).f2).length : Int))), (wrap64 (ah + 1)), zf, zf, H', ⟨by have := aP.out; have := HK2.out; omega⟩, ⟨zk aa⟩, ⟨zb HB⟩⟩
       ·rw [if_neg c10] at H
        exact absurd H (by simp)
      ·rw [if_neg c9] at H
       have c9b0 : decide (ah < (ad.length : Int)) = false := decide_eq_false c9
       clear c9; obtain rfl := Option.some.inj H
       obtain ⟨hcz12_0, hcz12_1, hcz12_2, hcz12_3⟩ := zL4 aa
       obtain ⟨hfz12_0, hfz12_1, hfz12_2, hfz12_3⟩ := zF4 aa
       go_wp2
       go_ret
       exact ⟨ze, zb HB⟩
def spec_l03Has.l0 : Nat → List Int → Int → Int → Option (Bool)
 | 0, _, _, _ => none
 | k + 1, a, b, c => if c < (a.length : Int) then (if 0 ≤ c then (if (rd a c) = b then (some true) else (spec_l03Has.l0 k a b (wrap64 (c + 1)))) else (none)) else (some false)
def spec_l03Has.f (k : Nat) (a : List Int) (b : Int) : Option (Bool) := spec_l03Has.l0 k a b 0
set_option maxHeartbeats 8000000 in
set_option maxRecDepth 100000 in
theorem spec_l03Has.calls (k : Nat) (A0 : Option Addr) (c0 : Nat) (l0 : List Int) (a1 : Int) (r : Bool) (w : World) (hr0 : Kd.C (Kd.int .i64) w A0 l0.length l0) (hc0 : l0.length ≤ c0) (h : spec_l03Has.f k l0 a1 = some r) :
  Calls Try.prog 55 #[.slice A0 l0.length c0, .int .i64 a1] w fun e w' => e = .returned (.bool r) ∧ Drawn0 w w' := by
 have HR0 := zK hr0; have HC0 := zK hc0; clear hr0 hc0
 have H := h; unfold spec_l03Has.f at H
 clear h; have H' := zK H; clear H
 go_enter Try.func55, Try.ntmps55
 go_wp2
 go_loopg [5] k (fun kq v5 w' => ∃ (aa : Int), v5 = .int .i64 aa ∧ Aside0 (spec_l03Has.l0 kq l0 a1 aa = some r) ∧ Aside0 (kq ≤ k) ∧ Drawn0 w w')
 case atStart => exact ⟨(0), zf, H', ⟨Nat.le_refl _⟩, by repeat (first | exact Drawn0.refl _ | apply Drawn0.step)⟩
 case round =>
  clear H'
  obtain ⟨aa, rfl, HA, HK1, ⟨m1, rfl⟩⟩ := hrel
  cases gk with
  | zero => exact absurd HA.out (by simp [spec_l03Has.l0])
  | succ k1 =>
   have H := HA.out; clear HA
   simp only [spec_l03Has.l0] at H
   by_cases c3 : aa < (l0.length : Int)
   ·rw [if_pos c3] at H
    have c3b0 : decide (aa < (l0.length : Int)) = true := decide_eq_true c3
    clear c3
    by_cases c4 : 0 ≤ aa
    ·rw [if_pos c4] at H
     have c4b0 : decide (0 ≤ aa) = true := decide_eq_true c4
     clear c4
     by_cases c5 : (rd l0 aa) = a1
     ·rw [if_pos c5] at H
      have c5b0 : ((rd l0 aa) == a1) = true := beq_iff_eq.mpr c5
      have c5b1 : ((rd l0 aa) != a1) = false := bne_eq_false_iff_eq.mpr c5
      clear c5; obtain rfl := Option.some.inj H
      have ab : 0 ≤ (aa : Int) := zd
      have ac : aa < (l0.length : Int) := zd
      obtain ⟨af, ae, ad⟩ := Kd.at_int HR0.out aa ab ac
      cases ae
      replace ab := eq_true ab; replace ac := eq_true ac
      go_wp2
      go_ret
      exact ⟨by first | rfl | (simp; done) | (simp [*]; done), by repeat (first | exact Drawn0.refl _ | apply Drawn0.step)⟩
     ·rw [if_neg c5] at H
      have c5b0 : ((rd l0 aa) == a1) = false := beq_eq_false_iff_ne.mpr c5
      have c5b1 : ((rd l0 aa) != a1) = true := bne_iff_ne.mpr c5
      have H' := zK H; clear H
      have ab : 0 ≤ (aa : Int) := zd
      have ac : aa < (l0.length : Int) := zd
      obtain ⟨af, ae, ad⟩ := Kd.at_int HR0.out aa ab ac
      cases ae
      replace ab := eq_true ab; replace ac := eq_true ac
      go_wp2
      go_roundg k1
      case measure => have := HK1.out; omega
      case rel => exact ⟨(wrap64 (aa + 1)), zf, H', ⟨by have := HK1.out; omega⟩, by repeat (first | exact Drawn0.refl _ | apply Drawn0.step)⟩
    ·rw [if_neg c4] at H
     exact absurd H (by simp)
   ·rw [if_neg c3] at H
    have c3b0 : decide (aa < (l0.length : Int)) = false := decide_eq_false c3
    clear c3; obtain rfl := Option.some.inj H
    go_wp2
    go_ret
    exact ⟨by first | rfl | (simp; done) | (simp [*]; done), by repeat (first | exact Drawn0.refl _ | apply Drawn0.step)⟩
def spec_l01In.f (a : Int) (b : Int) (c : Int) : Option (Bool) := if a ≥ b then (some (decide (a ≤ c))) else (some false)
set_option maxHeartbeats 8000000 in
set_option maxRecDepth 100000 in
theorem spec_l01In.calls (a0 : Int) (a1 : Int) (a2 : Int) (r : Bool) (w : World) (h : spec_l01In.f a0 a1 a2 = some r) :
  Calls Try.prog 62 #[.int .i64 a0, .int .i64 a1, .int .i64 a2] w fun e w' => e = .returned (.bool r) ∧ Drawn0 w w' := by
 have H := h; unfold spec_l01In.f at H
 clear h
 by_cases c4 : a0 ≥ a1
 ·rw [if_pos c4] at H
  have c4b0 : decide (a1 ≤ a0) = true := decide_eq_true c4
  clear c4; obtain rfl := Option.some.inj H
  go_enter Try.func62, Try.ntmps62
  go_wp2
  go_ret
  exact ⟨by first | rfl | (simp; done) | (simp [*]; done), by repeat (first | exact Drawn0.refl _ | apply Drawn0.step)⟩
 ·rw [if_neg c4] at H
  have c4b0 : decide (a1 ≤ a0) = false := decide_eq_false c4
  clear c4; obtain rfl := Option.some.inj H
  go_enter Try.func62, Try.ntmps62
  go_wp2
  go_ret
  exact ⟨by first | rfl | (simp; done) | (simp [*]; done), by repeat (first | exact Drawn0.refl _ | apply Drawn0.step)⟩
end Go.Proofs.Ytmjhbdmicejppaa.Px
