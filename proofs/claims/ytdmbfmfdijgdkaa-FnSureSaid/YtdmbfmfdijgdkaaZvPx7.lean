import Derived.Test.YtdmbfmfdijgdkaaZvPx0
import Derived.Test.YtdmbfmfdijgdkaaZvPx1
namespace Go.Proofs.Ytdmbfmfdijgdkaa.Px
open Go.RowKit Go.Proofs.YtdmbfmfdijgdkaaW.PrintWords Go.Proofs.YtdmbfmfdijgdkaaW.PrintLast Go.Proofs.YtdmbfmfdijgdkaaW.PrintMore
attribute [local go_sem] max2_int min2_int max_two min_two max_three min_three max_four min_four   
set_option linter.unusedVariables false
set_option linter.unusedSimpArgs false
set_option maxHeartbeats 2000000 in
set_option maxRecDepth 100000 in
theorem idxF100 (g : Nat) (lb : Array Value) (eg : ∀ args w, (callFunc g args).run Try.prog w = .ok (.enter g args) w) (A : Option Addr) (c : Nat) (l : List S52) (p : S52 → Bool) (w : World)
  (hr : Kd.C k52 w A l.length l)
  (hp : ∀ (W : World) (x : S52), x ∈ l → Below w.heap.size w W → Calls Try.prog g (#[.agg #[.int .i64 x.f0, .int .i64 x.f1, .int .i64 x.f2]] ++ lb) W fun e w' => e = .returned (.bool (p x)) ∧ Below W.heap.size W w') :
  Calls Try.prog 100 #[.slice A l.length c, .func (.func g) #[] lb] w fun e w' => e = .returned (.int .i64 (Opens.idxB p l)) ∧ Below w.heap.size w w' := by
 have hbig : l.length ≤ 9223372036854775807 := hr.2.1
 have HBIG := zK hbig; have HP := zK hp; have HR := zK hr; clear hp hr
 go_enter Try.func100, Try.ntmps100
 go_wp2
 go_loopg [5, 8] l.length (fun gg _ s8 wr => ∃ kk : Nat, kk ≤ l.length ∧ l.length - kk ≤ gg ∧ s8 = .int .i64 kk ∧ Aside0 (Below w.heap.size w wr) ∧ Aside0 (∀ j (hj : j < l.length), j < kk → p l[j] = false))
 case atStart => exact ⟨0, Nat.zero_le _, by omega, rfl, ⟨Below.refl _ w⟩, ⟨fun j _ hj => absurd hj (Nat.not_lt_zero _)⟩⟩
 case round =>
  obtain ⟨kk, hkk, hg, rfl, BW, AL⟩ := hrel
  by_cases hlt : kk < l.length
  ·have hltz : (kk : Int) < (l.length : Int) := by omega
   obtain ⟨ad, rfl, hcell0, hcell1, hcell2⟩ := at_T52 HR.out (kk : Int) (by omega) (by omega)
   replace hcell0 := (BW.out.cell (World.block_lt_of_cell? w _ hcell0)).trans hcell0
   replace hcell1 := (BW.out.cell (World.block_lt_of_cell? w _ hcell1)).trans hcell1
   replace hcell2 := (BW.out.cell (World.block_lt_of_cell? w _ hcell2)).trans hcell2
   have hrd : rd_T52 l (kk : Int) = l[kk] := by simp [rd_T52, hlt]
   rw [Int.toNat_natCast] at hcell0
   simp only [hrd] at hcell0
   rw [Int.toNat_natCast] at hcell1
   simp only [hrd] at hcell1
   rw [Int.toNat_natCast] at hcell2
   simp only [hrd] at hcell2
   have hcall := HP.out wr l[kk] (List.getElem_mem hlt) BW.out
   generalize hy : l[kk] = y at hcell0 hcell1 hcell2 hcall
   have B := zK hy; clear hy hrd
   have hk0 : 0 ≤ (kk : Int) := by omega
   cases hq : p y with
   | true =>
    rw [hq] at hcall
    go_wp2_with (go_at_fn g; refine hcall.mono ?_; rintro e w' ⟨rfl, hb'⟩)
    go_ret
    refine ⟨?_, below_step BW.out hb'⟩
    rw [Opens.idxB_hit p l kk hlt (by rw [B.out]; exact hq) (fun j hj => AL.out j (by omega) hj)]
    rfl
   | false =>
    rw [hq] at hcall
    go_wp2_with (go_at_fn g; refine hcall.mono ?_; rintro e w' ⟨rfl, hb'⟩)
    go_roundg (l.length - (kk + 1))
    case measure => omega
    case rel =>
     refine ⟨kk + 1, by omega, by omega, by go_num, ⟨below_step BW.out hb'⟩, ⟨fun j hj' hj => ?_⟩⟩
     by_cases e : j = kk
     ·subst e
      rw [B.out]; exact hq
     ·exact AL.out j hj' (by omega)
  ·have hltz : ¬ (kk : Int) < (l.length : Int) := by omega
   go_wp2
   go_ret
   refine ⟨?_, BW.out⟩
   rw [Opens.idxB_miss p l (fun j hj => AL.out j hj (by omega))]
   rfl
set_option maxHeartbeats 2000000 in
set_option maxRecDepth 100000 in
theorem cntF77 (g : Nat) (lb : Array Value) (eg : ∀ args w, (callFunc g args).run Try.prog w = .ok (.enter g args) w) (A : Option Addr) (c : Nat) (l : List S52) (p : S52 → Bool) (w : World)
  (hr : Kd.C k52 w A l.length l)
  (hp : ∀ (W : World) (x : S52), x ∈ l → Below w.heap.size w W → Calls Try.prog g (#[.agg #[.int .i64 x.f0, .int .i64 x.f1, .int .i64 x.f2]] ++ lb) W fun e w' => e = .returned (.bool (p x)) ∧ Below W.heap.size W w') :
  Calls Try.prog 77 #[.slice A l.length c, .func (.func g) #[] lb] w fun e w' => e = .returned (.bool (l.any p)) ∧ Below w.heap.size w w' := by
 rw [← Opens.idxB_any p l]
 go_enter Try.func77, Try.ntmps77
 go_wp2_with (go_at_call 100; refine (idxF100 g lb eg A c l p _ hr hp).mono ?_; rintro e w' ⟨rfl, hb'⟩)
 go_ret
 exact ⟨rfl, hb'⟩
def vc_impl_ExpectOk_1_any.p (a1_0 : Int) (a1_1 : Int) (a1_2 : Int) (x : S52) : Bool := (x.f0 == a1_0)
theorem vc_impl_ExpectOk_1_any.clo (a1_0 : Int) (a1_1 : Int) (a1_2 : Int) (x : S52) (g0 : Nat) (w : World) (hb : w.heap[g0]? = some (.cells #[.int .i64 a1_0, .int .i64 a1_1, .int .i64 a1_2] 52 (0, 0))) :
  Calls Try.prog 78 #[.agg #[.int .i64 x.f0, .int .i64 x.f1, .int .i64 x.f2], .pointer (some ⟨g0, 0, none⟩)] w fun e w' => e = .returned (.bool (vc_impl_ExpectOk_1_any.p a1_0 a1_1 a1_2 x)) ∧ Below w.heap.size w w' := by
 have hc : (w.alloc (.cells #[.int .i64 x.f0, .int .i64 x.f1, .int .i64 x.f2] 52)).cell? ⟨g0, 0, none⟩ = some (.int .i64 a1_0) := by
  rw [World.cell?_alloc_past _ _ _ (blk_lt hb)]; exact (blk_cell hb 0).trans rfl
 have hu := Try.underlying52; clear hb
 go_enter Try.func78, Try.ntmps78
 go_wp2
 go_ret
 exact ⟨rfl, (Below.refl _ _).alloc (Nat.le_refl _) _⟩
def vc_impl_ExpectOk_1_any.f (l0 : List S52) (a1_0 : Int) (a1_1 : Int) (a1_2 : Int) : Option (Bool) := some (l0.any (vc_impl_ExpectOk_1_any.p a1_0 a1_1 a1_2))
theorem vc_impl_ExpectOk_1_any.calls (A0 : Option Addr) (c0 : Nat) (l0 : List S52) (a1_0 : Int) (a1_1 : Int) (a1_2 : Int) (g0 : Nat) (r : Bool) (w : World) (hr0 : Kd.C k52 w A0 l0.length l0) (hc0 : l0.length ≤ c0) (hb0 : w.heap[g0]? = some (.cells #[.int .i64 a1_0, .int .i64 a1_1, .int .i64 a1_2] 52 (0, 0))) (h : vc_impl_ExpectOk_1_any.f l0 a1_0 a1_1 a1_2 = some r) :
  Calls Try.prog 77 #[.slice A0 l0.length c0, .func (.func 78) #[] #[.pointer (some ⟨g0, 0, none⟩)]] w fun e w' => e = .returned (.bool r) ∧ Below w.heap.size w w' := by
 obtain rfl := Option.some.inj h
 exact cntF77 78 #[.pointer (some ⟨g0, 0, none⟩)] (enters_of Try.func78 (by kernel_rfl) rfl) A0 c0 l0 _ w hr0 (fun W x _ hW => vc_impl_ExpectOk_1_any.clo a1_0 a1_1 a1_2 x g0 W (blk_below (g := g0) hb0 hW))
mutual
def impl_ExpectOk.l0 : Nat → List (S52) → List (S52) → Int → Int → Option (Bool)
 | 0, _, _, _, _ => none
 | k + 1, x0, x5, x6, x7 => if x7 < x6 then (if 0 ≤ x7 then (if x7 < (x5.length : Int) then (if ((rd_T52 x5 x7).f0) < 1 then (impl_ExpectOk.j1 k x0 x5 x6 x7 true) else (if ((rd_T52 x5 x7).f1) < 0 then (impl_ExpectOk.j1 k x0 x5 x6 x7 true) else (if ((rd_T52 x5 x7).f2) < ((rd_T52 x5 x7).f1) then (impl_ExpectOk.j1 k x0 x5 x6 x7 true) else (if ((rd_T52 x5 x7).f2) > 100000 then (impl_ExpectOk.j1 k x0 x5 x6 x7 true) else (if x7 ≤ (x0.length : Int) then ((vc_impl_ExpectOk_1_any.f (x0.take (x7 : Int).toNat) ((rd_T52 x5 x7).f0) ((rd_T52 x5 x7).f1) ((rd_T52 x5 x7).f2)).bind fun t598 => (impl_ExpectOk.j1 k x0 x5 x6 x7 t598)) else (none)))))) else (none)) else (none)) else (some (decide ((x0.length : Int) ≤ 6)))
def impl_ExpectOk.j1 : Nat → List (S52) → List (S52) → Int → Int → Bool → Option (Bool)
 | 0, _, _, _, _, _ => none
 | k + 1, x0, x5, x6, x7, x38 => if x38 = true then (some false) else (impl_ExpectOk.l0 k x0 x5 x6 (wrap64 (x7 + 1)))
end
def impl_ExpectOk.f (k : Nat) (l0 : List (S52)) : Option (Bool) := impl_ExpectOk.l0 k l0 l0 (l0.length : Int) 0
set_option maxHeartbeats 8000000 in
set_option maxRecDepth 100000 in
theorem impl_ExpectOk.calls (k : Nat) (A0 : Option Addr) (c0 : Nat) (l0 : List (S52)) (r : Bool) (w : World) (hr0 : Kd.C k52 w A0 l0.length l0) (hc0 : l0.length ≤ c0) (h : impl_ExpectOk.f k l0 = some r) :
  Calls Try.prog 36 #[.slice A0 l0.length c0] w fun e w' => e = .returned (.bool r) ∧ Below w.heap.size w w' := by
 have hu52 := Try.underlying52
 have hmf : ∀ (fn : Fn) (first cap : Array Value) (w : World), (Instr.makeFunc fn first cap).run Try.prog w = .ok (.func fn first cap) w := fun _ _ _ _ => rfl
 have HR0 := zK hr0; have HC0 := zK hc0; clear hr0 hc0
 have HB := zK (Below.refl w.heap.size w)
 have H : (impl_ExpectOk.l0 k l0 l0 (l0.length : Int) 0) = some r := h
 clear h; have H' := zK H; clear H
 go_enter Try.func36, Try.ntmps36
 go_wp2
 go_loopg [7] k (fun kq v7 w' => ∃ (aa : Int), v7 = .int .i64 aa ∧ Aside0 (impl_ExpectOk.l0 kq l0 l0 (l0.length : Int) aa = some r) ∧ Aside0 (kq ≤ k) ∧ Aside0 (Below w.heap.size w w'))
 case atStart => exact ⟨(0), (by first | rfl | (simp; done) | (simp [*]; done)), H', ⟨Nat.le_refl _⟩, ⟨zb HB⟩⟩
 case round =>
  clear H'
  obtain ⟨aa, rfl, HA, aU, HB⟩ := hrel
  cases gk with
  | zero => exact absurd HA.out (by simp [impl_ExpectOk.l0])
  | succ k1 =>
   have H := HA.out; clear HA
   simp only [impl_ExpectOk.l0] at H
   by_cases c2 : aa < (l0.length : Int)
   ·rw [if_pos c2] at H
    have bd : decide (aa < (l0.length : Int)) = true := decide_eq_true c2
    clear c2
    by_cases c3 : 0 ≤ aa
    ·rw [if_pos c3] at H
     have c3b0 : decide (0 ≤ aa) = true := decide_eq_true c3
     clear c3
     by_cases c4 : aa < (l0.length : Int)
     ·rw [if_pos c4] at H
      have c4b0 : decide (aa < (l0.length : Int)) = true := decide_eq_true c4
      clear c4; have HC5 := zK H; clear H
      have am : 0 ≤ (aa : Int) := of_decide_eq_true (by first | (with_reducible assumption) | assumption)
      have an : aa < (l0.length : Int) := of_decide_eq_true (by first | (with_reducible assumption) | assumption)
      obtain ⟨aP, e591, ae, af, ag⟩ := at_T52 HR0.out aa am an
      cases e591
      replace ae := (HB.out.cell (World.block_lt_of_cell? w _ ae)).trans ae
      replace af := (HB.out.cell (World.block_lt_of_cell? w _ af)).trans af
      replace ag := (HB.out.cell (World.block_lt_of_cell? w _ ag)).trans ag
      replace am := eq_true am; replace an := eq_true an
      go_upto_region 4 with (first | ((with_reducible refine gate_dst (N := 4) rfl ?_); refine box_event ?hg (N := 4) ?hd (cs := #[.int .i64 0, .int .i64 0, .int .i64 0]) (t := 52) ?hr ?_; (case hd => rfl); (case hg => rfl); (case hr => first | (go_simp; done) | (go_simp; rfl)); intro ac hg w6 hbox hb; have be := zK (below_step (zb HB) hb); have bf := zK (hbox); have n2_ := zK ((by rw [hg]; exact (below_size (zb HB)) : w.heap.size ≤ ac)); have n3_ := zK ((by rw [hg]; exact (below_size (zb HB)) : w.heap.size ≤ ac)); clear HB; have HB := be; have ab := bf; have GW592 := n2_; have ad := n3_; clear be bf n2_ n3_; clear hb hbox hg; have aV : w6.cell? ⟨ac, 0, none⟩ = some (.int .i64 0) := (blk_cell ab.out 0).trans rfl; have aW : w6.cell? ⟨ac, 1, none⟩ = some (.int .i64 0) := (blk_cell ab.out 1).trans rfl; have aX : w6.cell? ⟨ac, 2, none⟩ = some (.int .i64 0) := (blk_cell ab.out 2).trans rfl; have aY := blk_frozen ab.out 0; have aZ := blk_frozen ab.out 1; have a0 := blk_frozen ab.out 2))
      (try simp only [Act.put, zp, zq, zr])
      go_cut [38] (fun v38 wc => ∃ (kq : Nat) (ai : Bool), v38 = .bool ai ∧ Aside0 (impl_ExpectOk.j1 kq l0 l0 (l0.length : Int) aa ai = some r) ∧ Aside0 (kq ≤ k1) ∧ Aside0 (wc.heap[ac]? = some (.cells #[.int .i64 ((rd_T52 l0 aa).f0), .int .i64 ((rd_T52 l0 aa).f1), .int .i64 ((rd_T52 l0 aa).f2)] 52 (0, 0))) ∧ Aside0 (Below w.heap.size w wc))
      case first =>
       have H := HC5.out; clear HC5
       by_cases c8 : ((rd_T52 l0 aa).f0) < 1
       ·rw [if_pos c8] at H
        have ak : decide (((rd_T52 l0 aa).f0) < 1) = true := decide_eq_true c8
        clear c8
        (first | rw [ak] | (simp only [i64_w, i32_w]; rw [ak]) | skip)
        have H' := zK H; clear H
        have a1 : w6.cell? ⟨ac, 0, none⟩ = some (.int .i64 0) := (blk_cell ab.out 0).trans rfl
        have a2 : w6.cell? ⟨ac, 1, none⟩ = some (.int .i64 0) := (blk_cell ab.out 1).trans rfl
        have a3 : w6.cell? ⟨ac, 2, none⟩ = some (.int .i64 0) := (blk_cell ab.out 2).trans rfl
        have a4 := blk_frozen ab.out 0; have a5 := blk_frozen ab.out 1; have a6 := blk_frozen ab.out 2
        go_wp2
        go_meet
        case rel => exact ⟨_, (true), (by first | rfl | (simp; done) | (simp [*]; done)), H', ⟨by have := aU.out; first | omega | exact Nat.le_refl _⟩, ⟨by (with_reducible repeat (first | refine zN ?_ _ | refine zD ?_ | refine zA ?_ _)); refine blk_put (cs := #[.int .i64 ((rd_T52 l0 aa).f0), .int .i64 ((rd_T52 l0 aa).f1), .int .i64 0]) ?_ 2 _ rfl; (with_reducible repeat (first | refine zN ?_ _ | refine zD ?_ | refine zA ?_ _)); refine blk_put (cs := #[.int .i64 ((rd_T52 l0 aa).f0), .int .i64 0, .int .i64 0]) ?_ 1 _ rfl; (with_reducible repeat (first | refine zN ?_ _ | refine zD ?_ | refine zA ?_ _)); refine blk_put (cs := #[.int .i64 0, .int .i64 0, .int .i64 0]) ?_ 0 _ rfl; (with_reducible repeat (first | refine zN ?_ _ | refine zD ?_ | refine zA ?_ _)); exact ab.out⟩, ⟨zb HB⟩⟩
       ·rw [if_neg c8] at H
        have ak : decide (((rd_T52 l0 aa).f0) < 1) = false := decide_eq_false c8
        clear c8
        (first | rw [ak] | (simp only [i64_w, i32_w]; rw [ak]) | skip)
        by_cases c10 : ((rd_T52 l0 aa).f1) < 0
        ·rw [if_pos c10] at H
         have aQ : decide (((rd_T52 l0 aa).f1) < 0) = true := decide_eq_true c10
         clear c10; have H' := zK H; clear H
         have ao : w6.cell? ⟨ac, 0, none⟩ = some (.int .i64 0) := (blk_cell ab.out 0).trans rfl
         have ap : w6.cell? ⟨ac, 1, none⟩ = some (.int .i64 0) := (blk_cell ab.out 1).trans rfl
         have aq : w6.cell? ⟨ac, 2, none⟩ = some (.int .i64 0) := (blk_cell ab.out 2).trans rfl
         have ar := blk_frozen ab.out 0; have au := blk_frozen ab.out 1; have av := blk_frozen ab.out 2
         go_wp2
         go_meet
         case rel => exact ⟨_, (true), (by first | rfl | (simp; done) | (simp [*]; done)), H', ⟨by have := aU.out; first | omega | exact Nat.le_refl _⟩, ⟨by (with_reducible repeat (first | refine zN ?_ _ | refine zD ?_ | refine zA ?_ _)); refine blk_put (cs := #[.int .i64 ((rd_T52 l0 aa).f0), .int .i64 ((rd_T52 l0 aa).f1), .int .i64 0]) ?_ 2 _ rfl; (with_reducible repeat (first | refine zN ?_ _ | refine zD ?_ | refine zA ?_ _)); refine blk_put (cs := #[.int .i64 ((rd_T52 l0 aa).f0), .int .i64 0, .int .i64 0]) ?_ 1 _ rfl; (with_reducible repeat (first | refine zN ?_ _ | refine zD ?_ | refine zA ?_ _)); refine blk_put (cs := #[.int .i64 0, .int .i64 0, .int .i64 0]) ?_ 0 _ rfl; (with_reducible repeat (first | refine zN ?_ _ | refine zD ?_ | refine zA ?_ _)); exact ab.out⟩, ⟨zb HB⟩⟩
        ·rw [if_neg c10] at H
         have aQ : decide (((rd_T52 l0 aa).f1) < 0) = false := decide_eq_false c10
         clear c10
         by_cases a7 : ((rd_T52 l0 aa).f2) < ((rd_T52 l0 aa).f1)
         ·rw [if_pos a7] at H
          have aR : decide (((rd_T52 l0 aa).f2) < ((rd_T52 l0 aa).f1)) = true := decide_eq_true a7
          clear a7; have H' := zK H; clear H
          have aw : w6.cell? ⟨ac, 0, none⟩ = some (.int .i64 0) := (blk_cell ab.out 0).trans rfl
          have ax : w6.cell? ⟨ac, 1, none⟩ = some (.int .i64 0) := (blk_cell ab.out 1).trans rfl
          have ay : w6.cell? ⟨ac, 2, none⟩ = some (.int .i64 0) := (blk_cell ab.out 2).trans rfl
          have az := blk_frozen ab.out 0; have aA := blk_frozen ab.out 1; have aB := blk_frozen ab.out 2
          go_wp2
          go_meet
          case rel => exact ⟨_, (true), (by first | rfl | (simp; done) | (simp [*]; done)), H', ⟨by have := aU.out; first | omega | exact Nat.le_refl _⟩, ⟨by (with_reducible repeat (first | refine zN ?_ _ | refine zD ?_ | refine zA ?_ _)); refine blk_put (cs := #[.int .i64 ((rd_T52 l0 aa).f0), .int .i64 ((rd_T52 l0 aa).f1), .int .i64 0]) ?_ 2 _ rfl; (with_reducible repeat (first | refine zN ?_ _ | refine zD ?_ | refine zA ?_ _)); refine blk_put (cs := #[.int .i64 ((rd_T52 l0 aa).f0), .int .i64 0, .int .i64 0]) ?_ 1 _ rfl; (with_reducible repeat (first | refine zN ?_ _ | refine zD ?_ | refine zA ?_ _)); refine blk_put (cs := #[.int .i64 0, .int .i64 0, .int .i64 0]) ?_ 0 _ rfl; (with_reducible repeat (first | refine zN ?_ _ | refine zD ?_ | refine zA ?_ _)); exact ab.out⟩, ⟨zb HB⟩⟩
         ·rw [if_neg a7] at H
          have aR : decide (((rd_T52 l0 aa).f2) < ((rd_T52 l0 aa).f1)) = false := decide_eq_false a7
          clear a7
          by_cases a8 : ((rd_T52 l0 aa).f2) > 100000
          ·rw [if_pos a8] at H
           have aS : decide (100000 < ((rd_T52 l0 aa).f2)) = true := decide_eq_true a8
           clear a8; have H' := zK H; clear H
           have aC : w6.cell? ⟨ac, 0, none⟩ = some (.int .i64 0) := (blk_cell ab.out 0).trans rfl
           have aD : w6.cell? ⟨ac, 1, none⟩ = some (.int .i64 0) := (blk_cell ab.out 1).trans rfl
           have aE : w6.cell? ⟨ac, 2, none⟩ = some (.int .i64 0) := (blk_cell ab.out 2).trans rfl
           have aF := blk_frozen ab.out 0; have aG := blk_frozen ab.out 1; have aH := blk_frozen ab.out 2
           go_wp2
           go_meet
           case rel => exact ⟨_, (true), (by first | rfl | (simp; done) | (simp [*]; done)), H', ⟨by have := aU.out; first | omega | exact Nat.le_refl _⟩, ⟨by (with_reducible repeat (first | refine zN ?_ _ | refine zD ?_ | refine zA ?_ _)); refine blk_put (cs := #[.int .i64 ((rd_T52 l0 aa).f0), .int .i64 ((rd_T52 l0 aa).f1), .int .i64 0]) ?_ 2 _ rfl; (with_reducible repeat (first | refine zN ?_ _ | refine zD ?_ | refine zA ?_ _)); refine blk_put (cs := #[.int .i64 ((rd_T52 l0 aa).f0), .int .i64 0, .int .i64 0]) ?_ 1 _ rfl; (with_reducible repeat (first | refine zN ?_ _ | refine zD ?_ | refine zA ?_ _)); refine blk_put (cs := #[.int .i64 0, .int .i64 0, .int .i64 0]) ?_ 0 _ rfl; (with_reducible repeat (first | refine zN ?_ _ | refine zD ?_ | refine zA ?_ _)); exact ab.out⟩, ⟨zb HB⟩⟩
          ·rw [if_neg a8] at H
           have aS : decide (100000 < ((rd_T52 l0 aa).f2)) = false := decide_eq_false a8
           clear a8
           have bg := eq_true (of_decide_eq_true (by first | (with_reducible assumption) | assumption) : 0 ≤ aa)
           by_cases bc : aa ≤ (l0.length : Int)
           ·rw [if_pos bc] at H
            have bh := eq_true bc
            have bi : decide (aa ≤ (l0.length : Int)) = true := decide_eq_true bc
            clear bc
            obtain ⟨aI, ah⟩ : ∃ y_ : List (S52), y_ = (l0.take (aa : Int).toNat) := ⟨_, rfl⟩
            replace H : ((vc_impl_ExpectOk_1_any.f aI ((rd_T52 l0 aa).f0) ((rd_T52 l0 aa).f1) ((rd_T52 l0 aa).f2)).bind fun al => (impl_ExpectOk.j1 k1 l0 l0 (l0.length : Int) aa al)) = some r := by first | (rw [ah]; with_reducible exact H) | (have H2_ := (Option.bind_some _ _).symm.trans H; rw [ah]; with_reducible exact H2_) | (have H2_ := (Option.bind_some _ _).symm.trans H; with_reducible exact H2_) | with_reducible exact H | (rw [ah]; exact H) | exact H
            have Ny593 := zK ah; clear ah; replace H := Option.bind_eq_some_iff.mp H
            obtain ⟨al, bj, H⟩ := H
            replace H : (impl_ExpectOk.j1 k1 l0 l0 (l0.length : Int) aa al) = some r := H
            have A18 := zK bj; clear bj; have H' := zK H; clear H
            have aJ : w6.cell? ⟨ac, 0, none⟩ = some (.int .i64 0) := (blk_cell ab.out 0).trans rfl
            have aK : w6.cell? ⟨ac, 1, none⟩ = some (.int .i64 0) := (blk_cell ab.out 1).trans rfl
            have aL : w6.cell? ⟨ac, 2, none⟩ = some (.int .i64 0) := (blk_cell ab.out 2).trans rfl
            have aM := blk_frozen ab.out 0; have aN := blk_frozen ab.out 1; have aO := blk_frozen ab.out 2
            have bk : (aa : Int) ≤ ((l0.length : Int) : Int) := of_decide_eq_true (by first | (with_reducible assumption) | assumption)
            obtain ⟨i020, aT, _, bl, _⟩ := info_parts info52
            have aj : l0.length ≤ c0 := HC0.out
            have bm : Kd.C k52 _ (some aP) l0.length l0 := HR0.out
            have a9 := cut_to (P := Try.prog) 42 52 .i64 Try.underlying42 aT (some aP) l0.length c0 aa (of_decide_eq_true (by first | (with_reducible assumption) | assumption)) bk aj
            have ba := Kd.C_take (m := (aa : Int).toNat) bm (by omega)
            have bb : aI.length = (aa : Int).toNat := (by rw [Ny593.out, List.length_take]; omega)
            rw [← Ny593.out] at ba
            rw [← bb] at a9
            have bn := zK ba
            have bo := zK (show aI.length ≤ c0 from by omega)
            clear ba bm aj aT bl; have KY20 := zK bb; clear bb; replace bk := eq_true bk
            go_wp2_with (first | (go_at_call 77; (with_reducible refine (vc_impl_ExpectOk_1_any.calls _ _ aI ((rd_T52 l0 aa).f0) ((rd_T52 l0 aa).f1) ((rd_T52 l0 aa).f2) ac al _ ?side1 ?side2 ?side3 A18.out).mono ?_); (case side1 => exact Kd.C_below bn.out (zb HB)); (case side2 => exact bo.out); (case side3 => exact (by (with_reducible repeat (first | refine zN ?_ _ | refine zD ?_ | refine zA ?_ _)); refine blk_put (cs := #[.int .i64 ((rd_T52 l0 aa).f0), .int .i64 ((rd_T52 l0 aa).f1), .int .i64 0]) ?_ 2 _ rfl; (with_reducible repeat (first | refine zN ?_ _ | refine zD ?_ | refine zA ?_ _)); refine blk_put (cs := #[.int .i64 ((rd_T52 l0 aa).f0), .int .i64 0, .int .i64 0]) ?_ 1 _ rfl; (with_reducible repeat (first | refine zN ?_ _ | refine zD ?_ | refine zA ?_ _)); refine blk_put (cs := #[.int .i64 0, .int .i64 0, .int .i64 0]) ?_ 0 _ rfl; (with_reducible repeat (first | refine zN ?_ _ | refine zD ?_ | refine zA ?_ _)); exact ab.out)); rintro e w21 ⟨rfl, hb⟩; have be := zK (blk_below (g := ac) (o := .cells #[.int .i64 ((rd_T52 l0 aa).f0), .int .i64 ((rd_T52 l0 aa).f1), .int .i64 ((rd_T52 l0 aa).f2)] 52 (0, 0)) (by (with_reducible repeat (first | refine zN ?_ _ | refine zD ?_ | refine zA ?_ _)); refine blk_put (cs := #[.int .i64 ((rd_T52 l0 aa).f0), .int .i64 ((rd_T52 l0 aa).f1), .int .i64 0]) ?_ 2 _ rfl; (with_reducible repeat (first | refine zN ?_ _ | refine zD ?_ | refine zA ?_ _)); refine blk_put (cs := #[.int .i64 ((rd_T52 l0 aa).f0), .int .i64 0, .int .i64 0]) ?_ 1 _ rfl; (with_reducible repeat (first | refine zN ?_ _ | refine zD ?_ | refine zA ?_ _)); refine blk_put (cs := #[.int .i64 0, .int .i64 0, .int .i64 0]) ?_ 0 _ rfl; (with_reducible repeat (first | refine zN ?_ _ | refine zD ?_ | refine zA ?_ _)); exact ab.out) hb); have bf := zK (below_step (zb HB) hb); clear ab; clear HB; have ab := be; have HB := bf; clear be bf; (try clear hb)))
            go_meet
            case rel => exact ⟨_, (al), (by first | rfl | (simp; done) | (simp [*]; done)), H', ⟨by have := aU.out; first | omega | exact Nat.le_refl _⟩, ⟨zk ab⟩, ⟨zb HB⟩⟩
           ·rw [if_neg bc] at H
            exact absurd H (by simp)
      case rest =>
       clear HC5
       try clear c1
       try clear c2
       try clear bd
       try clear p2
       try clear q2
       try clear c3
       try clear c3b0
       try clear c4
       try clear c4b0
       try clear c5
       try clear p5
       try clear q5
       try clear hx5
       try clear c8
       try clear ak
       try clear c10
       try clear aQ
       try clear a7
       try clear aR
       try clear a8
       try clear aS
       try clear c16
       try clear bg
       try clear bc
       try clear bh
       try clear bi
       try clear bk
       try clear ao
       try clear ap
       try clear aq
       try clear aw
       try clear ax
       try clear ay
       try clear aC
       try clear aD
       try clear aE
       try clear aJ
       try clear aK
       try clear aL
       try clear aV
       try clear aW
       try clear aX
       try clear a1
       try clear a2
       try clear a3
       try clear ar
       try clear au
       try clear av
       try clear az
       try clear aA
       try clear aB
       try clear aF
       try clear aG
       try clear aH
       try clear aM
       try clear aN
       try clear aO
       try clear aY
       try clear aZ
       try clear a0
       try clear a4
       try clear a5
       try clear a6
       try clear ae
       try clear af
       try clear ag
       try clear am
       try clear bk
       try clear an
       obtain ⟨kq, ai, rfl, HA, HJ4, ab, HB⟩ := hcut
       cases kq with
       | zero => exact absurd HA.out (by simp [impl_ExpectOk.j1])
       | succ kj4 =>
        have H := HA.out; clear HA
        simp only [impl_ExpectOk.j1] at H
        by_cases c22 : ai = true
        ·subst c22
         have H1 : (some false) = some r := by rw [if_pos rfl] at H; exact H
         clear H; have H := H1; clear H1; obtain rfl := Option.some.inj H
         go_wp2
         go_ret
         exact ⟨by first | rfl | (simp [errW_none, errW_some] <;> rfl) | (simp [*, errW_none, errW_some] <;> rfl), by repeat (first | (with_reducible first | exact HB.out | apply zB | apply zC | apply zE | refine zS ?_ ad.out) | exact HB.out)⟩
        ·replace c22 := Bool.eq_false_iff.mpr c22
         subst c22
         have H1 : (impl_ExpectOk.l0 kj4 l0 l0 (l0.length : Int) (wrap64 (aa + 1))) = some r := by rw [if_neg (show ¬ (false = true) by decide)] at H; exact H
         clear H; have H := H1; clear H1; have H' := zK H; clear H
         go_wp2
         go_roundg kj4
         case measure => have := aU.out; have := HJ4.out; omega
         case rel => exact ⟨(wrap64 (aa + 1)), (by first | rfl | (simp; done) | (simp [*]; done)), H', ⟨by have := aU.out; have := HJ4.out; omega⟩, ⟨zb HB⟩⟩
     ·rw [if_neg c4] at H
      exact absurd H (by simp)
    ·rw [if_neg c3] at H
     exact absurd H (by simp)
   ·rw [if_neg c2] at H
    have bd : decide (aa < (l0.length : Int)) = false := decide_eq_false c2
    clear c2; obtain rfl := Option.some.inj H
    go_wp2
    go_ret
    exact ⟨by first | rfl | (simp [errW_none, errW_some] <;> rfl) | (simp [*, errW_none, errW_some] <;> rfl), by repeat (first | (with_reducible first | exact HB.out | apply zB | apply zC | apply zE) | exact HB.out)⟩
set_option maxHeartbeats 2000000 in
set_option maxRecDepth 100000 in
theorem idxF106 (g : Nat) (lb : Array Value) (eg : ∀ args w, (callFunc g args).run Try.prog w = .ok (.enter g args) w) (A : Option Addr) (c : Nat) (l : List S89) (p : S89 → Bool) (w : World)
  (hr : Kd.C k89 w A l.length l)
  (hp : ∀ (W : World) (x : S89), x ∈ l → Below w.heap.size w W → Calls Try.prog g (#[.agg #[.int .i64 x.f0, .int .i64 x.f1]] ++ lb) W fun e w' => e = .returned (.bool (p x)) ∧ Below W.heap.size W w') :
  Calls Try.prog 106 #[.slice A l.length c, .func (.func g) #[] lb] w fun e w' => e = .returned (.int .i64 (Opens.idxB p l)) ∧ Below w.heap.size w w' := by
 have hbig : l.length ≤ 9223372036854775807 := hr.2.1
 have HBIG := zK hbig; have HP := zK hp; have HR := zK hr; clear hp hr
 go_enter Try.func106, Try.ntmps106
 go_wp2
 go_loopg [5, 8] l.length (fun gg _ s8 wr => ∃ kk : Nat, kk ≤ l.length ∧ l.length - kk ≤ gg ∧ s8 = .int .i64 kk ∧ Aside0 (Below w.heap.size w wr) ∧ Aside0 (∀ j (hj : j < l.length), j < kk → p l[j] = false))
 case atStart => exact ⟨0, Nat.zero_le _, by omega, rfl, ⟨Below.refl _ w⟩, ⟨fun j _ hj => absurd hj (Nat.not_lt_zero _)⟩⟩
 case round =>
  obtain ⟨kk, hkk, hg, rfl, BW, AL⟩ := hrel
  by_cases hlt : kk < l.length
  ·have hltz : (kk : Int) < (l.length : Int) := by omega
   obtain ⟨ad, rfl, hcell0, hcell1⟩ := at_T89 HR.out (kk : Int) (by omega) (by omega)
   replace hcell0 := (BW.out.cell (World.block_lt_of_cell? w _ hcell0)).trans hcell0
   replace hcell1 := (BW.out.cell (World.block_lt_of_cell? w _ hcell1)).trans hcell1
   have hrd : rd_T89 l (kk : Int) = l[kk] := by simp [rd_T89, hlt]
   rw [Int.toNat_natCast] at hcell0
   simp only [hrd] at hcell0
   rw [Int.toNat_natCast] at hcell1
   simp only [hrd] at hcell1
   have hcall := HP.out wr l[kk] (List.getElem_mem hlt) BW.out
   generalize hy : l[kk] = y at hcell0 hcell1 hcall
   have B := zK hy; clear hy hrd
   have hk0 : 0 ≤ (kk : Int) := by omega
   cases hq : p y with
   | true =>
    rw [hq] at hcall
    go_wp2_with (go_at_fn g; refine hcall.mono ?_; rintro e w' ⟨rfl, hb'⟩)
    go_ret
    refine ⟨?_, below_step BW.out hb'⟩
    rw [Opens.idxB_hit p l kk hlt (by rw [B.out]; exact hq) (fun j hj => AL.out j (by omega) hj)]
    rfl
   | false =>
    rw [hq] at hcall
    go_wp2_with (go_at_fn g; refine hcall.mono ?_; rintro e w' ⟨rfl, hb'⟩)
    go_roundg (l.length - (kk + 1))
    case measure => omega
    case rel =>
     refine ⟨kk + 1, by omega, by omega, by go_num, ⟨below_step BW.out hb'⟩, ⟨fun j hj' hj => ?_⟩⟩
     by_cases e : j = kk
     ·subst e
      rw [B.out]; exact hq
     ·exact AL.out j hj' (by omega)
  ·have hltz : ¬ (kk : Int) < (l.length : Int) := by omega
   go_wp2
   go_ret
   refine ⟨?_, BW.out⟩
   rw [Opens.idxB_miss p l (fun j hj => AL.out j hj (by omega))]
   rfl
set_option maxHeartbeats 2000000 in
set_option maxRecDepth 100000 in
theorem cntF101 (g : Nat) (lb : Array Value) (eg : ∀ args w, (callFunc g args).run Try.prog w = .ok (.enter g args) w) (A : Option Addr) (c : Nat) (l : List S89) (p : S89 → Bool) (w : World)
  (hr : Kd.C k89 w A l.length l)
  (hp : ∀ (W : World) (x : S89), x ∈ l → Below w.heap.size w W → Calls Try.prog g (#[.agg #[.int .i64 x.f0, .int .i64 x.f1]] ++ lb) W fun e w' => e = .returned (.bool (p x)) ∧ Below W.heap.size W w') :
  Calls Try.prog 101 #[.slice A l.length c, .func (.func g) #[] lb] w fun e w' => e = .returned (.bool (l.any p)) ∧ Below w.heap.size w w' := by
 rw [← Opens.idxB_any p l]
 go_enter Try.func101, Try.ntmps101
 go_wp2_with (go_at_call 106; refine (idxF106 g lb eg A c l p _ hr hp).mono ?_; rintro e w' ⟨rfl, hb'⟩)
 go_ret
 exact ⟨rfl, hb'⟩
def vc_impl_isNamed_1_any.p (a1_0 : Int) (x : S89) : Bool := (x.f1 == a1_0)
theorem vc_impl_isNamed_1_any.clo (a1_0 : Int) (x : S89) (g0 : Nat) (w : World) (hb : w.heap[g0]? = some (.cells #[.int .i64 a1_0] 3 (0, 0))) :
  Calls Try.prog 102 #[.agg #[.int .i64 x.f0, .int .i64 x.f1], .pointer (some ⟨g0, 0, none⟩)] w fun e w' => e = .returned (.bool (vc_impl_isNamed_1_any.p a1_0 x)) ∧ Below w.heap.size w w' := by
 have hc : (w.alloc (.cells #[.int .i64 x.f0, .int .i64 x.f1] 89)).cell? ⟨g0, 0, none⟩ = some (.int .i64 a1_0) := by
  rw [World.cell?_alloc_past _ _ _ (blk_lt hb)]; exact (blk_cell hb 0).trans rfl
 have hu := Try.underlying89; clear hb
 go_enter Try.func102, Try.ntmps102
 go_wp2
 go_ret
 exact ⟨rfl, (Below.refl _ _).alloc (Nat.le_refl _) _⟩
def vc_impl_isNamed_1_any.f (l0 : List S89) (a1_0 : Int) : Option (Bool) := some (l0.any (vc_impl_isNamed_1_any.p a1_0))
theorem vc_impl_isNamed_1_any.calls (A0 : Option Addr) (c0 : Nat) (l0 : List S89) (a1_0 : Int) (g0 : Nat) (r : Bool) (w : World) (hr0 : Kd.C k89 w A0 l0.length l0) (hc0 : l0.length ≤ c0) (hb0 : w.heap[g0]? = some (.cells #[.int .i64 a1_0] 3 (0, 0))) (h : vc_impl_isNamed_1_any.f l0 a1_0 = some r) :
  Calls Try.prog 101 #[.slice A0 l0.length c0, .func (.func 102) #[] #[.pointer (some ⟨g0, 0, none⟩)]] w fun e w' => e = .returned (.bool r) ∧ Below w.heap.size w w' := by
 obtain rfl := Option.some.inj h
 exact cntF101 102 #[.pointer (some ⟨g0, 0, none⟩)] (enters_of Try.func102 (by kernel_rfl) rfl) A0 c0 l0 _ w hr0 (fun W x _ hW => vc_impl_isNamed_1_any.clo a1_0 x g0 W (blk_below (g := g0) hb0 hW))
def impl_isNamed.f (l0 : List (S89)) (a1 : Int) : Option (Bool) := (vc_impl_isNamed_1_any.f l0 a1).bind fun t602 => (some t602)
set_option maxHeartbeats 8000000 in
set_option maxRecDepth 100000 in
theorem impl_isNamed.calls (A0 : Option Addr) (c0 : Nat) (l0 : List (S89)) (a1 : Int) (r : Bool) (w : World) (hr0 : Kd.C k89 w A0 l0.length l0) (hc0 : l0.length ≤ c0) (h : impl_isNamed.f l0 a1 = some r) :
  Calls Try.prog 79 #[.slice A0 l0.length c0, .int .i64 a1] w fun e w' => e = .returned (.bool r) ∧ Below w.heap.size w w' := by
 have hmf : ∀ (fn : Fn) (first cap : Array Value) (w : World), (Instr.makeFunc fn first cap).run Try.prog w = .ok (.func fn first cap) w := fun _ _ _ _ => rfl
 have HR0 := zK hr0; have HC0 := zK hc0; clear hr0 hc0
 have HB := zK (Below.refl w.heap.size w)
 have H : ((vc_impl_isNamed_1_any.f l0 a1).bind fun ac => (some ac)) = some r := h
 clear h; replace H := Option.bind_eq_some_iff.mp H
 obtain ⟨ac, A30, H⟩ := H
 replace H : (some ac) = some r := H
 have A3 := zK A30; clear A30; obtain rfl := Option.some.inj H
 go_enter Try.func79, Try.ntmps79
 go_wp2_with (first | ((with_reducible refine gate_dst (N := 3) rfl ?_); refine box_event ?hg (N := 3) ?hd (cs := #[.int .i64 a1]) (t := 3) ?hr ?_; (case hd => rfl); (case hg => rfl); (case hr => first | (go_simp; done) | (go_simp; rfl)); intro aa hg w4 hbox hb; have ae := zK (below_step (zb HB) hb); have af := zK (hbox); have n2_ := zK ((by rw [hg]; exact (below_size (zb HB)) : w.heap.size ≤ aa)); have n3_ := zK ((by rw [hg]; exact (below_size (zb HB)) : w.heap.size ≤ aa)); clear HB; have HB := ae; have ab := af; have GW600 := n2_; have ad := n3_; clear ae af n2_ n3_; clear hb hbox hg) | ((with_reducible refine gate_callee (f := 101) rfl ?_); refine goesL_ (some 7) rfl rfl Try.func101 (by kernel_rfl) rfl #[.slice A0 l0.length c0, .func (.func 102) #[] #[.pointer (some ⟨aa, 0, none⟩)]] rfl (by (try simp only [List.map_toArray, List.map_cons, List.map_nil]); first | done | rfl | (simp only [List.length_drop, List.length_take]; rfl)) ?_; (with_reducible refine (vc_impl_isNamed_1_any.calls _ _ l0 a1 aa ac _ ?side1 ?side2 ?side3 A3.out).mono ?_); (case side1 => repeat (first | exact (Kd.C_below HR0.out HB.out) | (with_reducible refine Kd.C_alloc ?_ _) | (with_reducible refine Kd.C_drewN ?_ _) | (with_reducible refine Kd.C_drew ?_))); (case side2 => exact HC0.out); (case side3 => exact (zk ab)); rintro e w5 ⟨rfl, hb⟩; refine ⟨_, rfl, ?_⟩; have ae := zK (blk_below (g := aa) (o := .cells #[.int .i64 a1] 3 (0, 0)) (zk ab) hb); have af := zK (below_step (zb HB) hb); clear ab; clear HB; have ab := ae; have HB := af; clear ae af; (try clear hb)))
 go_ret
 exact ⟨by first | rfl | (simp [errW_none, errW_some] <;> rfl) | (simp [*, errW_none, errW_some] <;> rfl), by repeat (first | (with_reducible first | exact HB.out | apply zB | apply zC | apply zE | refine zS ?_ ad.out) | exact HB.out)⟩
mutual
def impl_SightsOk.l0 : Nat → List (S89) → List (S89) → Int → Int → Option (Bool)
 | 0, _, _, _, _ => none
 | k + 1, x0, x5, x6, x7 => if x7 < x6 then (if 0 ≤ x7 then (if x7 < (x5.length : Int) then ((impl_isTick.f ((rd_T89 x5 x7).f0)).bind fun t605 => (if t605 = true then (if x7 > 0 then (if 0 ≤ (wrap64 (x7 - 1)) then (if (wrap64 (x7 - 1)) < (x0.length : Int) then (if ((rd_T89 x5 x7).f0) < ((rd_T89 x0 (wrap64 (x7 - 1))).f0) then (impl_SightsOk.j1 k x0 x7 x5 x6 x7 true ((rd_T89 x5 x7).f0) ((rd_T89 x5 x7).f1)) else (impl_SightsOk.j1 k x0 x7 x5 x6 x7 (decide (((rd_T89 x5 x7).f1) < 0)) ((rd_T89 x5 x7).f0) ((rd_T89 x5 x7).f1))) else (none)) else (none)) else (impl_SightsOk.j1 k x0 x7 x5 x6 x7 (decide (((rd_T89 x5 x7).f1) < 0)) ((rd_T89 x5 x7).f0) ((rd_T89 x5 x7).f1))) else (impl_SightsOk.j1 k x0 x7 x5 x6 x7 true ((rd_T89 x5 x7).f0) ((rd_T89 x5 x7).f1)))) else (none)) else (none)) else (some (decide ((x0.length : Int) ≤ 6)))
def impl_SightsOk.j1 : Nat → List (S89) → Int → List (S89) → Int → Int → Bool → Int → Int → Option (Bool)
 | 0, _, _, _, _, _, _, _, _ => none
 | k + 1, x0, x3, x5, x6, x7, x35, x605000, x605001 => if x35 = true then (some false) else (if x605001 = 0 then (impl_SightsOk.l0 k x0 x5 x6 (wrap64 (x7 + 1))) else (if 0 ≤ x3 then (if x3 ≤ (x0.length : Int) then ((impl_isNamed.f (x0.take (x3 : Int).toNat) x605001).bind fun t611 => (if t611 = true then (some false) else (impl_SightsOk.l0 k x0 x5 x6 (wrap64 (x7 + 1))))) else (none)) else (none)))
end
def impl_SightsOk.f (k : Nat) (l0 : List (S89)) : Option (Bool) := impl_SightsOk.l0 k l0 l0 (l0.length : Int) 0
def impl_SightsOk.T4 : Bool × List (List Nat × List Nat) := (true, [([], []), ([0], [0]), ([1], [1]), ([2], [2]), ([3, 2], [3]), ([4], [4]), ([5, 4], [4, 5]), ([6, 4, 4], [4, 6]), ([7], [7]), ([8, 7], [7, 8]), ([7], [7]), ([7], [7]), ([11, 7], [7, 11]), ([10, 12, 7], [7, 10, 12]), ([13, 7], [7, 13]), ([14, 7], [7, 14]), ([9, 15, 7], [7, 9, 15]), ([7, 16, 4], [4, 7, 16]), ([4, 17], [4, 17]), ([18, 7], [18]), ([19], [19]), ([20, 19], [19, 20]), ([21, 19], [19, 21]), ([19, 22], [19, 22])])
def impl_SightsOk.B4 : List Nat := [0, 1, 3, 7, 15, 31, 63, 127, 255, 511, 255, 255, 2303, 7423, 15615, 31999, 65535, 131071, 262143, 524287, 1048575, 2097151, 4194303, 8388607]
theorem impl_SightsOk.tab4 : rtab .any (opsOf Try.f38 4) = impl_SightsOk.T4 := by kernel_rfl
theorem impl_SightsOk.bits4 : waitsOk impl_SightsOk.T4.2 impl_SightsOk.B4 = true := by kernel_rfl
def impl_SightsOk.T6 : Bool × List (List Nat × List Nat) := (true, [([], []), ([0], [0]), ([1], [1]), ([2], [2]), ([3], [3]), ([3], [3]), ([4, 5, 3], [3, 4, 5]), ([3], [3]), ([7, 3], [3, 7]), ([6, 8, 3, 3], [3, 6, 8]), ([3, 9], [3, 9])])
def impl_SightsOk.B6 : List Nat := [0, 1, 3, 7, 15, 15, 63, 15, 143, 511, 1023]
theorem impl_SightsOk.tab6 : rtab .any (opsOf Try.f38 6) = impl_SightsOk.T6 := by kernel_rfl
theorem impl_SightsOk.bits6 : waitsOk impl_SightsOk.T6.2 impl_SightsOk.B6 = true := by kernel_rfl
set_option maxHeartbeats 8000000 in
set_option maxRecDepth 100000 in
theorem impl_SightsOk.calls (k : Nat) (A0 : Option Addr) (c0 : Nat) (l0 : List (S89)) (r : Bool) (w : World) (hr0 : Kd.C k89 w A0 l0.length l0) (hc0 : l0.length ≤ c0) (h : impl_SightsOk.f k l0 = some r) :
  Calls Try.prog 38 #[.slice A0 l0.length c0] w fun e w' => e = .returned (.bool r) ∧ Below w.heap.size w w' := by
 have hu89 := Try.underlying89; have aS := zK hr0; have HC0 := zK hc0; clear hr0 hc0
 have HB := zK (Below.refl w.heap.size w)
 have H : (impl_SightsOk.l0 k l0 l0 (l0.length : Int) 0) = some r := h
 clear h; have H' := zK H; clear H
 go_enter Try.func38, Try.ntmps38
 go_wp2
 go_loopg [7] k (fun kq v7 w' => ∃ (aa : Int), v7 = .int .i64 aa ∧ Aside0 (impl_SightsOk.l0 kq l0 l0 (l0.length : Int) aa = some r) ∧ Aside0 (kq ≤ k) ∧ Aside0 (Below w.heap.size w w'))
 case atStart => exact ⟨(0), (by first | rfl | (simp; done) | (simp [*]; done)), H', ⟨Nat.le_refl _⟩, ⟨zb HB⟩⟩
 case round =>
  clear H'
  obtain ⟨aa, rfl, HA, aD, HB⟩ := hrel
  cases gk with
  | zero => exact absurd HA.out (by simp [impl_SightsOk.l0])
  | succ k1 =>
   have H := HA.out; clear HA
   simp only [impl_SightsOk.l0] at H
   by_cases c2 : aa < (l0.length : Int)
   ·rw [if_pos c2] at H
    have c2b0 : decide (aa < (l0.length : Int)) = true := decide_eq_true c2
    clear c2
    by_cases c3 : 0 ≤ aa
    ·rw [if_pos c3] at H
     have c3b0 : decide (0 ≤ aa) = true := decide_eq_true c3
     clear c3
     by_cases c4 : aa < (l0.length : Int)
     ·rw [if_pos c4] at H
      have c4b0 : decide (aa < (l0.length : Int)) = true := decide_eq_true c4
      clear c4; have HC5 := zK H; clear H
      have aH : 0 ≤ (aa : Int) := of_decide_eq_true (by first | (with_reducible assumption) | assumption)
      have aI : aa < (l0.length : Int) := of_decide_eq_true (by first | (with_reducible assumption) | assumption)
      obtain ⟨ak, e603, an, ao⟩ := at_T89 aS.out aa aH aI
      cases e603
      replace an := (HB.out.cell (World.block_lt_of_cell? w _ an)).trans an
      replace ao := (HB.out.cell (World.block_lt_of_cell? w _ ao)).trans ao
      replace aH := eq_true aH; replace aI := eq_true aI
      go_upto_region 4 with (first | ((with_reducible refine gate_dst (N := 4) rfl ?_); refine box_event ?hg (N := 4) ?hd (cs := #[.int .i64 0, .int .i64 0]) (t := 89) ?hr ?_; (case hd => rfl); (case hg => rfl); (case hr => first | (go_simp; done) | (go_simp; rfl)); intro ac hg w6 hbox hb; have ai := zK (below_step (zb HB) hb); have aj := zK (hbox); have n2_ := zK ((by rw [hg]; exact (below_size (zb HB)) : w.heap.size ≤ ac)); have n3_ := zK ((by rw [hg]; exact (below_size (zb HB)) : w.heap.size ≤ ac)); clear HB; have HB := ai; have ab := aj; have GW604 := n2_; have al := n3_; clear ai aj n2_ n3_; clear hb hbox hg; have hcz7_0 : w6.cell? ⟨ac, 0, none⟩ = some (.int .i64 0) := (blk_cell ab.out 0).trans rfl; have hcz7_1 : w6.cell? ⟨ac, 1, none⟩ = some (.int .i64 0) := (blk_cell ab.out 1).trans rfl; have hfz7_0 := blk_frozen ab.out 0; have hfz7_1 := blk_frozen ab.out 1))
      (try simp only [Act.put, zp, zq, zr])
      go_cut [35] (fun v35 wc => ∃ (kq : Nat) (aw : Bool), v35 = .bool aw ∧ Aside0 (impl_SightsOk.j1 kq l0 aa l0 (l0.length : Int) aa aw ((rd_T89 l0 aa).f0) ((rd_T89 l0 aa).f1) = some r) ∧ Aside0 (kq ≤ k1) ∧ Aside0 (wc.heap[ac]? = some (.cells #[.int .i64 ((rd_T89 l0 aa).f0), .int .i64 ((rd_T89 l0 aa).f1)] 89 (0, 0))) ∧ Aside0 (Below w.heap.size w wc))
      case first =>
       have H := HC5.out; clear HC5; replace H := Option.bind_eq_some_iff.mp H
       obtain ⟨aT, A80, H⟩ := H
       replace H : (if aT = true then (if aa > 0 then (if 0 ≤ (wrap64 (aa - 1)) then (if (wrap64 (aa - 1)) < (l0.length : Int) then (if ((rd_T89 l0 aa).f0) < ((rd_T89 l0 (wrap64 (aa - 1))).f0) then (impl_SightsOk.j1 k1 l0 aa l0 (l0.length : Int) aa true ((rd_T89 l0 aa).f0) ((rd_T89 l0 aa).f1)) else (impl_SightsOk.j1 k1 l0 aa l0 (l0.length : Int) aa (decide (((rd_T89 l0 aa).f1) < 0)) ((rd_T89 l0 aa).f0) ((rd_T89 l0 aa).f1))) else (none)) else (none)) else (impl_SightsOk.j1 k1 l0 aa l0 (l0.length : Int) aa (decide (((rd_T89 l0 aa).f1) < 0)) ((rd_T89 l0 aa).f0) ((rd_T89 l0 aa).f1))) else (impl_SightsOk.j1 k1 l0 aa l0 (l0.length : Int) aa true ((rd_T89 l0 aa).f0) ((rd_T89 l0 aa).f1))) = some r := H
       have A8 := zK A80; clear A80
       by_cases c9 : aT = true
       ·subst c9
        have H1 : (if aa > 0 then (if 0 ≤ (wrap64 (aa - 1)) then (if (wrap64 (aa - 1)) < (l0.length : Int) then (if ((rd_T89 l0 aa).f0) < ((rd_T89 l0 (wrap64 (aa - 1))).f0) then (impl_SightsOk.j1 k1 l0 aa l0 (l0.length : Int) aa true ((rd_T89 l0 aa).f0) ((rd_T89 l0 aa).f1)) else (impl_SightsOk.j1 k1 l0 aa l0 (l0.length : Int) aa (decide (((rd_T89 l0 aa).f1) < 0)) ((rd_T89 l0 aa).f0) ((rd_T89 l0 aa).f1))) else (none)) else (none)) else (impl_SightsOk.j1 k1 l0 aa l0 (l0.length : Int) aa (decide (((rd_T89 l0 aa).f1) < 0)) ((rd_T89 l0 aa).f0) ((rd_T89 l0 aa).f1))) = some r := by rw [if_pos rfl] at H; exact H
        clear H; have H := H1; clear H1
        by_cases c10 : aa > 0
        ·rw [if_pos c10] at H
         have am : decide (0 < aa) = true := decide_eq_true c10
         clear c10
         (first | rw [am] | (simp only [i64_w, i32_w]; rw [am]) | skip)
         obtain ⟨af, ax⟩ : ∃ j_ : Int, (wrap64 (aa - 1)) = j_ := ⟨_, rfl⟩
         replace H : (if 0 ≤ (af) then (if (af) < (l0.length : Int) then (if ((rd_T89 l0 aa).f0) < ((rd_T89 l0 (af)).f0) then (impl_SightsOk.j1 k1 l0 aa l0 (l0.length : Int) aa true ((rd_T89 l0 aa).f0) ((rd_T89 l0 aa).f1)) else (impl_SightsOk.j1 k1 l0 aa l0 (l0.length : Int) aa (decide (((rd_T89 l0 aa).f1) < 0)) ((rd_T89 l0 aa).f0) ((rd_T89 l0 aa).f1))) else (none)) else (none)) = some r := by first | (rw [ax] at H; exact H) | (simp only [ax] at H ⊢; exact H)
         (try rw [ax] at A8)
         have hji11w : (IntKind.i64.wrap (aa - 1)) = af := (i64_w _).trans ax
         by_cases aU : 0 ≤ (af)
         ·rw [if_pos aU] at H
          have c12b0 : decide (0 ≤ (af)) = true := decide_eq_true aU
          clear aU
          by_cases aV : (af) < (l0.length : Int)
          ·rw [if_pos aV] at H
           have c13b0 : decide ((af) < (l0.length : Int)) = true := decide_eq_true aV
           clear aV
           by_cases aJ : ((rd_T89 l0 aa).f0) < ((rd_T89 l0 (af)).f0)
           ·rw [if_pos aJ] at H
            have aE : decide (((rd_T89 l0 aa).f0) < ((rd_T89 l0 (af)).f0)) = true := decide_eq_true aJ
            clear aJ; have H' := zK H; clear H
            try go_wp2
            have ai : Aside0 (((w6.setCell ⟨ac, 0, none⟩ (.int .i64 ((rd_T89 l0 aa).f0))).setCell ⟨ac, 1, none⟩ (.int .i64 ((rd_T89 l0 aa).f1))).heap[ac]? = some (.cells #[.int .i64 ((rd_T89 l0 aa).f0), .int .i64 ((rd_T89 l0 aa).f1)] 89 (0, 0))) := ⟨by (with_reducible repeat (first | refine zN ?_ _ | refine zD ?_ | refine zA ?_ _)); refine blk_put (cs := #[.int .i64 ((rd_T89 l0 aa).f0), .int .i64 0]) ?_ 1 _ rfl; (with_reducible repeat (first | refine zN ?_ _ | refine zD ?_ | refine zA ?_ _)); refine blk_put (cs := #[.int .i64 0, .int .i64 0]) ?_ 0 _ rfl; (with_reducible repeat (first | refine zN ?_ _ | refine zD ?_ | refine zA ?_ _)); exact ab.out⟩
            have aj : Aside0 (Below w.heap.size w ((w6.setCell ⟨ac, 0, none⟩ (.int .i64 ((rd_T89 l0 aa).f0))).setCell ⟨ac, 1, none⟩ (.int .i64 ((rd_T89 l0 aa).f1)))) := ⟨zb HB⟩
            (try clear ab); (try clear HB)
            generalize ((w6.setCell ⟨ac, 0, none⟩ (.int .i64 ((rd_T89 l0 aa).f0))).setCell ⟨ac, 1, none⟩ (.int .i64 ((rd_T89 l0 aa).f1))) = w15 at ai aj ⊢
            have ab := ai; have HB := aj; clear ai aj
            have ai := zK (zD ab.out)
            have aj := zK (zE HB.out)
            clear ab HB; have ab := ai; have HB := aj; clear ai aj
            have aq : 0 ≤ ((af) : Int) := of_decide_eq_true (by first | (with_reducible assumption) | assumption)
            have ar : (af) < (l0.length : Int) := of_decide_eq_true (by first | (with_reducible assumption) | assumption)
            obtain ⟨aB, aK, ad, ae⟩ := at_T89 aS.out (af) aq ar
            have ag := ae; have ah := ad
            obtain rfl : ak = aB := (by injection aK)
            replace ad := (HB.out.cell (World.block_lt_of_cell? w _ ad)).trans ad
            replace ae := (HB.out.cell (World.block_lt_of_cell? w _ ae)).trans ae
            replace aq := eq_true aq; replace ar := eq_true ar
            refine start_ (n := 24) (S := fun w' => w'.cell? ⟨ac, 0, none⟩ = some (.int .i64 ((rd_T89 l0 aa).f0)) ∧ w'.cell? ⟨ac, 1, none⟩ = some (.int .i64 ((rd_T89 l0 aa).f1)) ∧ w'.cell? (ak.add (((af)).toNat * 2)) = some (.int .i64 ((rd_T89 l0 (af)).f0)) ∧ w'.cell? ⟨(ak.add (((af)).toNat * 2)).block, (ak.add (((af)).toNat * 2)).off + 1, none⟩ = some (.int .i64 ((rd_T89 l0 (af)).f1))) (ds := []) #[ff, ff, ff, ff, ff, ff, ff, ff, ff, ff, ff, ff, ff, ff, ff, ff, ff, ff, ff, ff, ff, ff, ff, ff] (by kernel_rfl) rfl rfl ⟨(blk_cell ab.out 0).trans rfl, (blk_cell ab.out 1).trans rfl, ((HB.out.cell (World.block_lt_of_cell? w _ ah)).trans ah), ((HB.out.cell (World.block_lt_of_cell? w _ ag)).trans ag)⟩ (fun hHeld => ?_); refine with_tabW impl_SightsOk.tab4 impl_SightsOk.bits4 (fun HT_ HW_ => ?_)
            generalize w15.drew = w16 at ab HB ad ae hHeld ⊢
            refine zu 0 (some 12) #[tt, ff, ff, ff, ff, ff, ff, ff, ff, ff, ff, ff, ff, ff, ff, ff, ff, ff, ff, ff, ff, ff, ff, ff] (any_of HT_.out (by kernel_rfl)) ?_
            refine zt 1 (some 13) #[tt, tt, ff, ff, ff, ff, ff, ff, ff, ff, ff, ff, ff, ff, ff, ff, ff, ff, ff, ff, ff, ff, ff, ff] (take_ofW HT_.out HW_.out (by kernel_rfl)) hHeld ?_
            refine one_ (i := 2) (N := some 14) #[tt, tt, tt, ff, ff, ff, ff, ff, ff, ff, ff, ff, ff, ff, ff, ff, ff, ff, ff, ff, ff, ff, ff, ff] rfl rfl (one_of HT_.out (by kernel_rfl)) (by decide) (fun K hK => ?_)
            refine goes_ Try.func66 (by kernel_rfl) rfl #[.int .i64 ((rd_T89 l0 aa).f0)] (by rfl) rfl rfl (by (try simp only [List.map_toArray, List.map_cons, List.map_nil]); first | done | rfl | (simp only [List.length_drop, List.length_take]; rfl)) ?_
            with_reducible refine (impl_isTick.calls ((rd_T89 l0 aa).f0) true _ A8.out).mono ?_
            rintro e w' ⟨rfl, ⟨nd, rfl⟩⟩
            refine ⟨_, rfl, ?_⟩
            refine hK.out _ _ ⟨(blk_cell ab.out 0).trans rfl, (blk_cell ab.out 1).trans rfl, ((HB.out.cell (World.block_lt_of_cell? w _ ah)).trans ah), ((HB.out.cell (World.block_lt_of_cell? w _ ag)).trans ag)⟩ (fun hHeld => ?_)
            clear hK K
            refine norm_ (a' := ?_) ?_ ?_
            rotate_left
            ·show Act.put _ (some 14) _ = _
             simp only [Act.put, zp, zq, zr, i64_w, i32_w]
             rfl
            refine zu 3 (some 15) #[tt, tt, tt, tt, ff, ff, ff, ff, ff, ff, ff, ff, ff, ff, ff, ff, ff, ff, ff, ff, ff, ff, ff, ff] (any_of HT_.out (by kernel_rfl)) ?_
            refine zu 4 (some 16) #[tt, tt, tt, tt, tt, ff, ff, ff, ff, ff, ff, ff, ff, ff, ff, ff, ff, ff, ff, ff, ff, ff, ff, ff] (any_of HT_.out (by kernel_rfl)) ?_
            refine zu 5 (some 17) #[tt, tt, tt, tt, tt, tt, ff, ff, ff, ff, ff, ff, ff, ff, ff, ff, ff, ff, ff, ff, ff, ff, ff, ff] (any_of HT_.out (by kernel_rfl)) ?_
            refine zu 6 (some 18) #[tt, tt, tt, tt, tt, tt, tt, ff, ff, ff, ff, ff, ff, ff, ff, ff, ff, ff, ff, ff, ff, ff, ff, ff] (any_of HT_.out (by kernel_rfl)) ?_
            refine zu 7 (some 19) #[tt, tt, tt, tt, tt, tt, tt, tt, ff, ff, ff, ff, ff, ff, ff, ff, ff, ff, ff, ff, ff, ff, ff, ff] (any_of HT_.out (by kernel_rfl)) ?_
            refine zu 8 (some 20) #[tt, tt, tt, tt, tt, tt, tt, tt, tt, ff, ff, ff, ff, ff, ff, ff, ff, ff, ff, ff, ff, ff, ff, ff] (any_of HT_.out (by kernel_rfl)) ?_
            refine zu 10 (some 22) #[tt, tt, tt, tt, tt, tt, tt, tt, tt, ff, tt, ff, ff, ff, ff, ff, ff, ff, ff, ff, ff, ff, ff, ff] (any_of HT_.out (by kernel_rfl)) ?_
            refine zu 11 (some 23) #[tt, tt, tt, tt, tt, tt, tt, tt, tt, ff, tt, tt, ff, ff, ff, ff, ff, ff, ff, ff, ff, ff, ff, ff] (any_of HT_.out (by kernel_rfl)) ?_
            refine zu 12 (some 24) #[tt, tt, tt, tt, tt, tt, tt, tt, tt, ff, tt, tt, tt, ff, ff, ff, ff, ff, ff, ff, ff, ff, ff, ff] (any_of HT_.out (by kernel_rfl)) ?_
            refine zu 13 (some 25) #[tt, tt, tt, tt, tt, tt, tt, tt, tt, ff, tt, tt, tt, tt, ff, ff, ff, ff, ff, ff, ff, ff, ff, ff] (any_of HT_.out (by kernel_rfl)) ?_
            refine zu 14 (some 26) #[tt, tt, tt, tt, tt, tt, tt, tt, tt, ff, tt, tt, tt, tt, tt, ff, ff, ff, ff, ff, ff, ff, ff, ff] (any_of HT_.out (by kernel_rfl)) ?_
            refine zt 9 (some 21) #[tt, tt, tt, tt, tt, tt, tt, tt, tt, tt, tt, tt, tt, tt, tt, ff, ff, ff, ff, ff, ff, ff, ff, ff] (take_ofW HT_.out HW_.out (by kernel_rfl)) hHeld ?_
            refine zt 15 (some 27) #[tt, tt, tt, tt, tt, tt, tt, tt, tt, tt, tt, tt, tt, tt, tt, tt, ff, ff, ff, ff, ff, ff, ff, ff] (take_ofW HT_.out HW_.out (by kernel_rfl)) hHeld ?_
            refine zu 16 (some 28) #[tt, tt, tt, tt, tt, tt, tt, tt, tt, tt, tt, tt, tt, tt, tt, tt, tt, ff, ff, ff, ff, ff, ff, ff] (any_of HT_.out (by kernel_rfl)) ?_
            refine zu 17 (some 29) #[tt, tt, tt, tt, tt, tt, tt, tt, tt, tt, tt, tt, tt, tt, tt, tt, tt, tt, ff, ff, ff, ff, ff, ff] (any_of HT_.out (by kernel_rfl)) ?_
            refine zu 18 (some 30) #[tt, tt, tt, tt, tt, tt, tt, tt, tt, tt, tt, tt, tt, tt, tt, tt, tt, tt, tt, ff, ff, ff, ff, ff] (any_of HT_.out (by kernel_rfl)) ?_
            refine zu 19 (some 31) #[tt, tt, tt, tt, tt, tt, tt, tt, tt, tt, tt, tt, tt, tt, tt, tt, tt, tt, tt, tt, ff, ff, ff, ff] (any_of HT_.out (by kernel_rfl)) ?_
            refine pure_ (i := 20) (N := some 32) (v := undef) (a' := ?_) #[tt, tt, tt, tt, tt, tt, tt, tt, tt, tt, tt, tt, tt, tt, tt, tt, tt, tt, tt, tt, tt, ff, ff, ff] rfl rfl (any_of HT_.out (by kernel_rfl)) (fun _ _ _ h => h) (Or.inr ⟨by rfl, rfl⟩) ?_ ?_
            rotate_left
            ·simp only [Act.put, zp, zq, zr, i64_w, i32_w]
             rfl
            refine pure_ (i := 21) (N := some 33) (v := undef) (a' := ?_) #[tt, tt, tt, tt, tt, tt, tt, tt, tt, tt, tt, tt, tt, tt, tt, tt, tt, tt, tt, tt, tt, tt, ff, ff] rfl rfl (any_of HT_.out (by kernel_rfl)) (fun _ _ _ h => h) (Or.inr ⟨by rfl, rfl⟩) ?_ ?_
            rotate_left
            ·simp only [Act.put, zp, zq, zr, i64_w, i32_w]
             rfl
            refine pure_ (i := 22) (N := some 34) (v := undef) (a' := ?_) #[tt, tt, tt, tt, tt, tt, tt, tt, tt, tt, tt, tt, tt, tt, tt, tt, tt, tt, tt, tt, tt, tt, tt, ff] rfl rfl (any_of HT_.out (by kernel_rfl)) (fun _ _ _ h => h) (Or.inr ⟨by rfl, rfl⟩) ?_ ?_
            rotate_left
            ·simp only [Act.put, zp, zq, zr, i64_w, i32_w]
             rfl
            refine zu 23 (some 35) #[tt, tt, tt, tt, tt, tt, tt, tt, tt, tt, tt, tt, tt, tt, tt, tt, tt, tt, tt, tt, tt, tt, tt, tt] (any_of HT_.out (by kernel_rfl)) ?_
            refine done_ (done_of HT_.out (by kernel_rfl)) ?_
            try go_wp2
            go_meet
            case rel => exact ⟨_, (true), (by first | rfl | (simp; done) | (simp [*]; done)), H', ⟨by have := aD.out; first | omega | exact Nat.le_refl _⟩, ⟨zk ab⟩, ⟨zb HB⟩⟩
           ·rw [if_neg aJ] at H
            have aE : decide (((rd_T89 l0 aa).f0) < ((rd_T89 l0 (af)).f0)) = false := decide_eq_false aJ
            clear aJ; have H' := zK H; clear H
            try go_wp2
            have ai : Aside0 (((w6.setCell ⟨ac, 0, none⟩ (.int .i64 ((rd_T89 l0 aa).f0))).setCell ⟨ac, 1, none⟩ (.int .i64 ((rd_T89 l0 aa).f1))).heap[ac]? = some (.cells #[.int .i64 ((rd_T89 l0 aa).f0), .int .i64 ((rd_T89 l0 aa).f1)] 89 (0, 0))) := ⟨by (with_reducible repeat (first | refine zN ?_ _ | refine zD ?_ | refine zA ?_ _)); refine blk_put (cs := #[.int .i64 ((rd_T89 l0 aa).f0), .int .i64 0]) ?_ 1 _ rfl; (with_reducible repeat (first | refine zN ?_ _ | refine zD ?_ | refine zA ?_ _)); refine blk_put (cs := #[.int .i64 0, .int .i64 0]) ?_ 0 _ rfl; (with_reducible repeat (first | refine zN ?_ _ | refine zD ?_ | refine zA ?_ _)); exact ab.out⟩
            have aj : Aside0 (Below w.heap.size w ((w6.setCell ⟨ac, 0, none⟩ (.int .i64 ((rd_T89 l0 aa).f0))).setCell ⟨ac, 1, none⟩ (.int .i64 ((rd_T89 l0 aa).f1)))) := ⟨zb HB⟩
            (try clear ab); (try clear HB)
            generalize ((w6.setCell ⟨ac, 0, none⟩ (.int .i64 ((rd_T89 l0 aa).f0))).setCell ⟨ac, 1, none⟩ (.int .i64 ((rd_T89 l0 aa).f1))) = w17 at ai aj ⊢
            have ab := ai; have HB := aj; clear ai aj
            have ai := zK (zD ab.out)
            have aj := zK (zE HB.out)
            clear ab HB; have ab := ai; have HB := aj; clear ai aj
            have aq : 0 ≤ ((af) : Int) := of_decide_eq_true (by first | (with_reducible assumption) | assumption)
            have ar : (af) < (l0.length : Int) := of_decide_eq_true (by first | (with_reducible assumption) | assumption)
            obtain ⟨aB, aK, ad, ae⟩ := at_T89 aS.out (af) aq ar
            have ag := ae; have ah := ad
            obtain rfl : ak = aB := (by injection aK)
            replace ad := (HB.out.cell (World.block_lt_of_cell? w _ ad)).trans ad
            replace ae := (HB.out.cell (World.block_lt_of_cell? w _ ae)).trans ae
            replace aq := eq_true aq; replace ar := eq_true ar
            refine start_ (n := 24) (S := fun w' => w'.cell? ⟨ac, 0, none⟩ = some (.int .i64 ((rd_T89 l0 aa).f0)) ∧ w'.cell? ⟨ac, 1, none⟩ = some (.int .i64 ((rd_T89 l0 aa).f1)) ∧ w'.cell? (ak.add (((af)).toNat * 2)) = some (.int .i64 ((rd_T89 l0 (af)).f0)) ∧ w'.cell? ⟨(ak.add (((af)).toNat * 2)).block, (ak.add (((af)).toNat * 2)).off + 1, none⟩ = some (.int .i64 ((rd_T89 l0 (af)).f1))) (ds := []) #[ff, ff, ff, ff, ff, ff, ff, ff, ff, ff, ff, ff, ff, ff, ff, ff, ff, ff, ff, ff, ff, ff, ff, ff] (by kernel_rfl) rfl rfl ⟨(blk_cell ab.out 0).trans rfl, (blk_cell ab.out 1).trans rfl, ((HB.out.cell (World.block_lt_of_cell? w _ ah)).trans ah), ((HB.out.cell (World.block_lt_of_cell? w _ ag)).trans ag)⟩ (fun hHeld => ?_); refine with_tabW impl_SightsOk.tab4 impl_SightsOk.bits4 (fun HT_ HW_ => ?_)
            generalize w17.drew = w18 at ab HB ad ae hHeld ⊢
            refine zu 0 (some 12) #[tt, ff, ff, ff, ff, ff, ff, ff, ff, ff, ff, ff, ff, ff, ff, ff, ff, ff, ff, ff, ff, ff, ff, ff] (any_of HT_.out (by kernel_rfl)) ?_
            refine zt 1 (some 13) #[tt, tt, ff, ff, ff, ff, ff, ff, ff, ff, ff, ff, ff, ff, ff, ff, ff, ff, ff, ff, ff, ff, ff, ff] (take_ofW HT_.out HW_.out (by kernel_rfl)) hHeld ?_
            refine one_ (i := 2) (N := some 14) #[tt, tt, tt, ff, ff, ff, ff, ff, ff, ff, ff, ff, ff, ff, ff, ff, ff, ff, ff, ff, ff, ff, ff, ff] rfl rfl (one_of HT_.out (by kernel_rfl)) (by decide) (fun K hK => ?_)
            refine goes_ Try.func66 (by kernel_rfl) rfl #[.int .i64 ((rd_T89 l0 aa).f0)] (by rfl) rfl rfl (by (try simp only [List.map_toArray, List.map_cons, List.map_nil]); first | done | rfl | (simp only [List.length_drop, List.length_take]; rfl)) ?_
            with_reducible refine (impl_isTick.calls ((rd_T89 l0 aa).f0) true _ A8.out).mono ?_
            rintro e w' ⟨rfl, ⟨nd, rfl⟩⟩
            refine ⟨_, rfl, ?_⟩
            refine hK.out _ _ ⟨(blk_cell ab.out 0).trans rfl, (blk_cell ab.out 1).trans rfl, ((HB.out.cell (World.block_lt_of_cell? w _ ah)).trans ah), ((HB.out.cell (World.block_lt_of_cell? w _ ag)).trans ag)⟩ (fun hHeld => ?_)
            clear hK K
            refine norm_ (a' := ?_) ?_ ?_
            rotate_left
            ·show Act.put _ (some 14) _ = _
             simp only [Act.put, zp, zq, zr, i64_w, i32_w]
             rfl
            refine zu 3 (some 15) #[tt, tt, tt, tt, ff, ff, ff, ff, ff, ff, ff, ff, ff, ff, ff, ff, ff, ff, ff, ff, ff, ff, ff, ff] (any_of HT_.out (by kernel_rfl)) ?_
            refine zu 4 (some 16) #[tt, tt, tt, tt, tt, ff, ff, ff, ff, ff, ff, ff, ff, ff, ff, ff, ff, ff, ff, ff, ff, ff, ff, ff] (any_of HT_.out (by kernel_rfl)) ?_
            refine zu 5 (some 17) #[tt, tt, tt, tt, tt, tt, ff, ff, ff, ff, ff, ff, ff, ff, ff, ff, ff, ff, ff, ff, ff, ff, ff, ff] (any_of HT_.out (by kernel_rfl)) ?_
            refine zu 6 (some 18) #[tt, tt, tt, tt, tt, tt, tt, ff, ff, ff, ff, ff, ff, ff, ff, ff, ff, ff, ff, ff, ff, ff, ff, ff] (any_of HT_.out (by kernel_rfl)) ?_
            refine zu 7 (some 19) #[tt, tt, tt, tt, tt, tt, tt, tt, ff, ff, ff, ff, ff, ff, ff, ff, ff, ff, ff, ff, ff, ff, ff, ff] (any_of HT_.out (by kernel_rfl)) ?_
            refine zu 8 (some 20) #[tt, tt, tt, tt, tt, tt, tt, tt, tt, ff, ff, ff, ff, ff, ff, ff, ff, ff, ff, ff, ff, ff, ff, ff] (any_of HT_.out (by kernel_rfl)) ?_
            refine zu 10 (some 22) #[tt, tt, tt, tt, tt, tt, tt, tt, tt, ff, tt, ff, ff, ff, ff, ff, ff, ff, ff, ff, ff, ff, ff, ff] (any_of HT_.out (by kernel_rfl)) ?_
            refine zu 11 (some 23) #[tt, tt, tt, tt, tt, tt, tt, tt, tt, ff, tt, tt, ff, ff, ff, ff, ff, ff, ff, ff, ff, ff, ff, ff] (any_of HT_.out (by kernel_rfl)) ?_
            refine zu 12 (some 24) #[tt, tt, tt, tt, tt, tt, tt, tt, tt, ff, tt, tt, tt, ff, ff, ff, ff, ff, ff, ff, ff, ff, ff, ff] (any_of HT_.out (by kernel_rfl)) ?_
            refine zu 13 (some 25) #[tt, tt, tt, tt, tt, tt, tt, tt, tt, ff, tt, tt, tt, tt, ff, ff, ff, ff, ff, ff, ff, ff, ff, ff] (any_of HT_.out (by kernel_rfl)) ?_
            refine zu 14 (some 26) #[tt, tt, tt, tt, tt, tt, tt, tt, tt, ff, tt, tt, tt, tt, tt, ff, ff, ff, ff, ff, ff, ff, ff, ff] (any_of HT_.out (by kernel_rfl)) ?_
            refine zt 9 (some 21) #[tt, tt, tt, tt, tt, tt, tt, tt, tt, tt, tt, tt, tt, tt, tt, ff, ff, ff, ff, ff, ff, ff, ff, ff] (take_ofW HT_.out HW_.out (by kernel_rfl)) hHeld ?_
            refine zt 15 (some 27) #[tt, tt, tt, tt, tt, tt, tt, tt, tt, tt, tt, tt, tt, tt, tt, tt, ff, ff, ff, ff, ff, ff, ff, ff] (take_ofW HT_.out HW_.out (by kernel_rfl)) hHeld ?_
            refine zu 16 (some 28) #[tt, tt, tt, tt, tt, tt, tt, tt, tt, tt, tt, tt, tt, tt, tt, tt, tt, ff, ff, ff, ff, ff, ff, ff] (any_of HT_.out (by kernel_rfl)) ?_
            refine zu 17 (some 29) #[tt, tt, tt, tt, tt, tt, tt, tt, tt, tt, tt, tt, tt, tt, tt, tt, tt, tt, ff, ff, ff, ff, ff, ff] (any_of HT_.out (by kernel_rfl)) ?_
            refine zu 18 (some 30) #[tt, tt, tt, tt, tt, tt, tt, tt, tt, tt, tt, tt, tt, tt, tt, tt, tt, tt, tt, ff, ff, ff, ff, ff] (any_of HT_.out (by kernel_rfl)) ?_
            refine zu 19 (some 31) #[tt, tt, tt, tt, tt, tt, tt, tt, tt, tt, tt, tt, tt, tt, tt, tt, tt, tt, tt, tt, ff, ff, ff, ff] (any_of HT_.out (by kernel_rfl)) ?_
            refine zu 20 (some 32) #[tt, tt, tt, tt, tt, tt, tt, tt, tt, tt, tt, tt, tt, tt, tt, tt, tt, tt, tt, tt, tt, ff, ff, ff] (any_of HT_.out (by kernel_rfl)) ?_
            refine zt 21 (some 33) #[tt, tt, tt, tt, tt, tt, tt, tt, tt, tt, tt, tt, tt, tt, tt, tt, tt, tt, tt, tt, tt, tt, ff, ff] (take_ofW HT_.out HW_.out (by kernel_rfl)) hHeld ?_
            refine zu 22 (some 34) #[tt, tt, tt, tt, tt, tt, tt, tt, tt, tt, tt, tt, tt, tt, tt, tt, tt, tt, tt, tt, tt, tt, tt, ff] (any_of HT_.out (by kernel_rfl)) ?_
            refine zu 23 (some 35) #[tt, tt, tt, tt, tt, tt, tt, tt, tt, tt, tt, tt, tt, tt, tt, tt, tt, tt, tt, tt, tt, tt, tt, tt] (any_of HT_.out (by kernel_rfl)) ?_
            refine done_ (done_of HT_.out (by kernel_rfl)) ?_
            try go_wp2
            go_meet
            case rel => exact ⟨_, (decide (((rd_T89 l0 aa).f1) < 0)), (by first | rfl | (simp; done) | (simp [*]; done)), H', ⟨by have := aD.out; first | omega | exact Nat.le_refl _⟩, ⟨zk ab⟩, ⟨zb HB⟩⟩
          ·rw [if_neg aV] at H
           exact absurd H (by simp)
         ·rw [if_neg aU] at H
          exact absurd H (by simp)
        ·rw [if_neg c10] at H
         have am : decide (0 < aa) = false := decide_eq_false c10
         clear c10
         (first | rw [am] | (simp only [i64_w, i32_w]; rw [am]) | skip)
         have H' := zK H; clear H
         try go_wp2
         have ai : Aside0 (((w6.setCell ⟨ac, 0, none⟩ (.int .i64 ((rd_T89 l0 aa).f0))).setCell ⟨ac, 1, none⟩ (.int .i64 ((rd_T89 l0 aa).f1))).heap[ac]? = some (.cells #[.int .i64 ((rd_T89 l0 aa).f0), .int .i64 ((rd_T89 l0 aa).f1)] 89 (0, 0))) := ⟨by (with_reducible repeat (first | refine zN ?_ _ | refine zD ?_ | refine zA ?_ _)); refine blk_put (cs := #[.int .i64 ((rd_T89 l0 aa).f0), .int .i64 0]) ?_ 1 _ rfl; (with_reducible repeat (first | refine zN ?_ _ | refine zD ?_ | refine zA ?_ _)); refine blk_put (cs := #[.int .i64 0, .int .i64 0]) ?_ 0 _ rfl; (with_reducible repeat (first | refine zN ?_ _ | refine zD ?_ | refine zA ?_ _)); exact ab.out⟩
         have aj : Aside0 (Below w.heap.size w ((w6.setCell ⟨ac, 0, none⟩ (.int .i64 ((rd_T89 l0 aa).f0))).setCell ⟨ac, 1, none⟩ (.int .i64 ((rd_T89 l0 aa).f1)))) := ⟨zb HB⟩
         (try clear ab); (try clear HB)
         generalize ((w6.setCell ⟨ac, 0, none⟩ (.int .i64 ((rd_T89 l0 aa).f0))).setCell ⟨ac, 1, none⟩ (.int .i64 ((rd_T89 l0 aa).f1))) = w19 at ai aj ⊢
         have ab := ai; have HB := aj; clear ai aj
         have ai := zK (zD ab.out)
         have aj := zK (zE HB.out)
         clear ab HB; have ab := ai; have HB := aj; clear ai aj
         refine start_ (n := 24) (S := fun w' => w'.cell? ⟨ac, 0, none⟩ = some (.int .i64 ((rd_T89 l0 aa).f0)) ∧ w'.cell? ⟨ac, 1, none⟩ = some (.int .i64 ((rd_T89 l0 aa).f1))) (ds := []) #[ff, ff, ff, ff, ff, ff, ff, ff, ff, ff, ff, ff, ff, ff, ff, ff, ff, ff, ff, ff, ff, ff, ff, ff] (by kernel_rfl) rfl rfl ⟨(blk_cell ab.out 0).trans rfl, (blk_cell ab.out 1).trans rfl⟩ (fun hHeld => ?_); refine with_tabW impl_SightsOk.tab4 impl_SightsOk.bits4 (fun HT_ HW_ => ?_)
         generalize w19.drew = w20 at ab HB hHeld ⊢
         refine zu 0 (some 12) #[tt, ff, ff, ff, ff, ff, ff, ff, ff, ff, ff, ff, ff, ff, ff, ff, ff, ff, ff, ff, ff, ff, ff, ff] (any_of HT_.out (by kernel_rfl)) ?_
         refine zt 1 (some 13) #[tt, tt, ff, ff, ff, ff, ff, ff, ff, ff, ff, ff, ff, ff, ff, ff, ff, ff, ff, ff, ff, ff, ff, ff] (take_ofW HT_.out HW_.out (by kernel_rfl)) hHeld ?_
         refine one_ (i := 2) (N := some 14) #[tt, tt, tt, ff, ff, ff, ff, ff, ff, ff, ff, ff, ff, ff, ff, ff, ff, ff, ff, ff, ff, ff, ff, ff] rfl rfl (one_of HT_.out (by kernel_rfl)) (by decide) (fun K hK => ?_)
         refine goes_ Try.func66 (by kernel_rfl) rfl #[.int .i64 ((rd_T89 l0 aa).f0)] (by rfl) rfl rfl (by (try simp only [List.map_toArray, List.map_cons, List.map_nil]); first | done | rfl | (simp only [List.length_drop, List.length_take]; rfl)) ?_
         with_reducible refine (impl_isTick.calls ((rd_T89 l0 aa).f0) true _ A8.out).mono ?_
         rintro e w' ⟨rfl, ⟨nd, rfl⟩⟩
         refine ⟨_, rfl, ?_⟩
         refine hK.out _ _ ⟨(blk_cell ab.out 0).trans rfl, (blk_cell ab.out 1).trans rfl⟩ (fun hHeld => ?_)
         clear hK K
         refine norm_ (a' := ?_) ?_ ?_
         rotate_left
         ·show Act.put _ (some 14) _ = _
          simp only [Act.put, zp, zq, zr, i64_w, i32_w]
          rfl
         refine zu 3 (some 15) #[tt, tt, tt, tt, ff, ff, ff, ff, ff, ff, ff, ff, ff, ff, ff, ff, ff, ff, ff, ff, ff, ff, ff, ff] (any_of HT_.out (by kernel_rfl)) ?_
         refine zu 4 (some 16) #[tt, tt, tt, tt, tt, ff, ff, ff, ff, ff, ff, ff, ff, ff, ff, ff, ff, ff, ff, ff, ff, ff, ff, ff] (any_of HT_.out (by kernel_rfl)) ?_
         refine zu 5 (some 17) #[tt, tt, tt, tt, tt, tt, ff, ff, ff, ff, ff, ff, ff, ff, ff, ff, ff, ff, ff, ff, ff, ff, ff, ff] (any_of HT_.out (by kernel_rfl)) ?_
         refine zu 6 (some 18) #[tt, tt, tt, tt, tt, tt, tt, ff, ff, ff, ff, ff, ff, ff, ff, ff, ff, ff, ff, ff, ff, ff, ff, ff] (any_of HT_.out (by kernel_rfl)) ?_
         refine zu 7 (some 19) #[tt, tt, tt, tt, tt, tt, tt, tt, ff, ff, ff, ff, ff, ff, ff, ff, ff, ff, ff, ff, ff, ff, ff, ff] (any_of HT_.out (by kernel_rfl)) ?_
         refine pure_ (i := 8) (N := some 20) (v := undef) (a' := ?_) #[tt, tt, tt, tt, tt, tt, tt, tt, tt, ff, ff, ff, ff, ff, ff, ff, ff, ff, ff, ff, ff, ff, ff, ff] rfl rfl (any_of HT_.out (by kernel_rfl)) (fun _ _ _ h => h) (Or.inr ⟨by rfl, rfl⟩) ?_ ?_
         rotate_left
         ·simp only [Act.put, zp, zq, zr, i64_w, i32_w]
          rfl
         refine pure_ (i := 9) (N := some 21) (v := undef) (a' := ?_) #[tt, tt, tt, tt, tt, tt, tt, tt, tt, tt, ff, ff, ff, ff, ff, ff, ff, ff, ff, ff, ff, ff, ff, ff] rfl rfl (any_of HT_.out (by kernel_rfl)) (fun _ _ _ h => h) (Or.inr ⟨by rfl, rfl⟩) ?_ ?_
         rotate_left
         ·simp only [Act.put, zp, zq, zr, i64_w, i32_w]
          rfl
         refine pure_ (i := 10) (N := some 22) (v := undef) (a' := ?_) #[tt, tt, tt, tt, tt, tt, tt, tt, tt, tt, tt, ff, ff, ff, ff, ff, ff, ff, ff, ff, ff, ff, ff, ff] rfl rfl (any_of HT_.out (by kernel_rfl)) (fun _ _ _ h => h) (Or.inr ⟨by rfl, rfl⟩) ?_ ?_
         rotate_left
         ·simp only [Act.put, zp, zq, zr, i64_w, i32_w]
          rfl
         refine pure_ (i := 11) (N := some 23) (v := undef) (a' := ?_) #[tt, tt, tt, tt, tt, tt, tt, tt, tt, tt, tt, tt, ff, ff, ff, ff, ff, ff, ff, ff, ff, ff, ff, ff] rfl rfl (any_of HT_.out (by kernel_rfl)) (fun _ _ _ h => h) (Or.inr ⟨by rfl, rfl⟩) ?_ ?_
         rotate_left
         ·simp only [Act.put, zp, zq, zr, i64_w, i32_w]
          rfl
         refine pure_ (i := 12) (N := some 24) (v := undef) (a' := ?_) #[tt, tt, tt, tt, tt, tt, tt, tt, tt, tt, tt, tt, tt, ff, ff, ff, ff, ff, ff, ff, ff, ff, ff, ff] rfl rfl (any_of HT_.out (by kernel_rfl)) (fun _ _ _ h => h) (Or.inr ⟨by rfl, rfl⟩) ?_ ?_
         rotate_left
         ·simp only [Act.put, zp, zq, zr, i64_w, i32_w]
          rfl
         refine pure_ (i := 13) (N := some 25) (v := undef) (a' := ?_) #[tt, tt, tt, tt, tt, tt, tt, tt, tt, tt, tt, tt, tt, tt, ff, ff, ff, ff, ff, ff, ff, ff, ff, ff] rfl rfl (any_of HT_.out (by kernel_rfl)) (fun _ _ _ h => h) (Or.inr ⟨by rfl, rfl⟩) ?_ ?_
         rotate_left
         ·simp only [Act.put, zp, zq, zr, i64_w, i32_w]
          rfl
         refine pure_ (i := 14) (N := some 26) (v := undef) (a' := ?_) #[tt, tt, tt, tt, tt, tt, tt, tt, tt, tt, tt, tt, tt, tt, tt, ff, ff, ff, ff, ff, ff, ff, ff, ff] rfl rfl (any_of HT_.out (by kernel_rfl)) (fun _ _ _ h => h) (Or.inr ⟨by rfl, rfl⟩) ?_ ?_
         rotate_left
         ·simp only [Act.put, zp, zq, zr, i64_w, i32_w]
          rfl
         refine pure_ (i := 15) (N := some 27) (v := undef) (a' := ?_) #[tt, tt, tt, tt, tt, tt, tt, tt, tt, tt, tt, tt, tt, tt, tt, tt, ff, ff, ff, ff, ff, ff, ff, ff] rfl rfl (any_of HT_.out (by kernel_rfl)) (fun _ _ _ h => h) (Or.inr ⟨by rfl, rfl⟩) ?_ ?_
         rotate_left
         ·simp only [Act.put, zp, zq, zr, i64_w, i32_w]
          rfl
         refine pure_ (i := 16) (N := some 28) (v := undef) (a' := ?_) #[tt, tt, tt, tt, tt, tt, tt, tt, tt, tt, tt, tt, tt, tt, tt, tt, tt, ff, ff, ff, ff, ff, ff, ff] rfl rfl (any_of HT_.out (by kernel_rfl)) (fun _ _ _ h => h) (Or.inr ⟨by rfl, rfl⟩) ?_ ?_
         rotate_left
         ·simp only [Act.put, zp, zq, zr, i64_w, i32_w]
          rfl
         refine zu 17 (some 29) #[tt, tt, tt, tt, tt, tt, tt, tt, tt, tt, tt, tt, tt, tt, tt, tt, tt, tt, ff, ff, ff, ff, ff, ff] (any_of HT_.out (by kernel_rfl)) ?_
         refine zu 18 (some 30) #[tt, tt, tt, tt, tt, tt, tt, tt, tt, tt, tt, tt, tt, tt, tt, tt, tt, tt, tt, ff, ff, ff, ff, ff] (any_of HT_.out (by kernel_rfl)) ?_
         refine zu 19 (some 31) #[tt, tt, tt, tt, tt, tt, tt, tt, tt, tt, tt, tt, tt, tt, tt, tt, tt, tt, tt, tt, ff, ff, ff, ff] (any_of HT_.out (by kernel_rfl)) ?_
         refine zu 20 (some 32) #[tt, tt, tt, tt, tt, tt, tt, tt, tt, tt, tt, tt, tt, tt, tt, tt, tt, tt, tt, tt, tt, ff, ff, ff] (any_of HT_.out (by kernel_rfl)) ?_
         refine zt 21 (some 33) #[tt, tt, tt, tt, tt, tt, tt, tt, tt, tt, tt, tt, tt, tt, tt, tt, tt, tt, tt, tt, tt, tt, ff, ff] (take_ofW HT_.out HW_.out (by kernel_rfl)) hHeld ?_
         refine zu 22 (some 34) #[tt, tt, tt, tt, tt, tt, tt, tt, tt, tt, tt, tt, tt, tt, tt, tt, tt, tt, tt, tt, tt, tt, tt, ff] (any_of HT_.out (by kernel_rfl)) ?_
         refine zu 23 (some 35) #[tt, tt, tt, tt, tt, tt, tt, tt, tt, tt, tt, tt, tt, tt, tt, tt, tt, tt, tt, tt, tt, tt, tt, tt] (any_of HT_.out (by kernel_rfl)) ?_
         refine done_ (done_of HT_.out (by kernel_rfl)) ?_
         try go_wp2
         go_meet
         case rel => exact ⟨_, (decide (((rd_T89 l0 aa).f1) < 0)), (by first | rfl | (simp; done) | (simp [*]; done)), H', ⟨by have := aD.out; first | omega | exact Nat.le_refl _⟩, ⟨zk ab⟩, ⟨zb HB⟩⟩
       ·replace c9 := Bool.eq_false_iff.mpr c9
        subst c9
        have H1 : (impl_SightsOk.j1 k1 l0 aa l0 (l0.length : Int) aa true ((rd_T89 l0 aa).f0) ((rd_T89 l0 aa).f1)) = some r := by rw [if_neg (show ¬ (false = true) by decide)] at H; exact H
        clear H; have H := H1; clear H1; have H' := zK H; clear H
        try go_wp2
        have ai : Aside0 (((w6.setCell ⟨ac, 0, none⟩ (.int .i64 ((rd_T89 l0 aa).f0))).setCell ⟨ac, 1, none⟩ (.int .i64 ((rd_T89 l0 aa).f1))).heap[ac]? = some (.cells #[.int .i64 ((rd_T89 l0 aa).f0), .int .i64 ((rd_T89 l0 aa).f1)] 89 (0, 0))) := ⟨by (with_reducible repeat (first | refine zN ?_ _ | refine zD ?_ | refine zA ?_ _)); refine blk_put (cs := #[.int .i64 ((rd_T89 l0 aa).f0), .int .i64 0]) ?_ 1 _ rfl; (with_reducible repeat (first | refine zN ?_ _ | refine zD ?_ | refine zA ?_ _)); refine blk_put (cs := #[.int .i64 0, .int .i64 0]) ?_ 0 _ rfl; (with_reducible repeat (first | refine zN ?_ _ | refine zD ?_ | refine zA ?_ _)); exact ab.out⟩
        have aj : Aside0 (Below w.heap.size w ((w6.setCell ⟨ac, 0, none⟩ (.int .i64 ((rd_T89 l0 aa).f0))).setCell ⟨ac, 1, none⟩ (.int .i64 ((rd_T89 l0 aa).f1)))) := ⟨zb HB⟩
        (try clear ab); (try clear HB)
        generalize ((w6.setCell ⟨ac, 0, none⟩ (.int .i64 ((rd_T89 l0 aa).f0))).setCell ⟨ac, 1, none⟩ (.int .i64 ((rd_T89 l0 aa).f1))) = w21 at ai aj ⊢
        have ab := ai; have HB := aj; clear ai aj
        have ai := zK (zD ab.out)
        have aj := zK (zE HB.out)
        clear ab HB; have ab := ai; have HB := aj; clear ai aj
        refine start_ (n := 24) (S := fun w' => w'.cell? ⟨ac, 0, none⟩ = some (.int .i64 ((rd_T89 l0 aa).f0)) ∧ w'.cell? ⟨ac, 1, none⟩ = some (.int .i64 ((rd_T89 l0 aa).f1))) (ds := []) #[ff, ff, ff, ff, ff, ff, ff, ff, ff, ff, ff, ff, ff, ff, ff, ff, ff, ff, ff, ff, ff, ff, ff, ff] (by kernel_rfl) rfl rfl ⟨(blk_cell ab.out 0).trans rfl, (blk_cell ab.out 1).trans rfl⟩ (fun hHeld => ?_); refine with_tabW impl_SightsOk.tab4 impl_SightsOk.bits4 (fun HT_ HW_ => ?_)
        generalize w21.drew = w22 at ab HB hHeld ⊢
        refine zu 0 (some 12) #[tt, ff, ff, ff, ff, ff, ff, ff, ff, ff, ff, ff, ff, ff, ff, ff, ff, ff, ff, ff, ff, ff, ff, ff] (any_of HT_.out (by kernel_rfl)) ?_
        refine zt 1 (some 13) #[tt, tt, ff, ff, ff, ff, ff, ff, ff, ff, ff, ff, ff, ff, ff, ff, ff, ff, ff, ff, ff, ff, ff, ff] (take_ofW HT_.out HW_.out (by kernel_rfl)) hHeld ?_
        refine one_ (i := 2) (N := some 14) #[tt, tt, tt, ff, ff, ff, ff, ff, ff, ff, ff, ff, ff, ff, ff, ff, ff, ff, ff, ff, ff, ff, ff, ff] rfl rfl (one_of HT_.out (by kernel_rfl)) (by decide) (fun K hK => ?_)
        refine goes_ Try.func66 (by kernel_rfl) rfl #[.int .i64 ((rd_T89 l0 aa).f0)] (by rfl) rfl rfl (by (try simp only [List.map_toArray, List.map_cons, List.map_nil]); first | done | rfl | (simp only [List.length_drop, List.length_take]; rfl)) ?_
        with_reducible refine (impl_isTick.calls ((rd_T89 l0 aa).f0) false _ A8.out).mono ?_
        rintro e w' ⟨rfl, ⟨nd, rfl⟩⟩
        refine ⟨_, rfl, ?_⟩
        refine hK.out _ _ ⟨(blk_cell ab.out 0).trans rfl, (blk_cell ab.out 1).trans rfl⟩ (fun hHeld => ?_)
        clear hK K
        refine norm_ (a' := ?_) ?_ ?_
        rotate_left
        ·show Act.put _ (some 14) _ = _
         simp only [Act.put, zp, zq, zr, i64_w, i32_w]
         rfl
        refine zu 3 (some 15) #[tt, tt, tt, tt, ff, ff, ff, ff, ff, ff, ff, ff, ff, ff, ff, ff, ff, ff, ff, ff, ff, ff, ff, ff] (any_of HT_.out (by kernel_rfl)) ?_
        refine zu 4 (some 16) #[tt, tt, tt, tt, tt, ff, ff, ff, ff, ff, ff, ff, ff, ff, ff, ff, ff, ff, ff, ff, ff, ff, ff, ff] (any_of HT_.out (by kernel_rfl)) ?_
        refine pure_ (i := 5) (N := some 17) (v := undef) (a' := ?_) #[tt, tt, tt, tt, tt, tt, ff, ff, ff, ff, ff, ff, ff, ff, ff, ff, ff, ff, ff, ff, ff, ff, ff, ff] rfl rfl (any_of HT_.out (by kernel_rfl)) (fun _ _ _ h => h) (Or.inr ⟨by rfl, rfl⟩) ?_ ?_
        rotate_left
        ·simp only [Act.put, zp, zq, zr, i64_w, i32_w]
         rfl
        refine pure_ (i := 6) (N := some 18) (v := undef) (a' := ?_) #[tt, tt, tt, tt, tt, tt, tt, ff, ff, ff, ff, ff, ff, ff, ff, ff, ff, ff, ff, ff, ff, ff, ff, ff] rfl rfl (any_of HT_.out (by kernel_rfl)) (fun _ _ _ h => h) (Or.inr ⟨by rfl, rfl⟩) ?_ ?_
        rotate_left
        ·simp only [Act.put, zp, zq, zr, i64_w, i32_w]
         rfl
        refine pure_ (i := 7) (N := some 19) (v := undef) (a' := ?_) #[tt, tt, tt, tt, tt, tt, tt, tt, ff, ff, ff, ff, ff, ff, ff, ff, ff, ff, ff, ff, ff, ff, ff, ff] rfl rfl (any_of HT_.out (by kernel_rfl)) (fun _ _ _ h => h) (Or.inr ⟨by rfl, rfl⟩) ?_ ?_
        rotate_left
        ·simp only [Act.put, zp, zq, zr, i64_w, i32_w]
         rfl
        refine pure_ (i := 8) (N := some 20) (v := undef) (a' := ?_) #[tt, tt, tt, tt, tt, tt, tt, tt, tt, ff, ff, ff, ff, ff, ff, ff, ff, ff, ff, ff, ff, ff, ff, ff] rfl rfl (any_of HT_.out (by kernel_rfl)) (fun _ _ _ h => h) (Or.inr ⟨by rfl, rfl⟩) ?_ ?_
        rotate_left
        ·simp only [Act.put, zp, zq, zr, i64_w, i32_w]
         rfl
        refine pure_ (i := 9) (N := some 21) (v := undef) (a' := ?_) #[tt, tt, tt, tt, tt, tt, tt, tt, tt, tt, ff, ff, ff, ff, ff, ff, ff, ff, ff, ff, ff, ff, ff, ff] rfl rfl (any_of HT_.out (by kernel_rfl)) (fun _ _ _ h => h) (Or.inr ⟨by rfl, rfl⟩) ?_ ?_
        rotate_left
        ·simp only [Act.put, zp, zq, zr, i64_w, i32_w]
         rfl
        refine pure_ (i := 10) (N := some 22) (v := undef) (a' := ?_) #[tt, tt, tt, tt, tt, tt, tt, tt, tt, tt, tt, ff, ff, ff, ff, ff, ff, ff, ff, ff, ff, ff, ff, ff] rfl rfl (any_of HT_.out (by kernel_rfl)) (fun _ _ _ h => h) (Or.inr ⟨by rfl, rfl⟩) ?_ ?_
        rotate_left
        ·simp only [Act.put, zp, zq, zr, i64_w, i32_w]
         rfl
        refine pure_ (i := 11) (N := some 23) (v := undef) (a' := ?_) #[tt, tt, tt, tt, tt, tt, tt, tt, tt, tt, tt, tt, ff, ff, ff, ff, ff, ff, ff, ff, ff, ff, ff, ff] rfl rfl (any_of HT_.out (by kernel_rfl)) (fun _ _ _ h => h) (Or.inr ⟨by rfl, rfl⟩) ?_ ?_
        rotate_left
        ·simp only [Act.put, zp, zq, zr, i64_w, i32_w]
         rfl
        refine pure_ (i := 12) (N := some 24) (v := undef) (a' := ?_) #[tt, tt, tt, tt, tt, tt, tt, tt, tt, tt, tt, tt, tt, ff, ff, ff, ff, ff, ff, ff, ff, ff, ff, ff] rfl rfl (any_of HT_.out (by kernel_rfl)) (fun _ _ _ h => h) (Or.inr ⟨by rfl, rfl⟩) ?_ ?_
        rotate_left
        ·simp only [Act.put, zp, zq, zr, i64_w, i32_w]
         rfl
        refine pure_ (i := 13) (N := some 25) (v := undef) (a' := ?_) #[tt, tt, tt, tt, tt, tt, tt, tt, tt, tt, tt, tt, tt, tt, ff, ff, ff, ff, ff, ff, ff, ff, ff, ff] rfl rfl (any_of HT_.out (by kernel_rfl)) (fun _ _ _ h => h) (Or.inr ⟨by rfl, rfl⟩) ?_ ?_
        rotate_left
        ·simp only [Act.put, zp, zq, zr, i64_w, i32_w]
         rfl
        refine pure_ (i := 14) (N := some 26) (v := undef) (a' := ?_) #[tt, tt, tt, tt, tt, tt, tt, tt, tt, tt, tt, tt, tt, tt, tt, ff, ff, ff, ff, ff, ff, ff, ff, ff] rfl rfl (any_of HT_.out (by kernel_rfl)) (fun _ _ _ h => h) (Or.inr ⟨by rfl, rfl⟩) ?_ ?_
        rotate_left
        ·simp only [Act.put, zp, zq, zr, i64_w, i32_w]
         rfl
        refine pure_ (i := 15) (N := some 27) (v := undef) (a' := ?_) #[tt, tt, tt, tt, tt, tt, tt, tt, tt, tt, tt, tt, tt, tt, tt, tt, ff, ff, ff, ff, ff, ff, ff, ff] rfl rfl (any_of HT_.out (by kernel_rfl)) (fun _ _ _ h => h) (Or.inr ⟨by rfl, rfl⟩) ?_ ?_
        rotate_left
        ·simp only [Act.put, zp, zq, zr, i64_w, i32_w]
         rfl
        refine pure_ (i := 16) (N := some 28) (v := undef) (a' := ?_) #[tt, tt, tt, tt, tt, tt, tt, tt, tt, tt, tt, tt, tt, tt, tt, tt, tt, ff, ff, ff, ff, ff, ff, ff] rfl rfl (any_of HT_.out (by kernel_rfl)) (fun _ _ _ h => h) (Or.inr ⟨by rfl, rfl⟩) ?_ ?_
        rotate_left
        ·simp only [Act.put, zp, zq, zr, i64_w, i32_w]
         rfl
        refine pure_ (i := 17) (N := some 29) (v := undef) (a' := ?_) #[tt, tt, tt, tt, tt, tt, tt, tt, tt, tt, tt, tt, tt, tt, tt, tt, tt, tt, ff, ff, ff, ff, ff, ff] rfl rfl (any_of HT_.out (by kernel_rfl)) (fun _ _ _ h => h) (Or.inr ⟨by rfl, rfl⟩) ?_ ?_
        rotate_left
        ·simp only [Act.put, zp, zq, zr, i64_w, i32_w]
         rfl
        refine zu 18 (some 30) #[tt, tt, tt, tt, tt, tt, tt, tt, tt, tt, tt, tt, tt, tt, tt, tt, tt, tt, tt, ff, ff, ff, ff, ff] (any_of HT_.out (by kernel_rfl)) ?_
        refine zu 19 (some 31) #[tt, tt, tt, tt, tt, tt, tt, tt, tt, tt, tt, tt, tt, tt, tt, tt, tt, tt, tt, tt, ff, ff, ff, ff] (any_of HT_.out (by kernel_rfl)) ?_
        refine pure_ (i := 20) (N := some 32) (v := undef) (a' := ?_) #[tt, tt, tt, tt, tt, tt, tt, tt, tt, tt, tt, tt, tt, tt, tt, tt, tt, tt, tt, tt, tt, ff, ff, ff] rfl rfl (any_of HT_.out (by kernel_rfl)) (fun _ _ _ h => h) (Or.inr ⟨by rfl, rfl⟩) ?_ ?_
        rotate_left
        ·simp only [Act.put, zp, zq, zr, i64_w, i32_w]
         rfl
        refine pure_ (i := 21) (N := some 33) (v := undef) (a' := ?_) #[tt, tt, tt, tt, tt, tt, tt, tt, tt, tt, tt, tt, tt, tt, tt, tt, tt, tt, tt, tt, tt, tt, ff, ff] rfl rfl (any_of HT_.out (by kernel_rfl)) (fun _ _ _ h => h) (Or.inr ⟨by rfl, rfl⟩) ?_ ?_
        rotate_left
        ·simp only [Act.put, zp, zq, zr, i64_w, i32_w]
         rfl
        refine pure_ (i := 22) (N := some 34) (v := undef) (a' := ?_) #[tt, tt, tt, tt, tt, tt, tt, tt, tt, tt, tt, tt, tt, tt, tt, tt, tt, tt, tt, tt, tt, tt, tt, ff] rfl rfl (any_of HT_.out (by kernel_rfl)) (fun _ _ _ h => h) (Or.inr ⟨by rfl, rfl⟩) ?_ ?_
        rotate_left
        ·simp only [Act.put, zp, zq, zr, i64_w, i32_w]
         rfl
        refine zu 23 (some 35) #[tt, tt, tt, tt, tt, tt, tt, tt, tt, tt, tt, tt, tt, tt, tt, tt, tt, tt, tt, tt, tt, tt, tt, tt] (any_of HT_.out (by kernel_rfl)) ?_
        refine done_ (done_of HT_.out (by kernel_rfl)) ?_
        try go_wp2
        go_meet
        case rel => exact ⟨_, (true), (by first | rfl | (simp; done) | (simp [*]; done)), H', ⟨by have := aD.out; first | omega | exact Nat.le_refl _⟩, ⟨zk ab⟩, ⟨zb HB⟩⟩
      case rest =>
       clear HC5
       try clear c1
       try clear p2
       try clear c6
       try clear p6
       try clear q6
       try clear hx6
       try clear c9
       try clear c10
       try clear am
       try clear aU
       try clear aV
       try clear aJ
       try clear aE
       try clear ad
       try clear ae
       try clear aq
       try clear ar
       obtain ⟨kq, aw, rfl, HA, HJ4, ab, HB⟩ := hcut
       cases kq with
       | zero => exact absurd HA.out (by simp [impl_SightsOk.j1])
       | succ kj4 =>
        have H := HA.out; clear HA
        simp only [impl_SightsOk.j1] at H
        by_cases c23 : aw = true
        ·subst c23
         have H1 : (some false) = some r := by rw [if_pos rfl] at H; exact H
         clear H; have H := H1; clear H1; obtain rfl := Option.some.inj H
         go_wp2
         go_ret
         exact ⟨by first | rfl | (simp [errW_none, errW_some] <;> rfl) | (simp [*, errW_none, errW_some] <;> rfl), by repeat (first | (with_reducible first | exact HB.out | apply zB | apply zC | apply zE | refine zS ?_ al.out) | exact HB.out)⟩
        ·replace c23 := Bool.eq_false_iff.mpr c23
         subst c23
         have H1 : (if ((rd_T89 l0 aa).f1) = 0 then (impl_SightsOk.l0 kj4 l0 l0 (l0.length : Int) (wrap64 (aa + 1))) else (if 0 ≤ aa then (if aa ≤ (l0.length : Int) then ((impl_isNamed.f (l0.take (aa : Int).toNat) ((rd_T89 l0 aa).f1)).bind fun aA => (if aA = true then (some false) else (impl_SightsOk.l0 kj4 l0 l0 (l0.length : Int) (wrap64 (aa + 1))))) else (none)) else (none))) = some r := by rw [if_neg (show ¬ (false = true) by decide)] at H; exact H
         clear H; have H := H1; clear H1
         by_cases aL : ((rd_T89 l0 aa).f1) = 0
         ·rw [if_pos aL] at H
          have aW : (((rd_T89 l0 aa).f1) == 0) = true := beq_iff_eq.mpr aL
          have aX : (((rd_T89 l0 aa).f1) != 0) = false := bne_eq_false_iff_eq.mpr aL
          clear aL; have H' := zK H; clear H
          try go_wp2
          have ai := zK (zD ab.out)
          have aj := zK (zE HB.out)
          clear ab HB; have ab := ai; have HB := aj; clear ai aj
          refine start_ (n := 11) (S := fun w' => w'.cell? ⟨ac, 0, none⟩ = some (.int .i64 ((rd_T89 l0 aa).f0)) ∧ w'.cell? ⟨ac, 1, none⟩ = some (.int .i64 ((rd_T89 l0 aa).f1))) (ds := []) #[ff, ff, ff, ff, ff, ff, ff, ff, ff, ff, ff] (by kernel_rfl) rfl rfl ⟨(blk_cell ab.out 0).trans rfl, (blk_cell ab.out 1).trans rfl⟩ (fun hHeld => ?_); refine with_tabW impl_SightsOk.tab6 impl_SightsOk.bits6 (fun HT_ HW_ => ?_)
          generalize wc.drew = w25 at ab HB hHeld ⊢
          refine zu 0 (some 36) #[tt, ff, ff, ff, ff, ff, ff, ff, ff, ff, ff] (any_of HT_.out (by kernel_rfl)) ?_
          refine zt 1 (some 37) #[tt, tt, ff, ff, ff, ff, ff, ff, ff, ff, ff] (take_ofW HT_.out HW_.out (by kernel_rfl)) hHeld ?_
          refine zu 2 (some 38) #[tt, tt, tt, ff, ff, ff, ff, ff, ff, ff, ff] (any_of HT_.out (by kernel_rfl)) ?_
          refine zu 3 (some 39) #[tt, tt, tt, tt, ff, ff, ff, ff, ff, ff, ff] (any_of HT_.out (by kernel_rfl)) ?_
          refine pure_ (i := 4) (N := some 40) (v := undef) (a' := ?_) #[tt, tt, tt, tt, tt, ff, ff, ff, ff, ff, ff] rfl rfl (any_of HT_.out (by kernel_rfl)) (fun _ _ _ h => h) (Or.inr ⟨by rfl, rfl⟩) ?_ ?_
          rotate_left
          ·simp only [Act.put, zp, zq, zr, i64_w, i32_w]
           rfl
          refine pure_ (i := 5) (N := some 41) (v := undef) (a' := ?_) #[tt, tt, tt, tt, tt, tt, ff, ff, ff, ff, ff] rfl rfl (any_of HT_.out (by kernel_rfl)) (fun _ _ _ h => h) (Or.inr ⟨by rfl, rfl⟩) ?_ ?_
          rotate_left
          ·simp only [Act.put, zp, zq, zr, i64_w, i32_w]
           rfl
          refine pure_ (i := 6) (N := some 42) (v := undef) (a' := ?_) #[tt, tt, tt, tt, tt, tt, tt, ff, ff, ff, ff] rfl rfl (any_of HT_.out (by kernel_rfl)) (fun _ _ _ h => h) (Or.inr ⟨by rfl, rfl⟩) ?_ ?_
          rotate_left
          ·simp only [Act.put, zp, zq, zr, i64_w, i32_w]
           rfl
          refine pure_ (i := 7) (N := some 43) (v := undef) (a' := ?_) #[tt, tt, tt, tt, tt, tt, tt, tt, ff, ff, ff] rfl rfl (any_of HT_.out (by kernel_rfl)) (fun _ _ _ h => h) (Or.inr ⟨by rfl, rfl⟩) ?_ ?_
          rotate_left
          ·simp only [Act.put, zp, zq, zr, i64_w, i32_w]
           rfl
          refine pure_ (i := 8) (N := some 44) (v := undef) (a' := ?_) #[tt, tt, tt, tt, tt, tt, tt, tt, tt, ff, ff] rfl rfl (any_of HT_.out (by kernel_rfl)) (fun _ _ _ h => h) (Or.inr ⟨by rfl, rfl⟩) ?_ ?_
          rotate_left
          ·simp only [Act.put, zp, zq, zr, i64_w, i32_w]
           rfl
          refine pure_ (i := 9) (N := some 45) (v := undef) (a' := ?_) #[tt, tt, tt, tt, tt, tt, tt, tt, tt, tt, ff] rfl rfl (any_of HT_.out (by kernel_rfl)) (fun _ _ _ h => h) (Or.inr ⟨by rfl, rfl⟩) ?_ ?_
          rotate_left
          ·simp only [Act.put, zp, zq, zr, i64_w, i32_w]
           rfl
          refine zu 10 (some 46) #[tt, tt, tt, tt, tt, tt, tt, tt, tt, tt, tt] (any_of HT_.out (by kernel_rfl)) ?_
          refine done_ (done_of HT_.out (by kernel_rfl)) ?_
          try go_wp2
          go_roundg kj4
          case measure => have := aD.out; have := HJ4.out; omega
          case rel => exact ⟨(wrap64 (aa + 1)), (by first | rfl | (simp; done) | (simp [*]; done)), H', ⟨by have := aD.out; have := HJ4.out; omega⟩, ⟨zb HB⟩⟩
         ·rw [if_neg aL] at H
          have aW : (((rd_T89 l0 aa).f1) == 0) = false := beq_eq_false_iff_ne.mpr aL
          have aX : (((rd_T89 l0 aa).f1) != 0) = true := bne_iff_ne.mpr aL
          by_cases aY : 0 ≤ aa
          ·rw [if_pos aY] at H
           have c26b0 := eq_true aY
           have c26b1 : decide (0 ≤ aa) = true := decide_eq_true aY
           clear aY
           by_cases aZ : aa ≤ (l0.length : Int)
           ·rw [if_pos aZ] at H
            have c27b0 := eq_true aZ
            have c27b1 : decide (aa ≤ (l0.length : Int)) = true := decide_eq_true aZ
            clear aZ
            obtain ⟨ap, au⟩ : ∃ y_ : List (S89), y_ = (l0.take (aa : Int).toNat) := ⟨_, rfl⟩
            replace H : ((impl_isNamed.f ap ((rd_T89 l0 aa).f1)).bind fun aA => (if aA = true then (some false) else (impl_SightsOk.l0 kj4 l0 l0 (l0.length : Int) (wrap64 (aa + 1))))) = some r := by first | (rw [au]; with_reducible exact H) | (have H2_ := (Option.bind_some _ _).symm.trans H; rw [au]; with_reducible exact H2_) | (have H2_ := (Option.bind_some _ _).symm.trans H; with_reducible exact H2_) | with_reducible exact H | (rw [au]; exact H) | exact H
            have Ny607 := zK au; clear au; replace H := Option.bind_eq_some_iff.mp H
            obtain ⟨aA, a0, H⟩ := H
            replace H : (if aA = true then (some false) else (impl_SightsOk.l0 kj4 l0 l0 (l0.length : Int) (wrap64 (aa + 1)))) = some r := H
            have A28 := zK a0; clear a0
            by_cases c29 : aA = true
            ·subst c29
             have H1 : (some false) = some r := by rw [if_pos rfl] at H; exact H
             clear H; have H := H1; clear H1; obtain rfl := Option.some.inj H
             try go_wp2
             have ai := zK (zD ab.out)
             have aj := zK (zE HB.out)
             clear ab HB; have ab := ai; have HB := aj; clear ai aj
             have q31 : (aa : Int) ≤ ((l0.length : Int) : Int) := of_decide_eq_true (by first | (with_reducible assumption) | assumption)
             obtain ⟨i031, aF, _, a1, _⟩ := info_parts info89
             have ay : l0.length ≤ c0 := HC0.out
             have a2 : Kd.C k89 _ (some ak) l0.length l0 := aS.out
             have aM := cut_to (P := Try.prog) 43 89 .i64 Try.underlying43 aF (some ak) l0.length c0 aa (of_decide_eq_true (by first | (with_reducible assumption) | assumption)) q31 ay
             have aN := Kd.C_take (m := (aa : Int).toNat) a2 (by omega)
             have aO : ap.length = (aa : Int).toNat := (by rw [Ny607.out, List.length_take]; omega)
             rw [← Ny607.out] at aN
             rw [← aO] at aM
             have av := zK aN
             have aC := zK (show ap.length ≤ c0 from by omega)
             clear aN a2 ay aF a1; have KY31 := zK aO; clear aO; replace q31 := eq_true q31
             refine start_ (n := 11) (S := fun w' => w'.cell? ⟨ac, 0, none⟩ = some (.int .i64 ((rd_T89 l0 aa).f0)) ∧ w'.cell? ⟨ac, 1, none⟩ = some (.int .i64 ((rd_T89 l0 aa).f1))) (ds := []) #[ff, ff, ff, ff, ff, ff, ff, ff, ff, ff, ff] (by kernel_rfl) rfl rfl ⟨(blk_cell ab.out 0).trans rfl, (blk_cell ab.out 1).trans rfl⟩ (fun hHeld => ?_); refine with_tabW impl_SightsOk.tab6 impl_SightsOk.bits6 (fun HT_ HW_ => ?_)
             generalize wc.drew = w30 at ab HB av hHeld ⊢
             refine zu 0 (some 36) #[tt, ff, ff, ff, ff, ff, ff, ff, ff, ff, ff] (any_of HT_.out (by kernel_rfl)) ?_
             refine zt 1 (some 37) #[tt, tt, ff, ff, ff, ff, ff, ff, ff, ff, ff] (take_ofW HT_.out HW_.out (by kernel_rfl)) hHeld ?_
             refine zu 2 (some 38) #[tt, tt, tt, ff, ff, ff, ff, ff, ff, ff, ff] (any_of HT_.out (by kernel_rfl)) ?_
             refine zu 3 (some 39) #[tt, tt, tt, tt, ff, ff, ff, ff, ff, ff, ff] (any_of HT_.out (by kernel_rfl)) ?_
             refine zu 4 (some 40) #[tt, tt, tt, tt, tt, ff, ff, ff, ff, ff, ff] (any_of HT_.out (by kernel_rfl)) ?_
             refine zu 5 (some 41) #[tt, tt, tt, tt, tt, tt, ff, ff, ff, ff, ff] (any_of HT_.out (by kernel_rfl)) ?_
             refine zu 6 (some 42) #[tt, tt, tt, tt, tt, tt, tt, ff, ff, ff, ff] (any_of HT_.out (by kernel_rfl)) ?_
             refine zu 7 (some 43) #[tt, tt, tt, tt, tt, tt, tt, tt, ff, ff, ff] (any_of HT_.out (by kernel_rfl)) ?_
             refine zt 8 (some 44) #[tt, tt, tt, tt, tt, tt, tt, tt, tt, ff, ff] (take_ofW HT_.out HW_.out (by kernel_rfl)) hHeld ?_
             refine one_ (i := 9) (N := some 45) #[tt, tt, tt, tt, tt, tt, tt, tt, tt, tt, ff] rfl rfl (one_of HT_.out (by kernel_rfl)) (by decide) (fun K hK => ?_)
             refine goes_ Try.func79 (by kernel_rfl) rfl #[.slice (some ak) ap.length c0, .int .i64 ((rd_T89 l0 aa).f1)] (by rfl) rfl rfl (by (try simp only [List.map_toArray, List.map_cons, List.map_nil]); first | done | rfl | (simp only [List.length_drop, List.length_take]; rfl)) ?_
             with_reducible refine (impl_isNamed.calls _ _ ap ((rd_T89 l0 aa).f1) true _ ?side1 ?side2 A28.out).mono ?_
             (case side1 => repeat (first | exact (Kd.C_below av.out HB.out) | (with_reducible refine Kd.C_alloc ?_ _) | (with_reducible refine Kd.C_drewN ?_ _) | (with_reducible refine Kd.C_drew ?_)))
             (case side2 => exact aC.out)
             rintro e w32 ⟨rfl, hb⟩
             refine ⟨_, rfl, ?_⟩
             have ai := zK (blk_below (g := ac) (o := .cells #[.int .i64 ((rd_T89 l0 aa).f0), .int .i64 ((rd_T89 l0 aa).f1)] 89 (0, 0)) (zk ab) hb)
             have aj := zK (below_step (zb HB) hb)
             clear ab HB; have ab := ai; have HB := aj; clear ai aj; (try clear hb); (try clear hb2); (try clear hk); (try clear hi)
             refine hK.out _ _ ⟨(blk_cell ab.out 0).trans rfl, (blk_cell ab.out 1).trans rfl⟩ (fun hHeld => ?_)
             clear hK K
             refine norm_ (a' := ?_) ?_ ?_
             rotate_left
             ·show Act.put _ (some 45) _ = _
              simp only [Act.put, zp, zq, zr, i64_w, i32_w]
              rfl
             refine zu 10 (some 46) #[tt, tt, tt, tt, tt, tt, tt, tt, tt, tt, tt] (any_of HT_.out (by kernel_rfl)) ?_
             refine done_ (done_of HT_.out (by kernel_rfl)) ?_
             try go_wp2
             go_ret
             exact ⟨by first | rfl | (simp [errW_none, errW_some] <;> rfl) | (simp [*, errW_none, errW_some] <;> rfl), by repeat (first | (with_reducible first | exact HB.out | apply zB | apply zC | apply zE | refine zS ?_ al.out) | exact HB.out)⟩
            ·replace c29 := Bool.eq_false_iff.mpr c29
             subst c29
             have H1 : (impl_SightsOk.l0 kj4 l0 l0 (l0.length : Int) (wrap64 (aa + 1))) = some r := by rw [if_neg (show ¬ (false = true) by decide)] at H; exact H
             clear H; have H := H1; clear H1; have H' := zK H; clear H
             try go_wp2
             have ai := zK (zD ab.out)
             have aj := zK (zE HB.out)
             clear ab HB; have ab := ai; have HB := aj; clear ai aj
             have q34 : (aa : Int) ≤ ((l0.length : Int) : Int) := of_decide_eq_true (by first | (with_reducible assumption) | assumption)
             obtain ⟨i034, aG, _, a3, _⟩ := info_parts info89
             have az : l0.length ≤ c0 := HC0.out
             have a4 : Kd.C k89 _ (some ak) l0.length l0 := aS.out
             have aP := cut_to (P := Try.prog) 43 89 .i64 Try.underlying43 aG (some ak) l0.length c0 aa (of_decide_eq_true (by first | (with_reducible assumption) | assumption)) q34 az
             have aQ := Kd.C_take (m := (aa : Int).toNat) a4 (by omega)
             have aR : ap.length = (aa : Int).toNat := (by rw [Ny607.out, List.length_take]; omega)
             rw [← Ny607.out] at aQ
             rw [← aR] at aP
             have av := zK aQ
             have aC := zK (show ap.length ≤ c0 from by omega)
             clear aQ a4 az aG a3; have KY34 := zK aR; clear aR; replace q34 := eq_true q34
             refine start_ (n := 11) (S := fun w' => w'.cell? ⟨ac, 0, none⟩ = some (.int .i64 ((rd_T89 l0 aa).f0)) ∧ w'.cell? ⟨ac, 1, none⟩ = some (.int .i64 ((rd_T89 l0 aa).f1))) (ds := []) #[ff, ff, ff, ff, ff, ff, ff, ff, ff, ff, ff] (by kernel_rfl) rfl rfl ⟨(blk_cell ab.out 0).trans rfl, (blk_cell ab.out 1).trans rfl⟩ (fun hHeld => ?_); refine with_tabW impl_SightsOk.tab6 impl_SightsOk.bits6 (fun HT_ HW_ => ?_)
             generalize wc.drew = w33 at ab HB av hHeld ⊢
             refine zu 0 (some 36) #[tt, ff, ff, ff, ff, ff, ff, ff, ff, ff, ff] (any_of HT_.out (by kernel_rfl)) ?_
             refine zt 1 (some 37) #[tt, tt, ff, ff, ff, ff, ff, ff, ff, ff, ff] (take_ofW HT_.out HW_.out (by kernel_rfl)) hHeld ?_
             refine zu 2 (some 38) #[tt, tt, tt, ff, ff, ff, ff, ff, ff, ff, ff] (any_of HT_.out (by kernel_rfl)) ?_
             refine zu 3 (some 39) #[tt, tt, tt, tt, ff, ff, ff, ff, ff, ff, ff] (any_of HT_.out (by kernel_rfl)) ?_
             refine zu 4 (some 40) #[tt, tt, tt, tt, tt, ff, ff, ff, ff, ff, ff] (any_of HT_.out (by kernel_rfl)) ?_
             refine zu 5 (some 41) #[tt, tt, tt, tt, tt, tt, ff, ff, ff, ff, ff] (any_of HT_.out (by kernel_rfl)) ?_
             refine zu 6 (some 42) #[tt, tt, tt, tt, tt, tt, tt, ff, ff, ff, ff] (any_of HT_.out (by kernel_rfl)) ?_
             refine zu 7 (some 43) #[tt, tt, tt, tt, tt, tt, tt, tt, ff, ff, ff] (any_of HT_.out (by kernel_rfl)) ?_
             refine zt 8 (some 44) #[tt, tt, tt, tt, tt, tt, tt, tt, tt, ff, ff] (take_ofW HT_.out HW_.out (by kernel_rfl)) hHeld ?_
             refine one_ (i := 9) (N := some 45) #[tt, tt, tt, tt, tt, tt, tt, tt, tt, tt, ff] rfl rfl (one_of HT_.out (by kernel_rfl)) (by decide) (fun K hK => ?_)
             refine goes_ Try.func79 (by kernel_rfl) rfl #[.slice (some ak) ap.length c0, .int .i64 ((rd_T89 l0 aa).f1)] (by rfl) rfl rfl (by (try simp only [List.map_toArray, List.map_cons, List.map_nil]); first | done | rfl | (simp only [List.length_drop, List.length_take]; rfl)) ?_
             with_reducible refine (impl_isNamed.calls _ _ ap ((rd_T89 l0 aa).f1) false _ ?side1 ?side2 A28.out).mono ?_
             (case side1 => repeat (first | exact (Kd.C_below av.out HB.out) | (with_reducible refine Kd.C_alloc ?_ _) | (with_reducible refine Kd.C_drewN ?_ _) | (with_reducible refine Kd.C_drew ?_)))
             (case side2 => exact aC.out)
             rintro e w35 ⟨rfl, hb⟩
             refine ⟨_, rfl, ?_⟩
             have ai := zK (blk_below (g := ac) (o := .cells #[.int .i64 ((rd_T89 l0 aa).f0), .int .i64 ((rd_T89 l0 aa).f1)] 89 (0, 0)) (zk ab) hb)
             have aj := zK (below_step (zb HB) hb)
             clear ab HB; have ab := ai; have HB := aj; clear ai aj; (try clear hb); (try clear hb2); (try clear hk); (try clear hi)
             refine hK.out _ _ ⟨(blk_cell ab.out 0).trans rfl, (blk_cell ab.out 1).trans rfl⟩ (fun hHeld => ?_)
             clear hK K
             refine norm_ (a' := ?_) ?_ ?_
             rotate_left
             ·show Act.put _ (some 45) _ = _
              simp only [Act.put, zp, zq, zr, i64_w, i32_w]
              rfl
             refine zu 10 (some 46) #[tt, tt, tt, tt, tt, tt, tt, tt, tt, tt, tt] (any_of HT_.out (by kernel_rfl)) ?_
             refine done_ (done_of HT_.out (by kernel_rfl)) ?_
             try go_wp2
             go_roundg kj4
             case measure => have := aD.out; have := HJ4.out; omega
             case rel => exact ⟨(wrap64 (aa + 1)), (by first | rfl | (simp; done) | (simp [*]; done)), H', ⟨by have := aD.out; have := HJ4.out; omega⟩, ⟨zb HB⟩⟩
           ·rw [if_neg aZ] at H
            exact absurd H (by simp)
          ·rw [if_neg aY] at H
           exact absurd H (by simp)
     ·rw [if_neg c4] at H
      exact absurd H (by simp)
    ·rw [if_neg c3] at H
     exact absurd H (by simp)
   ·rw [if_neg c2] at H
    have c2b0 : decide (aa < (l0.length : Int)) = false := decide_eq_false c2
    clear c2; obtain rfl := Option.some.inj H
    go_wp2
    go_ret
    exact ⟨by first | rfl | (simp [errW_none, errW_some] <;> rfl) | (simp [*, errW_none, errW_some] <;> rfl), by repeat (first | (with_reducible first | exact HB.out | apply zB | apply zC | apply zE) | exact HB.out)⟩
def impl_areSights.f (k : Nat) (l0 : List (S52)) (l1 : List (S89)) : Option (Bool) := (impl_ExpectOk.f k l0).bind fun t612 => (if t612 = true then ((impl_SightsOk.f k l1).bind fun t613 => (some t613)) else (some false))
set_option maxHeartbeats 8000000 in
set_option maxRecDepth 100000 in
theorem impl_areSights.calls (k : Nat) (A0 : Option Addr) (c0 : Nat) (l0 : List (S52)) (A1 : Option Addr) (c1 : Nat) (l1 : List (S89)) (r : Bool) (w : World) (hr0 : Kd.C k52 w A0 l0.length l0) (hc0 : l0.length ≤ c0) (hr1 : Kd.C k89 w A1 l1.length l1) (hc1 : l1.length ≤ c1) (h : impl_areSights.f k l0 l1 = some r) :
  Calls Try.prog 73 #[.slice A0 l0.length c0, .slice A1 l1.length c1] w fun e w' => e = .returned (.bool r) ∧ Below w.heap.size w w' := by
 have HR0 := zK hr0; have HC0 := zK hc0; clear hr0 hc0; have HR1 := zK hr1; have HC1 := zK hc1; clear hr1 hc1
 have HB := zK (Below.refl w.heap.size w)
 have H : ((impl_ExpectOk.f k l0).bind fun ab => (if ab = true then ((impl_SightsOk.f k l1).bind fun aa => (some aa)) else (some false))) = some r := h
 clear h; replace H := Option.bind_eq_some_iff.mp H
 obtain ⟨ab, A30, H⟩ := H
 replace H : (if ab = true then ((impl_SightsOk.f k l1).bind fun aa => (some aa)) else (some false)) = some r := H
 have A3 := zK A30; clear A30
 by_cases c4 : ab = true
 ·subst c4
  have H1 : ((impl_SightsOk.f k l1).bind fun aa => (some aa)) = some r := by rw [if_pos rfl] at H; exact H
  clear H; have H := H1; clear H1; replace H := Option.bind_eq_some_iff.mp H
  obtain ⟨aa, A50, H⟩ := H
  replace H : (some aa) = some r := H
  have A5 := zK A50; clear A50; obtain rfl := Option.some.inj H
  go_enter Try.func73, Try.ntmps73
  go_wp2_with (first | ((with_reducible refine gate_callee (f := 36) rfl ?_); refine goesL_ (some 6) rfl rfl Try.func36 (by kernel_rfl) rfl #[.slice A0 l0.length c0] rfl (by (try simp only [List.map_toArray, List.map_cons, List.map_nil]); first | done | rfl | (simp only [List.length_drop, List.length_take]; rfl)) ?_; (with_reducible refine (impl_ExpectOk.calls k _ _ l0 true _ ?side1 ?side2 A3.out).mono ?_); (case side1 => repeat (first | exact HR0.out | (with_reducible refine Kd.C_alloc ?_ _) | (with_reducible refine Kd.C_drewN ?_ _) | (with_reducible refine Kd.C_drew ?_))); (case side2 => exact HC0.out); rintro e w6 ⟨rfl, hb⟩; refine ⟨_, rfl, ?_⟩; have ac := zK (below_step (zb HB) hb); clear HB; have HB := ac; clear ac; (try clear hb)) | (go_at_call 38; (with_reducible refine (impl_SightsOk.calls k _ _ l1 aa _ ?side1 ?side2 A5.out).mono ?_); (case side1 => repeat (first | exact (Kd.C_below HR1.out HB.out) | (with_reducible refine Kd.C_alloc ?_ _) | (with_reducible refine Kd.C_drewN ?_ _) | (with_reducible refine Kd.C_drew ?_))); (case side2 => exact HC1.out); rintro e w7 ⟨rfl, hb⟩; have ac := zK (below_step (zb HB) hb); clear HB; have HB := ac; clear ac; (try clear hb)))
  go_ret
  exact ⟨by first | rfl | (simp [errW_none, errW_some] <;> rfl) | (simp [*, errW_none, errW_some] <;> rfl), by repeat (first | (with_reducible first | exact HB.out | apply zB | apply zC | apply zE) | exact HB.out)⟩
 ·replace c4 := Bool.eq_false_iff.mpr c4
  subst c4
  have H1 : (some false) = some r := by rw [if_neg (show ¬ (false = true) by decide)] at H; exact H
  clear H; have H := H1; clear H1; obtain rfl := Option.some.inj H
  go_enter Try.func73, Try.ntmps73
  go_wp2_with (first | ((with_reducible refine gate_callee (f := 36) rfl ?_); refine goesL_ (some 6) rfl rfl Try.func36 (by kernel_rfl) rfl #[.slice A0 l0.length c0] rfl (by (try simp only [List.map_toArray, List.map_cons, List.map_nil]); first | done | rfl | (simp only [List.length_drop, List.length_take]; rfl)) ?_; (with_reducible refine (impl_ExpectOk.calls k _ _ l0 false _ ?side1 ?side2 A3.out).mono ?_); (case side1 => repeat (first | exact HR0.out | (with_reducible refine Kd.C_alloc ?_ _) | (with_reducible refine Kd.C_drewN ?_ _) | (with_reducible refine Kd.C_drew ?_))); (case side2 => exact HC0.out); rintro e w8 ⟨rfl, hb⟩; refine ⟨_, rfl, ?_⟩; have ac := zK (below_step (zb HB) hb); clear HB; have HB := ac; clear ac; (try clear hb)))
  go_ret
  exact ⟨by first | rfl | (simp [errW_none, errW_some] <;> rfl) | (simp [*, errW_none, errW_some] <;> rfl), by repeat (first | (with_reducible first | exact HB.out | apply zB | apply zC | apply zE) | exact HB.out)⟩
def slices_Contains_int_int.f (k : Nat) (l0 : List Int) (a1 : Int) : Option (Bool) := (slices_Index_int_int.f k l0 a1).bind fun t614 => (some (decide (t614 ≥ 0)))
set_option maxHeartbeats 8000000 in
set_option maxRecDepth 100000 in
theorem slices_Contains_int_int.calls (k : Nat) (A0 : Option Addr) (c0 : Nat) (l0 : List Int) (a1 : Int) (r : Bool) (w : World) (hr0 : Kd.C (Kd.int .i64) w A0 l0.length l0) (hc0 : l0.length ≤ c0) (h : slices_Contains_int_int.f k l0 a1 = some r) :
  Calls Try.prog 74 #[.slice A0 l0.length c0, .int .i64 a1] w fun e w' => e = .returned (.bool r) ∧ Drawn0 w w' := by
 have HR0 := zK hr0; have HC0 := zK hc0; clear hr0 hc0
 have H : ((slices_Index_int_int.f k l0 a1).bind fun aa => (some (decide (aa ≥ 0)))) = some r := h
 clear h; replace H := Option.bind_eq_some_iff.mp H
 obtain ⟨aa, A30, H⟩ := H
 replace H : (some (decide (aa ≥ 0))) = some r := H
 have A3 := zK A30; clear A30; obtain rfl := Option.some.inj H
 go_enter Try.func74, Try.ntmps74
 go_wp2_with (first | ((with_reducible refine gate_callee (f := 60) rfl ?_); refine goesL_ (some 7) rfl rfl Try.func60 (by kernel_rfl) rfl #[.slice A0 l0.length c0, .int .i64 a1] rfl (by (try simp only [List.map_toArray, List.map_cons, List.map_nil]); first | done | rfl | (simp only [List.length_drop, List.length_take]; rfl)) ?_; (with_reducible refine (slices_Index_int_int.calls k _ _ l0 a1 aa _ ?side1 ?side2 A3.out).mono ?_); (case side1 => repeat (first | exact HR0.out | (with_reducible refine Kd.C_alloc ?_ _) | (with_reducible refine Kd.C_drewN ?_ _) | (with_reducible refine Kd.C_drew ?_))); (case side2 => exact HC0.out); rintro e w' ⟨rfl, ⟨nd, rfl⟩⟩; refine ⟨_, rfl, ?_⟩))
 go_ret
 exact ⟨by first | rfl | (simp; done) | (simp [*]; done), by repeat (first | exact Drawn0.refl _ | apply Drawn0.step)⟩
def impl_fits.f (l0 : List (S89)) (a1_0 : Int) (a1_1 : Int) (a2_0 : Int) (a2_1 : Int) (a2_2 : Int) : Option (Bool) := if a1_1 = 0 then ((impl_isNamed.f l0 a2_0).bind fun t617 => (if t617 = true then (some false) else (if a1_0 ≥ a2_1 then (some (decide (a1_0 ≤ a2_2))) else (some false)))) else (some false)
set_option maxHeartbeats 8000000 in
set_option maxRecDepth 100000 in
theorem impl_fits.calls (A0 : Option Addr) (c0 : Nat) (l0 : List (S89)) (a1_0 : Int) (a1_1 : Int) (a2_0 : Int) (a2_1 : Int) (a2_2 : Int) (r : Bool) (w : World) (hr0 : Kd.C k89 w A0 l0.length l0) (hc0 : l0.length ≤ c0) (h : impl_fits.f l0 a1_0 a1_1 a2_0 a2_1 a2_2 = some r) :
  Calls Try.prog 81 #[.slice A0 l0.length c0, .agg #[.int .i64 a1_0, .int .i64 a1_1], .agg #[.int .i64 a2_0, .int .i64 a2_1, .int .i64 a2_2]] w fun e w' => e = .returned (.bool r) ∧ Below w.heap.size w w' := by
 have hu89 := Try.underlying89; have hu52 := Try.underlying52; have HR0 := zK hr0; have HC0 := zK hc0; clear hr0 hc0
 have HB := zK (Below.refl w.heap.size w)
 have H : (if a1_1 = 0 then ((impl_isNamed.f l0 a2_0).bind fun ar => (if ar = true then (some false) else (if a1_0 ≥ a2_1 then (some (decide (a1_0 ≤ a2_2))) else (some false)))) else (some false)) = some r := h
 clear h
 by_cases c4 : a1_1 = 0
 ·rw [if_pos c4] at H
  have c4b0 : (a1_1 == 0) = true := beq_iff_eq.mpr c4
  have c4b1 : (a1_1 != 0) = false := bne_eq_false_iff_eq.mpr c4
  clear c4; replace H := Option.bind_eq_some_iff.mp H
  obtain ⟨ar, A50, H⟩ := H
  replace H : (if ar = true then (some false) else (if a1_0 ≥ a2_1 then (some (decide (a1_0 ≤ a2_2))) else (some false))) = some r := H
  have A5 := zK A50; clear A50
  by_cases c6 : ar = true
  ·subst c6
   have H1 : (some false) = some r := by rw [if_pos rfl] at H; exact H
   clear H; have H := H1; clear H1; obtain rfl := Option.some.inj H
   go_enter Try.func81, Try.ntmps81
   go_wp2_with (first | ((with_reducible refine gate_dst (N := 4) rfl ?_); refine box_event ?hg (N := 4) ?hd (cs := #[.int .i64 a1_0, .int .i64 a1_1]) (t := 89) ?hr ?_; (case hd => rfl); (case hg => rfl); (case hr => first | (go_simp; done) | (go_simp; rfl)); intro ab hg w7 hbox hb; have ah := zK (below_step (zb HB) hb); have ai := zK (hbox); have aj := zK ((by rw [hg]; exact (below_size (zb HB)) : w.heap.size ≤ ab)); have al := zK ((by rw [hg]; exact (below_size (zb HB)) : w.heap.size ≤ ab)); clear HB; have HB := ah; have aa := ai; have am := aj; have ae := al; clear ah ai aj al; clear hb hbox hg) | ((with_reducible refine gate_dst (N := 5) rfl ?_); refine box_event ?hg (N := 5) ?hd (cs := #[.int .i64 a2_0, .int .i64 a2_1, .int .i64 a2_2]) (t := 52) ?hr ?_; (case hd => rfl); (case hg => rfl); (case hr => first | (go_simp; done) | (go_simp; rfl)); intro ad hg w8 hbox hb; have ah := zK (blk_below (g := ab) (o := .cells #[.int .i64 a1_0, .int .i64 a1_1] 89 (0, 0)) (zk aa) hb); have ai := zK (below_step (zb HB) hb); have aj := zK (hbox); have al := zK ((by rw [hg]; exact (below_size (zb HB)) : w.heap.size ≤ ad)); have an := zK ((by rw [hg]; exact (below_size (zb HB)) : w.heap.size ≤ ad)); have ao := zK ((by rw [hg]; exact Nat.ne_of_lt (blk_lt (g := ab) (o := .cells #[.int .i64 a1_0, .int .i64 a1_1] 89 (0, 0)) (zk aa)) : ab ≠ ad)); have ap := zK ((by rw [hg]; exact Nat.ne_of_gt (blk_lt (g := ab) (o := .cells #[.int .i64 a1_0, .int .i64 a1_1] 89 (0, 0)) (zk aa)) : ad ≠ ab)); clear aa; clear HB; have aa := ah; have HB := ai; have ac := aj; have aq := al; have ak := an; have af := ao; have ag := ap; clear ah ai aj al an ao ap; clear hb hbox hg; have hnb9 := af.out; have hnc9 := ag.out; have hcz10_0 : w8.cell? ⟨ab, 0, none⟩ = some (.int .i64 a1_0) := (blk_cell aa.out 0).trans rfl; have hcz10_1 : w8.cell? ⟨ab, 1, none⟩ = some (.int .i64 a1_1) := (blk_cell aa.out 1).trans rfl; have hfz10_0 := blk_frozen aa.out 0; have hfz10_1 := blk_frozen aa.out 1; have hcz11_0 : w8.cell? ⟨ad, 0, none⟩ = some (.int .i64 a2_0) := (blk_cell ac.out 0).trans rfl; have hcz11_1 : w8.cell? ⟨ad, 1, none⟩ = some (.int .i64 a2_1) := (blk_cell ac.out 1).trans rfl; have hcz11_2 : w8.cell? ⟨ad, 2, none⟩ = some (.int .i64 a2_2) := (blk_cell ac.out 2).trans rfl; have hfz11_0 := blk_frozen ac.out 0; have hfz11_1 := blk_frozen ac.out 1; have hfz11_2 := blk_frozen ac.out 2) | (go_at_call 79; (with_reducible refine (impl_isNamed.calls _ _ l0 a2_0 true _ ?side1 ?side2 A5.out).mono ?_); (case side1 => repeat (first | exact (Kd.C_below HR0.out HB.out) | (with_reducible refine Kd.C_alloc ?_ _) | (with_reducible refine Kd.C_drewN ?_ _) | (with_reducible refine Kd.C_drew ?_))); (case side2 => exact HC0.out); rintro e w12 ⟨rfl, hb⟩; have ah := zK (blk_below (g := ab) (o := .cells #[.int .i64 a1_0, .int .i64 a1_1] 89 (0, 0)) (zk aa) hb); have ai := zK (blk_below (g := ad) (o := .cells #[.int .i64 a2_0, .int .i64 a2_1, .int .i64 a2_2] 52 (0, 0)) (zk ac) hb); have aj := zK (below_step (zb HB) hb); clear aa; clear ac; clear HB; have aa := ah; have ac := ai; have HB := aj; clear ah ai aj; (try clear hb)))
   go_ret
   exact ⟨by first | rfl | (simp [errW_none, errW_some] <;> rfl) | (simp [*, errW_none, errW_some] <;> rfl), by repeat (first | (with_reducible first | exact HB.out | apply zB | apply zC | apply zE | refine zS ?_ ae.out | refine zS ?_ ak.out) | exact HB.out)⟩
  ·replace c6 := Bool.eq_false_iff.mpr c6
   subst c6
   have H1 : (if a1_0 ≥ a2_1 then (some (decide (a1_0 ≤ a2_2))) else (some false)) = some r := by rw [if_neg (show ¬ (false = true) by decide)] at H; exact H
   clear H; have H := H1; clear H1
   by_cases au : a1_0 ≥ a2_1
   ·rw [if_pos au] at H
    have av : decide (a2_1 ≤ a1_0) = true := decide_eq_true au
    clear au; obtain rfl := Option.some.inj H
    go_enter Try.func81, Try.ntmps81
    go_wp2_with (first | ((with_reducible refine gate_dst (N := 4) rfl ?_); refine box_event ?hg (N := 4) ?hd (cs := #[.int .i64 a1_0, .int .i64 a1_1]) (t := 89) ?hr ?_; (case hd => rfl); (case hg => rfl); (case hr => first | (go_simp; done) | (go_simp; rfl)); intro ab hg w14 hbox hb; have ah := zK (below_step (zb HB) hb); have ai := zK (hbox); have aj := zK ((by rw [hg]; exact (below_size (zb HB)) : w.heap.size ≤ ab)); have al := zK ((by rw [hg]; exact (below_size (zb HB)) : w.heap.size ≤ ab)); clear HB; have HB := ah; have aa := ai; have am := aj; have ae := al; clear ah ai aj al; clear hb hbox hg) | ((with_reducible refine gate_dst (N := 5) rfl ?_); refine box_event ?hg (N := 5) ?hd (cs := #[.int .i64 a2_0, .int .i64 a2_1, .int .i64 a2_2]) (t := 52) ?hr ?_; (case hd => rfl); (case hg => rfl); (case hr => first | (go_simp; done) | (go_simp; rfl)); intro ad hg aw hbox hb; have ah := zK (blk_below (g := ab) (o := .cells #[.int .i64 a1_0, .int .i64 a1_1] 89 (0, 0)) (zk aa) hb); have ai := zK (below_step (zb HB) hb); have aj := zK (hbox); have al := zK ((by rw [hg]; exact (below_size (zb HB)) : w.heap.size ≤ ad)); have an := zK ((by rw [hg]; exact (below_size (zb HB)) : w.heap.size ≤ ad)); have ao := zK ((by rw [hg]; exact Nat.ne_of_lt (blk_lt (g := ab) (o := .cells #[.int .i64 a1_0, .int .i64 a1_1] 89 (0, 0)) (zk aa)) : ab ≠ ad)); have ap := zK ((by rw [hg]; exact Nat.ne_of_gt (blk_lt (g := ab) (o := .cells #[.int .i64 a1_0, .int .i64 a1_1] 89 (0, 0)) (zk aa)) : ad ≠ ab)); clear aa; clear HB; have aa := ah; have HB := ai; have ac := aj; have aq := al; have ak := an; have af := ao; have ag := ap; clear ah ai aj al an ao ap; clear hb hbox hg; have hnb16 := af.out; have hnc16 := ag.out; have hcz17_0 : aw.cell? ⟨ab, 0, none⟩ = some (.int .i64 a1_0) := (blk_cell aa.out 0).trans rfl; have hcz17_1 : aw.cell? ⟨ab, 1, none⟩ = some (.int .i64 a1_1) := (blk_cell aa.out 1).trans rfl; have hfz17_0 := blk_frozen aa.out 0; have hfz17_1 := blk_frozen aa.out 1; have hcz18_0 : aw.cell? ⟨ad, 0, none⟩ = some (.int .i64 a2_0) := (blk_cell ac.out 0).trans rfl; have hcz18_1 : aw.cell? ⟨ad, 1, none⟩ = some (.int .i64 a2_1) := (blk_cell ac.out 1).trans rfl; have hcz18_2 : aw.cell? ⟨ad, 2, none⟩ = some (.int .i64 a2_2) := (blk_cell ac.out 2).trans rfl; have hfz18_0 := blk_frozen ac.out 0; have hfz18_1 := blk_frozen ac.out 1; have hfz18_2 := blk_frozen ac.out 2) | (go_at_call 79; (with_reducible refine (impl_isNamed.calls _ _ l0 a2_0 false _ ?side1 ?side2 A5.out).mono ?_); (case side1 => repeat (first | exact (Kd.C_below HR0.out HB.out) | (with_reducible refine Kd.C_alloc ?_ _) | (with_reducible refine Kd.C_drewN ?_ _) | (with_reducible refine Kd.C_drew ?_))); (case side2 => exact HC0.out); rintro e ax ⟨rfl, hb⟩; have ah := zK (blk_below (g := ab) (o := .cells #[.int .i64 a1_0, .int .i64 a1_1] 89 (0, 0)) (zk aa) hb); have ai := zK (blk_below (g := ad) (o := .cells #[.int .i64 a2_0, .int .i64 a2_1, .int .i64 a2_2] 52 (0, 0)) (zk ac) hb); have aj := zK (below_step (zb HB) hb); clear aa; clear ac; clear HB; have aa := ah; have ac := ai; have HB := aj; clear ah ai aj; (try clear hb); have hcz20_0 : ax.cell? ⟨ab, 0, none⟩ = some (.int .i64 a1_0) := (blk_cell aa.out 0).trans rfl; have hcz20_1 : ax.cell? ⟨ab, 1, none⟩ = some (.int .i64 a1_1) := (blk_cell aa.out 1).trans rfl; have hfz20_0 := blk_frozen aa.out 0; have hfz20_1 := blk_frozen aa.out 1; have hcz21_0 : ax.cell? ⟨ad, 0, none⟩ = some (.int .i64 a2_0) := (blk_cell ac.out 0).trans rfl; have hcz21_1 : ax.cell? ⟨ad, 1, none⟩ = some (.int .i64 a2_1) := (blk_cell ac.out 1).trans rfl; have hcz21_2 : ax.cell? ⟨ad, 2, none⟩ = some (.int .i64 a2_2) := (blk_cell ac.out 2).trans rfl; have hfz21_0 := blk_frozen ac.out 0; have hfz21_1 := blk_frozen ac.out 1; have hfz21_2 := blk_frozen ac.out 2))
    go_ret
    exact ⟨by first | rfl | (simp [errW_none, errW_some] <;> rfl) | (simp [*, errW_none, errW_some] <;> rfl), by repeat (first | (with_reducible first | exact HB.out | apply zB | apply zC | apply zE | refine zS ?_ ae.out | refine zS ?_ ak.out) | exact HB.out)⟩
   ·rw [if_neg au] at H
    have av : decide (a2_1 ≤ a1_0) = false := decide_eq_false au
    clear au; obtain rfl := Option.some.inj H
    go_enter Try.func81, Try.ntmps81
    go_wp2_with (first | ((with_reducible refine gate_dst (N := 4) rfl ?_); refine box_event ?hg (N := 4) ?hd (cs := #[.int .i64 a1_0, .int .i64 a1_1]) (t := 89) ?hr ?_; (case hd => rfl); (case hg => rfl); (case hr => first | (go_simp; done) | (go_simp; rfl)); intro ab hg w22 hbox hb; have ah := zK (below_step (zb HB) hb); have ai := zK (hbox); have aj := zK ((by rw [hg]; exact (below_size (zb HB)) : w.heap.size ≤ ab)); have al := zK ((by rw [hg]; exact (below_size (zb HB)) : w.heap.size ≤ ab)); clear HB; have HB := ah; have aa := ai; have am := aj; have ae := al; clear ah ai aj al; clear hb hbox hg) | ((with_reducible refine gate_dst (N := 5) rfl ?_); refine box_event ?hg (N := 5) ?hd (cs := #[.int .i64 a2_0, .int .i64 a2_1, .int .i64 a2_2]) (t := 52) ?hr ?_; (case hd => rfl); (case hg => rfl); (case hr => first | (go_simp; done) | (go_simp; rfl)); intro ad hg ay hbox hb; have ah := zK (blk_below (g := ab) (o := .cells #[.int .i64 a1_0, .int .i64 a1_1] 89 (0, 0)) (zk aa) hb); have ai := zK (below_step (zb HB) hb); have aj := zK (hbox); have al := zK ((by rw [hg]; exact (below_size (zb HB)) : w.heap.size ≤ ad)); have an := zK ((by rw [hg]; exact (below_size (zb HB)) : w.heap.size ≤ ad)); have ao := zK ((by rw [hg]; exact Nat.ne_of_lt (blk_lt (g := ab) (o := .cells #[.int .i64 a1_0, .int .i64 a1_1] 89 (0, 0)) (zk aa)) : ab ≠ ad)); have ap := zK ((by rw [hg]; exact Nat.ne_of_gt (blk_lt (g := ab) (o := .cells #[.int .i64 a1_0, .int .i64 a1_1] 89 (0, 0)) (zk aa)) : ad ≠ ab)); clear aa; clear HB; have aa := ah; have HB := ai; have ac := aj; have aq := al; have ak := an; have af := ao; have ag := ap; clear ah ai aj al an ao ap; clear hb hbox hg; have hnb24 := af.out; have hnc24 := ag.out; have hcz25_0 : ay.cell? ⟨ab, 0, none⟩ = some (.int .i64 a1_0) := (blk_cell aa.out 0).trans rfl; have hcz25_1 : ay.cell? ⟨ab, 1, none⟩ = some (.int .i64 a1_1) := (blk_cell aa.out 1).trans rfl; have hfz25_0 := blk_frozen aa.out 0; have hfz25_1 := blk_frozen aa.out 1; have hcz26_0 : ay.cell? ⟨ad, 0, none⟩ = some (.int .i64 a2_0) := (blk_cell ac.out 0).trans rfl; have hcz26_1 : ay.cell? ⟨ad, 1, none⟩ = some (.int .i64 a2_1) := (blk_cell ac.out 1).trans rfl; have hcz26_2 : ay.cell? ⟨ad, 2, none⟩ = some (.int .i64 a2_2) := (blk_cell ac.out 2).trans rfl; have hfz26_0 := blk_frozen ac.out 0; have hfz26_1 := blk_frozen ac.out 1; have hfz26_2 := blk_frozen ac.out 2) | (go_at_call 79; (with_reducible refine (impl_isNamed.calls _ _ l0 a2_0 false _ ?side1 ?side2 A5.out).mono ?_); (case side1 => repeat (first | exact (Kd.C_below HR0.out HB.out) | (with_reducible refine Kd.C_alloc ?_ _) | (with_reducible refine Kd.C_drewN ?_ _) | (with_reducible refine Kd.C_drew ?_))); (case side2 => exact HC0.out); rintro e az ⟨rfl, hb⟩; have ah := zK (blk_below (g := ab) (o := .cells #[.int .i64 a1_0, .int .i64 a1_1] 89 (0, 0)) (zk aa) hb); have ai := zK (blk_below (g := ad) (o := .cells #[.int .i64 a2_0, .int .i64 a2_1, .int .i64 a2_2] 52 (0, 0)) (zk ac) hb); have aj := zK (below_step (zb HB) hb); clear aa; clear ac; clear HB; have aa := ah; have ac := ai; have HB := aj; clear ah ai aj; (try clear hb); have hcz28_0 : az.cell? ⟨ab, 0, none⟩ = some (.int .i64 a1_0) := (blk_cell aa.out 0).trans rfl; have hcz28_1 : az.cell? ⟨ab, 1, none⟩ = some (.int .i64 a1_1) := (blk_cell aa.out 1).trans rfl; have hfz28_0 := blk_frozen aa.out 0; have hfz28_1 := blk_frozen aa.out 1; have hcz29_0 : az.cell? ⟨ad, 0, none⟩ = some (.int .i64 a2_0) := (blk_cell ac.out 0).trans rfl; have hcz29_1 : az.cell? ⟨ad, 1, none⟩ = some (.int .i64 a2_1) := (blk_cell ac.out 1).trans rfl; have hcz29_2 : az.cell? ⟨ad, 2, none⟩ = some (.int .i64 a2_2) := (blk_cell ac.out 2).trans rfl; have hfz29_0 := blk_frozen ac.out 0; have hfz29_1 := blk_frozen ac.out 1; have hfz29_2 := blk_frozen ac.out 2))
    go_ret
    exact ⟨by first | rfl | (simp [errW_none, errW_some] <;> rfl) | (simp [*, errW_none, errW_some] <;> rfl), by repeat (first | (with_reducible first | exact HB.out | apply zB | apply zC | apply zE | refine zS ?_ ae.out | refine zS ?_ ak.out) | exact HB.out)⟩
 ·rw [if_neg c4] at H
  have c4b0 : (a1_1 == 0) = false := beq_eq_false_iff_ne.mpr c4
  have c4b1 : (a1_1 != 0) = true := bne_iff_ne.mpr c4
  obtain rfl := Option.some.inj H
  go_enter Try.func81, Try.ntmps81
  go_wp2_with (first | ((with_reducible refine gate_dst (N := 4) rfl ?_); refine box_event ?hg (N := 4) ?hd (cs := #[.int .i64 a1_0, .int .i64 a1_1]) (t := 89) ?hr ?_; (case hd => rfl); (case hg => rfl); (case hr => first | (go_simp; done) | (go_simp; rfl)); intro ab hg w30 hbox hb; have ah := zK (below_step (zb HB) hb); have ai := zK (hbox); have aj := zK ((by rw [hg]; exact (below_size (zb HB)) : w.heap.size ≤ ab)); have al := zK ((by rw [hg]; exact (below_size (zb HB)) : w.heap.size ≤ ab)); clear HB; have HB := ah; have aa := ai; have am := aj; have ae := al; clear ah ai aj al; clear hb hbox hg) | ((with_reducible refine gate_dst (N := 5) rfl ?_); refine box_event ?hg (N := 5) ?hd (cs := #[.int .i64 a2_0, .int .i64 a2_1, .int .i64 a2_2]) (t := 52) ?hr ?_; (case hd => rfl); (case hg => rfl); (case hr => first | (go_simp; done) | (go_simp; rfl)); intro ad hg w31 hbox hb; have ah := zK (blk_below (g := ab) (o := .cells #[.int .i64 a1_0, .int .i64 a1_1] 89 (0, 0)) (zk aa) hb); have ai := zK (below_step (zb HB) hb); have aj := zK (hbox); have al := zK ((by rw [hg]; exact (below_size (zb HB)) : w.heap.size ≤ ad)); have an := zK ((by rw [hg]; exact (below_size (zb HB)) : w.heap.size ≤ ad)); have ao := zK ((by rw [hg]; exact Nat.ne_of_lt (blk_lt (g := ab) (o := .cells #[.int .i64 a1_0, .int .i64 a1_1] 89 (0, 0)) (zk aa)) : ab ≠ ad)); have ap := zK ((by rw [hg]; exact Nat.ne_of_gt (blk_lt (g := ab) (o := .cells #[.int .i64 a1_0, .int .i64 a1_1] 89 (0, 0)) (zk aa)) : ad ≠ ab)); clear aa; clear HB; have aa := ah; have HB := ai; have ac := aj; have aq := al; have ak := an; have af := ao; have ag := ap; clear ah ai aj al an ao ap; clear hb hbox hg; have hnb32 := af.out; have hnc32 := ag.out; have hcz33_0 : w31.cell? ⟨ab, 0, none⟩ = some (.int .i64 a1_0) := (blk_cell aa.out 0).trans rfl; have hcz33_1 : w31.cell? ⟨ab, 1, none⟩ = some (.int .i64 a1_1) := (blk_cell aa.out 1).trans rfl; have hfz33_0 := blk_frozen aa.out 0; have hfz33_1 := blk_frozen aa.out 1))
  go_ret
  exact ⟨by first | rfl | (simp [errW_none, errW_some] <;> rfl) | (simp [*, errW_none, errW_some] <;> rfl), by repeat (first | (with_reducible first | exact HB.out | apply zB | apply zC | apply zE | refine zS ?_ ae.out | refine zS ?_ ak.out) | exact HB.out)⟩
mutual
def spec_ExpectOk.l0 : Nat → List (S52) → Int → Option (Bool)
 | 0, _, _ => none
 | k + 1, x0, x3 => if x3 < (x0.length : Int) then (if 0 ≤ x3 then (if ((rd_T52 x0 x3).f0) < 1 then (spec_ExpectOk.j1 k x0 x3 true) else (if ((rd_T52 x0 x3).f1) < 0 then (spec_ExpectOk.j1 k x0 x3 true) else (if ((rd_T52 x0 x3).f2) < ((rd_T52 x0 x3).f1) then (spec_ExpectOk.j1 k x0 x3 true) else (spec_ExpectOk.j1 k x0 x3 (decide (((rd_T52 x0 x3).f2) > 100000)))))) else (none)) else (some true)
def spec_ExpectOk.j1 : Nat → List (S52) → Int → Bool → Option (Bool)
 | 0, _, _, _ => none
 | k + 1, x0, x3, x48 => if x48 = true then (some false) else (spec_ExpectOk.l1 k x0 x3 0)
def spec_ExpectOk.l1 : Nat → List (S52) → Int → Int → Option (Bool)
 | 0, _, _, _ => none
 | k + 1, x0, x3, x4 => if x4 < x3 then (if 0 ≤ x4 then (if x4 < (x0.length : Int) then (if 0 ≤ x3 then (if x3 < (x0.length : Int) then (if ((rd_T52 x0 x4).f0) = ((rd_T52 x0 x3).f0) then (some false) else (spec_ExpectOk.l1 k x0 x3 (wrap64 (x4 + 1)))) else (none)) else (none)) else (none)) else (none)) else (spec_ExpectOk.l0 k x0 (wrap64 (x3 + 1)))
end
def spec_ExpectOk.f (k : Nat) (l0 : List (S52)) : Option (Bool) := if (l0.length : Int) > 6 then (some false) else (spec_ExpectOk.l0 k l0 0)
set_option maxHeartbeats 8000000 in
set_option maxRecDepth 100000 in
theorem spec_ExpectOk.calls (k : Nat) (A0 : Option Addr) (c0 : Nat) (l0 : List (S52)) (r : Bool) (w : World) (hr0 : Kd.C k52 w A0 l0.length l0) (hc0 : l0.length ≤ c0) (h : spec_ExpectOk.f k l0 = some r) :
  Calls Try.prog 37 #[.slice A0 l0.length c0] w fun e w' => e = .returned (.bool r) ∧ Drawn0 w w' := by
 have aA := zK hr0; have HC0 := zK hc0; clear hr0 hc0
 have H : (if (l0.length : Int) > 6 then (some false) else (spec_ExpectOk.l0 k l0 0)) = some r := h
 clear h
 by_cases c2 : (l0.length : Int) > 6
 ·rw [if_pos c2] at H
  have aR : decide (6 < (l0.length : Int)) = true := decide_eq_true c2
  have aS : decide (6 < l0.length) = true := decide_eq_true (by omega)
  clear c2; obtain rfl := Option.some.inj H
  go_enter Try.func37, Try.ntmps37
  go_wp2
  repeat (go_quiet (fail); try go_wp2)
  go_ret
  exact ⟨by first | rfl | (simp; done) | (simp [*]; done), by repeat (first | exact Drawn0.refl _ | apply Drawn0.step)⟩
 ·rw [if_neg c2] at H
  have aR : decide (6 < (l0.length : Int)) = false := decide_eq_false c2
  have aS : decide (6 < l0.length) = false := decide_eq_false (by omega)
  clear c2; have H' := zK H; clear H
  go_enter Try.func37, Try.ntmps37
  go_wp2
  repeat (go_quiet (fail); try go_wp2)
  go_loopg [3] k (fun kq v3 w' => ∃ (aa : Int), v3 = .int .i64 aa ∧ Aside0 (spec_ExpectOk.l0 kq l0 aa = some r) ∧ Aside0 (kq ≤ k) ∧ Drawn0 w w')
  case atStart => exact ⟨(0), (by first | rfl | (simp; done) | (simp [*]; done)), H', ⟨Nat.le_refl _⟩, by repeat (first | exact Drawn0.refl _ | apply Drawn0.step)⟩
  case round =>
   clear H'
   try clear c2
   try clear aR
   try clear aS
   try clear p2
   obtain ⟨aa, rfl, HA, a0, ⟨m1, rfl⟩⟩ := hrel
   cases gk with
   | zero => exact absurd HA.out (by simp [spec_ExpectOk.l0])
   | succ k1 =>
    have H := HA.out; clear HA
    simp only [spec_ExpectOk.l0] at H
    by_cases c3 : aa < (l0.length : Int)
    ·rw [if_pos c3] at H
     have a1 : decide (aa < (l0.length : Int)) = true := decide_eq_true c3
     clear c3; have HC4 := zK H; clear H
     go_upto_region 6 with (fail)
     repeat (go_quiet (fail); go_upto_region 6 with (fail))
     go_cut [48] (fun v48 wc => ∃ (kq : Nat) (aG : Bool), v48 = .bool aG ∧ Aside0 (spec_ExpectOk.j1 kq l0 aa aG = some r) ∧ Aside0 (kq ≤ k1) ∧ Drawn0 w wc)
     case first =>
      have H := HC4.out; clear HC4
      by_cases c5 : 0 ≤ aa
      ·rw [if_pos c5] at H
       have aT : decide (0 ≤ aa) = true := decide_eq_true c5
       clear c5
       (first | rw [aT] | (simp only [i64_w, i32_w]; rw [aT]) | skip)
       by_cases c6 : ((rd_T52 l0 aa).f0) < 1
       ·rw [if_pos c6] at H
        have a2 : decide (((rd_T52 l0 aa).f0) < 1) = true := decide_eq_true c6
        clear c6; have H' := zK H; clear H
        have ac : 0 ≤ (aa : Int) := of_decide_eq_true (by first | (with_reducible assumption) | assumption)
        have ad : aa < (l0.length : Int) := of_decide_eq_true (by first | (with_reducible assumption) | assumption)
        obtain ⟨ae, aB, af, ag, ah⟩ := at_T52 aA.out aa ac ad
        cases aB
        replace ac := eq_true ac; replace ad := eq_true ad
        go_wp2
        repeat (go_quiet (fail); try go_wp2)
        go_meet
        case rel => exact ⟨_, (true), (by first | rfl | (simp; done) | (simp [*]; done)), H', ⟨by have := a0.out; first | omega | exact Nat.le_refl _⟩, by repeat (first | exact Drawn0.refl _ | apply Drawn0.step)⟩
       ·rw [if_neg c6] at H
        have a2 : decide (((rd_T52 l0 aa).f0) < 1) = false := decide_eq_false c6
        clear c6
        by_cases c7 : ((rd_T52 l0 aa).f1) < 0
        ·rw [if_pos c7] at H
         have a3 : decide (((rd_T52 l0 aa).f1) < 0) = true := decide_eq_true c7
         clear c7; have H' := zK H; clear H
         have ac : 0 ≤ (aa : Int) := of_decide_eq_true (by first | (with_reducible assumption) | assumption)
         have ad : aa < (l0.length : Int) := of_decide_eq_true (by first | (with_reducible assumption) | assumption)
         obtain ⟨ae, aB, af, ag, ah⟩ := at_T52 aA.out aa ac ad
         cases aB
         replace ac := eq_true ac; replace ad := eq_true ad
         have ai : 0 ≤ (aa : Int) := of_decide_eq_true (by first | (with_reducible assumption) | assumption)
         have aj : aa < (l0.length : Int) := of_decide_eq_true (by first | (with_reducible assumption) | assumption)
         obtain ⟨az, aK, ak, al, am⟩ := at_T52 aA.out aa ai aj
         obtain rfl : ae = az := (by injection aK)
         replace ai := eq_true ai; replace aj := eq_true aj
         go_wp2
         repeat (go_quiet (fail); try go_wp2)
         go_meet
         case rel => exact ⟨_, (true), (by first | rfl | (simp; done) | (simp [*]; done)), H', ⟨by have := a0.out; first | omega | exact Nat.le_refl _⟩, by repeat (first | exact Drawn0.refl _ | apply Drawn0.step)⟩
        ·rw [if_neg c7] at H
         have a3 : decide (((rd_T52 l0 aa).f1) < 0) = false := decide_eq_false c7
         clear c7
         by_cases c8 : ((rd_T52 l0 aa).f2) < ((rd_T52 l0 aa).f1)
         ·rw [if_pos c8] at H
          have a4 : decide (((rd_T52 l0 aa).f2) < ((rd_T52 l0 aa).f1)) = true := decide_eq_true c8
          clear c8; have H' := zK H; clear H
          have ac : 0 ≤ (aa : Int) := of_decide_eq_true (by first | (with_reducible assumption) | assumption)
          have ad : aa < (l0.length : Int) := of_decide_eq_true (by first | (with_reducible assumption) | assumption)
          obtain ⟨ae, aB, af, ag, ah⟩ := at_T52 aA.out aa ac ad
          cases aB
          replace ac := eq_true ac; replace ad := eq_true ad
          have ai : 0 ≤ (aa : Int) := of_decide_eq_true (by first | (with_reducible assumption) | assumption)
          have aj : aa < (l0.length : Int) := of_decide_eq_true (by first | (with_reducible assumption) | assumption)
          obtain ⟨az, aK, ak, al, am⟩ := at_T52 aA.out aa ai aj
          obtain rfl : ae = az := (by injection aK)
          replace ai := eq_true ai; replace aj := eq_true aj
          have an : 0 ≤ (aa : Int) := of_decide_eq_true (by first | (with_reducible assumption) | assumption)
          have ao : aa < (l0.length : Int) := of_decide_eq_true (by first | (with_reducible assumption) | assumption)
          obtain ⟨aL, a5, ap, aq, ar⟩ := at_T52 aA.out aa an ao
          obtain rfl : ae = aL := (by injection a5)
          replace an := eq_true an; replace ao := eq_true ao
          have au : 0 ≤ (aa : Int) := of_decide_eq_true (by first | (with_reducible assumption) | assumption)
          have av : aa < (l0.length : Int) := of_decide_eq_true (by first | (with_reducible assumption) | assumption)
          obtain ⟨aM, a6, aw, ax, ay⟩ := at_T52 aA.out aa au av
          obtain rfl : ae = aM := (by injection a6)
          replace au := eq_true au; replace av := eq_true av
          go_wp2
          repeat (go_quiet (fail); try go_wp2)
          go_meet
          case rel => exact ⟨_, (true), (by first | rfl | (simp; done) | (simp [*]; done)), H', ⟨by have := a0.out; first | omega | exact Nat.le_refl _⟩, by repeat (first | exact Drawn0.refl _ | apply Drawn0.step)⟩
         ·rw [if_neg c8] at H
          have a4 : decide (((rd_T52 l0 aa).f2) < ((rd_T52 l0 aa).f1)) = false := decide_eq_false c8
          clear c8; have H' := zK H; clear H
          have ac : 0 ≤ (aa : Int) := of_decide_eq_true (by first | (with_reducible assumption) | assumption)
          have ad : aa < (l0.length : Int) := of_decide_eq_true (by first | (with_reducible assumption) | assumption)
          obtain ⟨ae, aB, af, ag, ah⟩ := at_T52 aA.out aa ac ad
          cases aB
          replace ac := eq_true ac; replace ad := eq_true ad
          have ai : 0 ≤ (aa : Int) := of_decide_eq_true (by first | (with_reducible assumption) | assumption)
          have aj : aa < (l0.length : Int) := of_decide_eq_true (by first | (with_reducible assumption) | assumption)
          obtain ⟨az, aK, ak, al, am⟩ := at_T52 aA.out aa ai aj
          obtain rfl : ae = az := (by injection aK)
          replace ai := eq_true ai; replace aj := eq_true aj
          have an : 0 ≤ (aa : Int) := of_decide_eq_true (by first | (with_reducible assumption) | assumption)
          have ao : aa < (l0.length : Int) := of_decide_eq_true (by first | (with_reducible assumption) | assumption)
          obtain ⟨aL, a5, ap, aq, ar⟩ := at_T52 aA.out aa an ao
          obtain rfl : ae = aL := (by injection a5)
          replace an := eq_true an; replace ao := eq_true ao
          have au : 0 ≤ (aa : Int) := of_decide_eq_true (by first | (with_reducible assumption) | assumption)
          have av : aa < (l0.length : Int) := of_decide_eq_true (by first | (with_reducible assumption) | assumption)
          obtain ⟨aM, a6, aw, ax, ay⟩ := at_T52 aA.out aa au av
          obtain rfl : ae = aM := (by injection a6)
          replace au := eq_true au; replace av := eq_true av
          have aN : 0 ≤ (aa : Int) := of_decide_eq_true (by first | (with_reducible assumption) | assumption)
          have aO : aa < (l0.length : Int) := of_decide_eq_true (by first | (with_reducible assumption) | assumption)
          obtain ⟨ba, e643, aH, aI, aJ⟩ := at_T52 aA.out aa aN aO
          obtain rfl : ae = ba := (by injection e643)
          replace aN := eq_true aN; replace aO := eq_true aO
          go_wp2
          repeat (go_quiet (fail); try go_wp2)
          go_meet
          case rel => exact ⟨_, (decide (((rd_T52 l0 aa).f2) > 100000)), (by first | rfl | (simp; done) | (simp [*]; done)), H', ⟨by have := a0.out; first | omega | exact Nat.le_refl _⟩, by repeat (first | exact Drawn0.refl _ | apply Drawn0.step)⟩
      ·rw [if_neg c5] at H
       exact absurd H (by simp)
     case rest =>
      clear HC4
      try clear c2
      try clear aR
      try clear aS
      try clear p2
      try clear c3
      try clear a1
      try clear c5
      try clear aT
      try clear c6
      try clear a2
      try clear p6
      try clear q6
      try clear hx6
      try clear c7
      try clear a3
      try clear c8
      try clear a4
      try clear af
      try clear ag
      try clear ah
      try clear ak
      try clear al
      try clear am
      try clear ap
      try clear aq
      try clear ar
      try clear aw
      try clear ax
      try clear ay
      try clear aH
      try clear aI
      try clear aJ
      try clear p2
      try clear ac
      try clear ai
      try clear an
      try clear au
      try clear aN
      try clear ad
      try clear aj
      try clear ao
      try clear av
      try clear aO
      obtain ⟨kq, aG, rfl, HA, HJ3, ⟨mc3, rfl⟩⟩ := hcut
      cases kq with
      | zero => exact absurd HA.out (by simp [spec_ExpectOk.j1])
      | succ kj3 =>
       have H := HA.out; clear HA
       simp only [spec_ExpectOk.j1] at H
       by_cases c9 : aG = true
       ·subst c9
        have H1 : (some false) = some r := by rw [if_pos rfl] at H; exact H
        clear H; have H := H1; clear H1; obtain rfl := Option.some.inj H
        go_wp2
        repeat (go_quiet (fail); try go_wp2)
        go_ret
        exact ⟨by first | rfl | (simp; done) | (simp [*]; done), by repeat (first | exact Drawn0.refl _ | apply Drawn0.step)⟩
       ·replace c9 := Bool.eq_false_iff.mpr c9
        subst c9
        have H1 : (spec_ExpectOk.l1 kj3 l0 aa 0) = some r := by rw [if_neg (show ¬ (false = true) by decide)] at H; exact H
        clear H; have H := H1; clear H1; have H' := zK H; clear H
        go_wp2
        repeat (go_quiet (fail); try go_wp2)
        go_loopg [4] kj3 (fun kq v4 w' => ∃ (ab : Int), v4 = .int .i64 ab ∧ Aside0 (spec_ExpectOk.l1 kq l0 aa ab = some r) ∧ Aside0 (kq ≤ kj3) ∧ Drawn0 w w')
        case atStart => exact ⟨(0), (by first | rfl | (simp; done) | (simp [*]; done)), H', ⟨Nat.le_refl _⟩, by repeat (first | exact Drawn0.refl _ | apply Drawn0.step)⟩
        case round =>
         clear H'
         try clear c2
         try clear aR
         try clear aS
         try clear p2
         try clear c3
         try clear a1
         try clear c5
         try clear aT
         try clear c6
         try clear a2
         try clear p6
         try clear q6
         try clear hx6
         try clear c7
         try clear a3
         try clear c8
         try clear a4
         try clear c9
         try clear af
         try clear ag
         try clear ah
         try clear ak
         try clear al
         try clear am
         try clear ap
         try clear aq
         try clear ar
         try clear aw
         try clear ax
         try clear ay
         try clear aH
         try clear aI
         try clear aJ
         try clear p2
         try clear p6
         try clear ac
         try clear ai
         try clear an
         try clear au
         try clear aN
         try clear q6
         try clear ad
         try clear aj
         try clear ao
         try clear av
         try clear aO
         obtain ⟨ab, rfl, HA, HK3, ⟨m3, rfl⟩⟩ := hrel
         cases gk with
         | zero => exact absurd HA.out (by simp [spec_ExpectOk.l1])
         | succ k3 =>
          have H := HA.out; clear HA
          simp only [spec_ExpectOk.l1] at H
          by_cases c10 : ab < aa
          ·rw [if_pos c10] at H
           have bb : decide (ab < aa) = true := decide_eq_true c10
           clear c10
           by_cases c11 : 0 ≤ ab
           ·rw [if_pos c11] at H
            have c11b0 : decide (0 ≤ ab) = true := decide_eq_true c11
            clear c11
            by_cases c12 : ab < (l0.length : Int)
            ·rw [if_pos c12] at H
             have c12b0 : decide (ab < (l0.length : Int)) = true := decide_eq_true c12
             clear c12
             by_cases c13 : 0 ≤ aa
             ·rw [if_pos c13] at H
              have c13b0 : decide (0 ≤ aa) = true := decide_eq_true c13
              clear c13
              by_cases c14 : aa < (l0.length : Int)
              ·rw [if_pos c14] at H
               have c14b0 : decide (aa < (l0.length : Int)) = true := decide_eq_true c14
               clear c14
               by_cases a7 : ((rd_T52 l0 ab).f0) = ((rd_T52 l0 aa).f0)
               ·rw [if_pos a7] at H
                have bc : (((rd_T52 l0 ab).f0) == ((rd_T52 l0 aa).f0)) = true := beq_iff_eq.mpr a7
                have bd : (((rd_T52 l0 ab).f0) != ((rd_T52 l0 aa).f0)) = false := bne_eq_false_iff_eq.mpr a7
                clear a7; obtain rfl := Option.some.inj H
                have aC : 0 ≤ (ab : Int) := of_decide_eq_true (by first | (with_reducible assumption) | assumption)
                have aD : ab < (l0.length : Int) := of_decide_eq_true (by first | (with_reducible assumption) | assumption)
                obtain ⟨aP, a8, aU, aV, aW⟩ := at_T52 aA.out ab aC aD
                cases a8
                replace aC := eq_true aC; replace aD := eq_true aD
                have aE : 0 ≤ (aa : Int) := of_decide_eq_true (by first | (with_reducible assumption) | assumption)
                have aF : aa < (l0.length : Int) := of_decide_eq_true (by first | (with_reducible assumption) | assumption)
                obtain ⟨aQ, a9, aX, aY, aZ⟩ := at_T52 aA.out aa aE aF
                obtain rfl : aP = aQ := (by injection a9)
                replace aE := eq_true aE; replace aF := eq_true aF
                go_wp2
                repeat (go_quiet (fail); try go_wp2)
                go_ret
                exact ⟨by first | rfl | (simp; done) | (simp [*]; done), by repeat (first | exact Drawn0.refl _ | apply Drawn0.step)⟩
               ·rw [if_neg a7] at H
                have bc : (((rd_T52 l0 ab).f0) == ((rd_T52 l0 aa).f0)) = false := beq_eq_false_iff_ne.mpr a7
                have bd : (((rd_T52 l0 ab).f0) != ((rd_T52 l0 aa).f0)) = true := bne_iff_ne.mpr a7
                have H' := zK H; clear H
                have aC : 0 ≤ (ab : Int) := of_decide_eq_true (by first | (with_reducible assumption) | assumption)
                have aD : ab < (l0.length : Int) := of_decide_eq_true (by first | (with_reducible assumption) | assumption)
                obtain ⟨aP, a8, aU, aV, aW⟩ := at_T52 aA.out ab aC aD
                cases a8
                replace aC := eq_true aC; replace aD := eq_true aD
                have aE : 0 ≤ (aa : Int) := of_decide_eq_true (by first | (with_reducible assumption) | assumption)
                have aF : aa < (l0.length : Int) := of_decide_eq_true (by first | (with_reducible assumption) | assumption)
                obtain ⟨aQ, a9, aX, aY, aZ⟩ := at_T52 aA.out aa aE aF
                obtain rfl : aP = aQ := (by injection a9)
                replace aE := eq_true aE; replace aF := eq_true aF
                go_wp2
                repeat (go_quiet (fail); try go_wp2)
                go_roundg k3
                case measure => have := a0.out; have := HJ3.out; have := HK3.out; omega
                case rel => exact ⟨(wrap64 (ab + 1)), (by first | rfl | (simp; done) | (simp [*]; done)), H', ⟨by have := a0.out; have := HJ3.out; have := HK3.out; omega⟩, by repeat (first | exact Drawn0.refl _ | apply Drawn0.step)⟩
              ·rw [if_neg c14] at H
               exact absurd H (by simp)
             ·rw [if_neg c13] at H
              exact absurd H (by simp)
            ·rw [if_neg c12] at H
             exact absurd H (by simp)
           ·rw [if_neg c11] at H
            exact absurd H (by simp)
          ·rw [if_neg c10] at H
           have bb : decide (ab < aa) = false := decide_eq_false c10
           clear c10; have H' := zK H; clear H
           go_wp2
           repeat (go_quiet (fail); try go_wp2)
           go_roundg k3
           case measure => have := a0.out; have := HJ3.out; have := HK3.out; omega
           case rel => exact ⟨(wrap64 (aa + 1)), (by first | rfl | (simp; done) | (simp [*]; done)), H', ⟨by have := a0.out; have := HJ3.out; have := HK3.out; omega⟩, by repeat (first | exact Drawn0.refl _ | apply Drawn0.step)⟩
    ·rw [if_neg c3] at H
     have a1 : decide (aa < (l0.length : Int)) = false := decide_eq_false c3
     clear c3; obtain rfl := Option.some.inj H
     go_wp2
     repeat (go_quiet (fail); try go_wp2)
     go_ret
     exact ⟨by first | rfl | (simp; done) | (simp [*]; done), by repeat (first | exact Drawn0.refl _ | apply Drawn0.step)⟩
end Go.Proofs.Ytdmbfmfdijgdkaa.Px
