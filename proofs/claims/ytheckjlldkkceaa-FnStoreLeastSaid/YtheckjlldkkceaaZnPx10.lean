import Derived.Test.YtheckjlldkkceaaZnPx0
import Derived.Test.YtheckjlldkkceaaZnPx3
namespace Go.Proofs.Ytheckjlldkkceaa.Px
open Go.RowKit Go.Proofs.YtheckjlldkkceaaW.PrintWords Go.Proofs.YtheckjlldkkceaaW.PrintLast Go.Proofs.YtheckjlldkkceaaW.PrintMore
attribute [local go_sem] max2_int min2_int max_two min_two max_three min_three max_four min_four   
set_option linter.unusedVariables false
set_option linter.unusedSimpArgs false
set_option maxHeartbeats 2000000 in
set_option maxRecDepth 100000 in
theorem idxF94 (g : Nat) (lb : Array Value) (eg : ∀ args w, (callFunc g args).run Try.prog w = .ok (.enter g args) w) (A : Option Addr) (c : Nat) (l : List (List (S30))) (p : (List (S30)) → Bool) (w : World)
  (hr : Kd.C (Kd.slice 30 k30) w A l.length l)
  (hp : ∀ (W : World) (x : List (S30)) (A0_ : Option Addr) (c0_ : Nat), x ∈ l → Below w.heap.size w W → x.length ≤ c0_ → Kd.C k30 W A0_ x.length x → Calls Try.prog g (#[.slice A0_ (x).length c0_] ++ lb) W fun e w' => e = .returned (.bool (p x)) ∧ Below W.heap.size W w') :
  Calls Try.prog 94 #[.slice A l.length c, .func (.func g) #[] lb] w fun e w' => e = .returned (.int .i64 (Opens.idxB p l)) ∧ Below w.heap.size w w' := by
 have hbig : l.length ≤ 9223372036854775807 := hr.2.1
 have HBIG := zK hbig; have HP := zK hp; have HR := zK hr; clear hp hr
 go_enter Try.func94, Try.ntmps94
 go_wp2
 go_loopg [5, 8] l.length (fun gg _ s8 wr => ∃ kk : Nat, kk ≤ l.length ∧ l.length - kk ≤ gg ∧ s8 = .int .i64 kk ∧ Aside0 (Below w.heap.size w wr) ∧ Aside0 (∀ j (hj : j < l.length), j < kk → p l[j] = false))
 case atStart => exact ⟨0, Nat.zero_le _, by omega, rfl, ⟨Below.refl _ w⟩, ⟨fun j _ hj => absurd hj (Nat.not_lt_zero _)⟩⟩
 case round =>
  obtain ⟨kk, hkk, hg, rfl, BW, AL⟩ := hrel
  by_cases hlt : kk < l.length
  ·have hltz : (kk : Int) < (l.length : Int) := by omega
   obtain ⟨ad, A0_, c0_, rfl, hcell0, aa, hC0⟩ := at_L2 HR.out (kk : Int) (by omega) (by omega)
   replace hcell0 := (BW.out.cell (World.block_lt_of_cell? w _ hcell0)).trans hcell0
   have hrd : rd_L2 l (kk : Int) = l[kk] := by simp [rd_L2, hlt]
   rw [Int.toNat_natCast] at hcell0
   simp only [hrd] at hcell0
   rw [hrd] at aa hC0
   have hcall := HP.out wr l[kk] _ _ (List.getElem_mem hlt) BW.out aa (Kd.C_below hC0 BW.out)
   clear aa hC0
   generalize hy : l[kk] = y at hcell0 hcall
   have B := zK hy; clear hy hrd
   have hk0 : 0 ≤ (kk : Int) := by omega
   cases hq : p y with
   | true =>
    rw [hq] at hcall
    go_wp2_with (go_at_fn g; refine hcall.mono ?_; rintro e w' ⟨rfl, hb'⟩)
    go_ret
    refine ⟨?_, below_step BW.out hb'⟩
    rw [Opens.idxB_hit p l kk hlt (by rw [B.out]; exact hq) (fun j hj => AL.out j (by omega) hj)]
    rfl
   | false =>
    rw [hq] at hcall
    go_wp2_with (go_at_fn g; refine hcall.mono ?_; rintro e w' ⟨rfl, hb'⟩)
    go_roundg (l.length - (kk + 1))
    case measure => omega
    case rel =>
     refine ⟨kk + 1, by omega, by omega, by go_num, ⟨below_step BW.out hb'⟩, ⟨fun j hj' hj => ?_⟩⟩
     by_cases e : j = kk
     ·subst e
      rw [B.out]; exact hq
     ·exact AL.out j hj' (by omega)
  ·have hltz : ¬ (kk : Int) < (l.length : Int) := by omega
   go_wp2
   go_ret
   refine ⟨?_, BW.out⟩
   rw [Opens.idxB_miss p l (fun j hj => AL.out j hj (by omega))]
   rfl
def vc_impl_laneOf_1_idx_in.p (a1_0 : Int) (x : S30) : Bool := (x.f0 == a1_0)
theorem vc_impl_laneOf_1_idx_in.clo (a1_0 : Int) (x : S30) (g0 : Nat) (w : World) (hb : w.heap[g0]? = some (.cells #[.int .i64 a1_0] 3 (0, 0))) :
  Calls Try.prog 96 #[.agg #[.int .i64 x.f0, .int .i64 x.f1], .pointer (some ⟨g0, 0, none⟩)] w fun e w' => e = .returned (.bool (vc_impl_laneOf_1_idx_in.p a1_0 x)) ∧ Below w.heap.size w w' := by
 have hc : (w.alloc (.cells #[.int .i64 x.f0, .int .i64 x.f1] 30)).cell? ⟨g0, 0, none⟩ = some (.int .i64 a1_0) := by
  rw [World.cell?_alloc_past _ _ _ (blk_lt hb)]; exact (blk_cell hb 0).trans rfl
 have hu := Try.underlying30; clear hb
 go_enter Try.func96, Try.ntmps96
 go_wp2
 go_ret
 exact ⟨rfl, (Below.refl _ _).alloc (Nat.le_refl _) _⟩
def vc_impl_laneOf_1_idx.p (a1_0 : Int) (x : List S30) : Bool := x.any (vc_impl_laneOf_1_idx_in.p a1_0)
set_option maxHeartbeats 2000000 in
set_option maxRecDepth 100000 in
theorem vc_impl_laneOf_1_idx.clo (a1_0 : Int) (x : List S30) (A0_ : Option Addr) (c0_ : Nat) (g0 : Nat) (w : World) (hb : w.heap[g0]? = some (.cells #[.int .i64 a1_0] 3 (0, 0))) (hle : x.length ≤ c0_) (hC : Kd.C k30 w A0_ x.length x) :
  Calls Try.prog 95 #[.slice A0_ x.length c0_, .pointer (some ⟨g0, 0, none⟩)] w fun e w' => e = .returned (.bool (vc_impl_laneOf_1_idx.p a1_0 x)) ∧ Below w.heap.size w w' := by
 have hmf : ∀ (fn : Fn) (first cap : Array Value) (w : World), (Instr.makeFunc fn first cap).run Try.prog w = .ok (.func fn first cap) w := fun _ _ _ _ => rfl
 have hc := cntF52 96 #[.pointer (some ⟨g0, 0, none⟩)] (enters_of Try.func96 (by kernel_rfl) rfl) A0_ c0_ x (vc_impl_laneOf_1_idx_in.p a1_0) w hC (fun W x _ hW => vc_impl_laneOf_1_idx_in.clo a1_0 x g0 W (blk_below (g := g0) hb hW))
 clear hb hC
 go_enter Try.func95, Try.ntmps95
 go_wp2_with (go_at_call 52; refine hc.mono ?_; rintro e w' ⟨rfl, hb'⟩)
 go_ret
 exact ⟨rfl, hb'⟩
def vc_impl_laneOf_1_idx.f (l0 : List (List (S30))) (a1_0 : Int) : Option (Int) := some (Opens.idxB (vc_impl_laneOf_1_idx.p a1_0) l0)
theorem vc_impl_laneOf_1_idx.calls (A0 : Option Addr) (c0 : Nat) (l0 : List (List (S30))) (a1_0 : Int) (g0 : Nat) (r : Int) (w : World) (hr0 : Kd.C (Kd.slice 30 k30) w A0 l0.length l0) (hc0 : l0.length ≤ c0) (hb0 : w.heap[g0]? = some (.cells #[.int .i64 a1_0] 3 (0, 0))) (h : vc_impl_laneOf_1_idx.f l0 a1_0 = some r) :
  Calls Try.prog 94 #[.slice A0 l0.length c0, .func (.func 95) #[] #[.pointer (some ⟨g0, 0, none⟩)]] w fun e w' => e = .returned (.int .i64 r) ∧ Below w.heap.size w w' := by
 obtain rfl := Option.some.inj h
 exact idxF94 95 #[.pointer (some ⟨g0, 0, none⟩)] (enters_of Try.func95 (by kernel_rfl) rfl) A0 c0 l0 _ w hr0 (fun W x A0_ c0_ _ hW hle hC => vc_impl_laneOf_1_idx.clo a1_0 x A0_ c0_ g0 W (blk_below (g := g0) hb0 hW) hle hC)
def impl_laneOf.f (a0_0 : Int) (l0_1 : List (List (S30))) (a1 : Int) : Option (Int) := (vc_impl_laneOf_1_idx.f l0_1 a1).bind fun t163 => (some t163)
set_option maxHeartbeats 8000000 in
set_option maxRecDepth 100000 in
theorem impl_laneOf.calls (a0_0 : Int) (ae : Option Addr) (af : Nat) (ac : List (List (S30))) (a1 : Int) (r : Int) (w : World) (al : Kd.C (Kd.slice 30 k30) w ae ac.length ac) (hc0_1 : ac.length ≤ af) (h : impl_laneOf.f a0_0 ac a1 = some r) :
  Calls Try.prog 74 #[.agg #[.int .i64 a0_0, .slice ae ac.length af], .int .i64 a1] w fun e w' => e = .returned (.int .i64 r) ∧ Below w.heap.size w w' := by
 have hu24 := Try.underlying24
 have hmf : ∀ (fn : Fn) (first cap : Array Value) (w : World), (Instr.makeFunc fn first cap).run Try.prog w = .ok (.func fn first cap) w := fun _ _ _ _ => rfl
 have aq := zK al; have ar := zK hc0_1; clear al hc0_1
 have HB := zK (Below.refl w.heap.size w)
 have H : ((vc_impl_laneOf_1_idx.f ac a1).bind fun ak => (some ak)) = some r := h
 clear h; replace H := Option.bind_eq_some_iff.mp H
 obtain ⟨ak, A30, H⟩ := H
 replace H : (some ak) = some r := H
 have A3 := zK A30; clear A30; obtain rfl := Option.some.inj H
 go_enter Try.func74, Try.ntmps74
 go_wp2_with (first | ((with_reducible refine gate_dst (N := 2) rfl ?_); refine box_event ?hg (N := 2) ?hd (cs := #[.int .i64 a0_0, .slice ae ac.length af]) (t := 24) ?hr ?_; (case hd => rfl); (case hg => rfl); (case hr => first | (go_simp; done) | (go_simp; rfl)); intro ab hg w4 hbox hb; have am := zK (below_step (zb HB) hb); have an := zK (hbox); have ao := zK ((by rw [hg]; exact (below_size (zb HB)) : w.heap.size ≤ ab)); have au := zK ((by rw [hg]; exact (below_size (zb HB)) : w.heap.size ≤ ab)); clear HB; have HB := am; have aa := an; have GW160 := ao; have ag := au; clear am an ao au; clear hb hbox hg) | ((with_reducible refine gate_dst (N := 3) rfl ?_); refine box_event ?hg (N := 3) ?hd (cs := #[.int .i64 a1]) (t := 3) ?hr ?_; (case hd => rfl); (case hg => rfl); (case hr => first | (go_simp; done) | (go_simp; rfl)); intro ad hg w5 hbox hb; have am := zK (blk_below (g := ab) (o := .cells #[.int .i64 a0_0, .slice ae ac.length af] 24 (0, 0)) (zk aa) hb); have an := zK (below_step (zb HB) hb); have ao := zK (hbox); have au := zK ((by rw [hg]; exact (below_size (zb HB)) : w.heap.size ≤ ad)); have n4_ := zK ((by rw [hg]; exact (below_size (zb HB)) : w.heap.size ≤ ad)); have n5_ := zK ((by rw [hg]; exact Nat.ne_of_lt (blk_lt (g := ab) (o := .cells #[.int .i64 a0_0, .slice ae ac.length af] 24 (0, 0)) (zk aa)) : ab ≠ ad)); have n6_ := zK ((by rw [hg]; exact Nat.ne_of_gt (blk_lt (g := ab) (o := .cells #[.int .i64 a0_0, .slice ae ac.length af] 24 (0, 0)) (zk aa)) : ad ≠ ab)); clear aa; clear HB; have aa := am; have HB := an; have ah := ao; have GW161 := au; have ap := n4_; have ai := n5_; have aj := n6_; clear am an ao au n4_ n5_ n6_; clear hb hbox hg; have hnb6 := ai.out; have hnc6 := aj.out; have hcz7_0 : w5.cell? ⟨ab, 0, none⟩ = some (.int .i64 a0_0) := (blk_cell aa.out 0).trans rfl; have hcz7_1 : w5.cell? ⟨ab, 1, none⟩ = some (.slice ae ac.length af) := (blk_cell aa.out 1).trans rfl; have hfz7_0 := blk_frozen aa.out 0; have hfz7_1 := blk_frozen aa.out 1) | ((with_reducible refine gate_callee (f := 94) rfl ?_); refine goesL_ (some 8) rfl rfl Try.func94 (by kernel_rfl) rfl #[.slice ae ac.length af, .func (.func 95) #[] #[.pointer (some ⟨ad, 0, none⟩)]] rfl (by (try simp only [List.map_toArray, List.map_cons, List.map_nil]); first | done | rfl | (simp only [List.length_drop, List.length_take]; rfl)) ?_; (with_reducible refine (vc_impl_laneOf_1_idx.calls _ _ ac a1 ad ak _ ?side1 ?side2 ?side3 A3.out).mono ?_); (case side1 => repeat (first | exact (Kd.C_below aq.out HB.out) | (with_reducible refine Kd.C_alloc ?_ _) | (with_reducible refine Kd.C_drewN ?_ _) | (with_reducible refine Kd.C_drew ?_))); (case side2 => exact ar.out); (case side3 => exact (zk ah)); rintro e w8 ⟨rfl, hb⟩; refine ⟨_, rfl, ?_⟩; have am := zK (blk_below (g := ab) (o := .cells #[.int .i64 a0_0, .slice ae ac.length af] 24 (0, 0)) (zk aa) hb); have an := zK (blk_below (g := ad) (o := .cells #[.int .i64 a1] 3 (0, 0)) (zk ah) hb); have ao := zK (below_step (zb HB) hb); clear aa; clear ah; clear HB; have aa := am; have ah := an; have HB := ao; clear am an ao; (try clear hb)))
 go_ret
 exact ⟨by first | rfl | (simp [errW_none, errW_some] <;> rfl) | (simp [*, errW_none, errW_some] <;> rfl), by repeat (first | (with_reducible first | exact HB.out | apply zB | apply zC | apply zE | refine zS ?_ ag.out | refine zS ?_ ap.out) | exact HB.out)⟩
set_option maxHeartbeats 4000000 in
set_option maxRecDepth 100000 in
theorem pop_calls {b g n cap k c m : Nat} {deep lane H f0 f1 : Int} {A : Addr} (w : World)
  (hb : w.heap[b]? = some (.cells #[.int .i64 deep, .slice (some ⟨g, 0, none⟩) n cap] 24 (0, 0)))
  (h0 : 0 ≤ lane) (h1 : lane < (n : Int)) (hc : w.cell? ⟨g, lane.toNat, none⟩ = some (.slice (some A) k c)) (hf : w.frozen? ⟨g, lane.toNat, none⟩ = false)
  (hH : H = wrap64 ((k : Int) - 1)) (hH0 : 0 ≤ H) (hH1 : H < (k : Int)) (hkc : k ≤ c)
  (hx : w.cell? (A.add (H.toNat * 2)) = some (.int .i64 f0)) (hy : w.cell? ⟨(A.add (H.toNat * 2)).block, (A.add (H.toNat * 2)).off + 1, none⟩ = some (.int .i64 f1)) (hm : m = H.toNat) :
  Calls Try.prog 75 #[.pointer (some ⟨b, 0, none⟩), .int .i64 lane] w fun e w' => e = .returned (.agg #[.int .i64 f0, .int .i64 f1]) ∧ w.grownBy w' (some g) ∧ ∀ k_, k_ < w.heap.size → w'.heap[k_]? = (w.setCell ⟨g, lane.toNat, none⟩ (.slice (some A) m c)).heap[k_]? := by
 have hb0 : w.cell? ⟨b, 0, none⟩ = some (.int .i64 deep) := (blk_cell hb 0).trans rfl
 have hb1 : w.cell? ⟨b, 1, none⟩ = some (.slice (some ⟨g, 0, none⟩) n cap) := (blk_cell hb 1).trans rfl
 have hlb : b < w.heap.size := blk_lt hb
 have hlg : g < w.heap.size := World.block_lt_of_cell? w _ hc
 clear hb; subst hm; subst hH
 have hle : wrap64 ((k : Int) - 1) ≤ (k : Int) := by omega
 obtain ⟨i0, hi0, _, hsz, _⟩ := info_parts info30
 have hcut := cut_to (P := Try.prog) 28 30 .i64 Try.underlying28 hi0 (some A) k c (wrap64 ((k : Int) - 1)) hH0 hle hkc
 have hxa : (w.alloc (.cells #[.int .i64 0, .int .i64 0] 30)).cell? (A.add ((wrap64 ((k : Int) - 1)).toNat * 2)) = some (.int .i64 f0) := (World.cell?_alloc_lt _ _ _ (World.block_lt_of_cell? w _ hx)).trans hx
 have hya : (w.alloc (.cells #[.int .i64 0, .int .i64 0] 30)).cell? ⟨(A.add ((wrap64 ((k : Int) - 1)).toNat * 2)).block, (A.add ((wrap64 ((k : Int) - 1)).toNat * 2)).off + 1, none⟩ = some (.int .i64 f1) := (World.cell?_alloc_lt _ _ _ (World.block_lt_of_cell? w _ hy)).trans hy
 have a0 := eq_true h0; have a1 := eq_true h1; have a2 := eq_true hH0; have a3 := eq_true hH1; have a4 := eq_true hle
 go_enter Try.func75, Try.ntmps75
 go_wp2
 have hB0 : Below w.heap.size w ((w.alloc (.cells #[.int .i64 0, .int .i64 0] 30)).alloc (.cells #[.int .i64 f0, .int .i64 f1] 30)).drew := below_drew (zB (zB (Below.refl _ _) _) _)
 have q1 := (hB0.cell hlb).trans hb1
 have q2 := (hB0.cell hlg).trans hc
 have q3 := (World.frozen?_of_block (a := ⟨g, lane.toNat, none⟩) (hB0.block g hlg)).trans hf
 refine start_ (n := 16) (S := fun w' => w'.cell? ⟨b, 1, none⟩ = some (.slice (some ⟨g, 0, none⟩) n cap) ∧ w'.cell? ⟨g, lane.toNat, none⟩ = some (.slice (some A) k c)) (ds := [15]) #[ff, ff, ff, ff, ff, ff, ff, ff, ff, ff, ff, ff, ff, ff, ff, ff] (by kernel_rfl) rfl rfl ⟨q1, q2⟩ (fun hHeld => ?_)
 refine zu 0 (some 26) #[tt, ff, ff, ff, ff, ff, ff, ff, ff, ff, ff, ff, ff, ff, ff, ff] (by kernel_rfl) ?_
 refine zu 1 (some 27) #[tt, tt, ff, ff, ff, ff, ff, ff, ff, ff, ff, ff, ff, ff, ff, ff] (by kernel_rfl) ?_
 refine zu 2 (some 28) #[tt, tt, tt, ff, ff, ff, ff, ff, ff, ff, ff, ff, ff, ff, ff, ff] (by kernel_rfl) ?_
 refine zu 4 (some 30) #[tt, tt, tt, ff, tt, ff, ff, ff, ff, ff, ff, ff, ff, ff, ff, ff] (by kernel_rfl) ?_
 refine zu 5 (some 31) #[tt, tt, tt, ff, tt, tt, ff, ff, ff, ff, ff, ff, ff, ff, ff, ff] (by kernel_rfl) ?_
 refine zu 6 (some 32) #[tt, tt, tt, ff, tt, tt, tt, ff, ff, ff, ff, ff, ff, ff, ff, ff] (by kernel_rfl) ?_
 refine zu 7 (some 33) #[tt, tt, tt, ff, tt, tt, tt, tt, ff, ff, ff, ff, ff, ff, ff, ff] (by kernel_rfl) ?_
 refine zu 9 (some 35) #[tt, tt, tt, ff, tt, tt, tt, tt, ff, tt, ff, ff, ff, ff, ff, ff] (by kernel_rfl) ?_
 refine zu 12 (some 38) #[tt, tt, tt, ff, tt, tt, tt, tt, ff, tt, ff, ff, tt, ff, ff, ff] (by kernel_rfl) ?_
 refine zt 3 (some 29) #[tt, tt, tt, tt, tt, tt, tt, tt, ff, tt, ff, ff, tt, ff, ff, ff] (by kernel_rfl) hHeld ?_
 refine zt 8 (some 34) #[tt, tt, tt, tt, tt, tt, tt, tt, tt, tt, ff, ff, tt, ff, ff, ff] (by kernel_rfl) hHeld ?_
 refine zu 10 (some 36) #[tt, tt, tt, tt, tt, tt, tt, tt, tt, tt, tt, ff, tt, ff, ff, ff] (by kernel_rfl) ?_
 refine zt 11 (some 37) #[tt, tt, tt, tt, tt, tt, tt, tt, tt, tt, tt, tt, tt, ff, ff, ff] (by kernel_rfl) hHeld ?_
 refine zu 13 (some 39) #[tt, tt, tt, tt, tt, tt, tt, tt, tt, tt, tt, tt, tt, tt, ff, ff] (by kernel_rfl) ?_
 refine zu 14 (some 40) #[tt, tt, tt, tt, tt, tt, tt, tt, tt, tt, tt, tt, tt, tt, tt, ff] (by kernel_rfl) ?_
 refine last_ (i := 15) (N := none) #[tt, tt, tt, tt, tt, tt, tt, tt, tt, tt, tt, tt, tt, tt, tt, tt] rfl rfl (by kernel_rfl) (by decide) (fun K hK => ?_)
 refine skip_ (w1 := ?_) (by rfl) rfl ?_ ?_
 rotate_left
 ·go_simp
  rfl
 refine hK.out _ _ ?_
 clear hK K
 refine done_ (by kernel_rfl) ?_
 go_wp2
 have hB := below_drew (zB (zB (Below.refl _ (w.setCell ⟨g, lane.toNat, none⟩ (.slice (some A) (wrap64 ((k : Int) - 1)).toNat c))) (.cells #[.int .i64 f0, .int .i64 f1] 30)) (.cells #[.int .i64 f0, .int .i64 f1] 30))
 refine bodyPost_ret (results_single rfl (.cell w.heap.size 30 #[.int .i64 f0, .int .i64 f1] (0, 0) _ rfl (by simp only [World.alloc, World.drew, World.setCell]; rw [Array.getElem?_push, if_neg (by simp), Array.getElem?_push, if_pos (by simp)]) Try.underlying30 rfl (by kernel_rfl) .nil)) rfl ?_
 refine ⟨rfl, ⟨hB.os, hB.tape, hB.output, by have := hB.size; simpa [World.setCell] using this, fun k_ hk hne => (hB.block k_ (by simpa [World.setCell] using hk)).trans (Below.heap_setCell w _ _ k_ (fun e => hne (congrArg some e)))⟩, fun k_ hk => hB.block k_ (by simpa [World.setCell] using hk)⟩
end Go.Proofs.Ytheckjlldkkceaa.Px
