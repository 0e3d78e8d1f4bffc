import Derived.Test.YtmjhbdmicejppaaZgPx0
namespace Go.Proofs.Ytmjhbdmicejppaa.Px
open Go.RowKit Go.Proofs.YtmjhbdmicejppaaW.PrintWords Go.Proofs.YtmjhbdmicejppaaW.PrintLast Go.Proofs.YtmjhbdmicejppaaW.PrintMore
attribute [local go_sem] max2_int min2_int max_two min_two max_three min_three max_four min_four   
set_option linter.unusedVariables false
set_option linter.unusedSimpArgs false
set_option maxHeartbeats 2000000 in
set_option maxRecDepth 100000 in
theorem idxF102 (g : Nat) (lb : Array Value) (eg : ∀ args w, (callFunc g args).run Try.prog w = .ok (.enter g args) w) (A : Option Addr) (c : Nat) (l : List S74) (p : S74 → Bool) (w : World)
  (hr : Kd.C k74 w A l.length l)
  (hp : ∀ (W : World) (x : S74) (A1_ : Option Addr) (c1_ : Nat), x ∈ l → Below w.heap.size w W → (x.f1).length ≤ c1_ → Kd.C (Kd.int .i64) W A1_ (x.f1).length (x.f1) → Calls Try.prog g (#[.agg #[.int .i64 x.f0, .slice A1_ (x.f1).length c1_]] ++ lb) W fun e w' => e = .returned (.bool (p x)) ∧ Below W.heap.size W w') :
  Calls Try.prog 102 #[.slice A l.length c, .func (.func g) #[] lb] w fun e w' => e = .returned (.int .i64 (Opens.idxB p l)) ∧ Below w.heap.size w w' := by
 have hbig : l.length ≤ 9223372036854775807 := hr.2.1
 have HBIG := zK hbig; have HP := zK hp; have HR := zK hr; clear hp hr
 go_enter Try.func102, Try.ntmps102
 go_wp2
 go_loopg [5, 8] l.length (fun gg _ s8 wr => ∃ kk : Nat, kk ≤ l.length ∧ l.length - kk ≤ gg ∧ s8 = .int .i64 kk ∧ Aside0 (Below w.heap.size w wr) ∧ Aside0 (∀ j (hj : j < l.length), j < kk → p l[j] = false))
 case atStart => exact ⟨0, Nat.zero_le _, by omega, rfl, ⟨Below.refl _ w⟩, ⟨fun j _ hj => absurd hj (Nat.not_lt_zero _)⟩⟩
 case round =>
  obtain ⟨kk, hkk, hg, rfl, BW, AL⟩ := hrel
  by_cases hlt : kk < l.length
  ·have hltz : (kk : Int) < (l.length : Int) := by omega
   obtain ⟨ad, A1_, c1_, rfl, hcell0, hcell1, aa, hC1⟩ := at_T74 HR.out (kk : Int) (by omega) (by omega)
   replace hcell0 := (BW.out.cell (World.block_lt_of_cell? w _ hcell0)).trans hcell0
   replace hcell1 := (BW.out.cell (World.block_lt_of_cell? w _ hcell1)).trans hcell1
   have hrd : rd_T74 l (kk : Int) = l[kk] := by simp [rd_T74, hlt]
   rw [Int.toNat_natCast] at hcell0
   simp only [hrd] at hcell0
   rw [Int.toNat_natCast] at hcell1
   simp only [hrd] at hcell1
   rw [hrd] at aa hC1
   have hcall := HP.out wr l[kk] _ _ (List.getElem_mem hlt) BW.out aa (Kd.C_below hC1 BW.out)
   clear aa hC1
   generalize hy : l[kk] = y at hcell0 hcell1 hcall
   have B := zK hy; clear hy hrd
   have hk0 : 0 ≤ (kk : Int) := by omega
   cases hq : p y with
   | true =>
    rw [hq] at hcall
    go_wp2_with (go_at_fn g; refine hcall.mono ?_; rintro e w' ⟨rfl, hb'⟩)
    go_ret
    refine ⟨?_, below_step BW.out hb'⟩
    rw [Opens.idxB_hit p l kk hlt (by rw [B.out]; exact hq) (fun j hj => AL.out j (by omega) hj)]
    rfl
   | false =>
    rw [hq] at hcall
    go_wp2_with (go_at_fn g; refine hcall.mono ?_; rintro e w' ⟨rfl, hb'⟩)
    go_roundg (l.length - (kk + 1))
    case measure => omega
    case rel =>
     refine ⟨kk + 1, by omega, by omega, by go_num, ⟨below_step BW.out hb'⟩, ⟨fun j hj' hj => ?_⟩⟩
     by_cases e : j = kk
     ·subst e
      rw [B.out]; exact hq
     ·exact AL.out j hj' (by omega)
  ·have hltz : ¬ (kk : Int) < (l.length : Int) := by omega
   go_wp2
   go_ret
   refine ⟨?_, BW.out⟩
   rw [Opens.idxB_miss p l (fun j hj => AL.out j hj (by omega))]
   rfl
def vc_impl_wantOf_1_idx.p (a1_0 : Int) (x : S74) : Bool := (x.f0 == a1_0)
theorem vc_impl_wantOf_1_idx.clo (a1_0 : Int) (x : S74) (A1_ : Option Addr) (c1_ : Nat) (g0 : Nat) (w : World) (hb : w.heap[g0]? = some (.cells #[.int .i64 a1_0] 3 (0, 0))) :
  Calls Try.prog 103 #[.agg #[.int .i64 x.f0, .slice A1_ (x.f1).length c1_], .pointer (some ⟨g0, 0, none⟩)] w fun e w' => e = .returned (.bool (vc_impl_wantOf_1_idx.p a1_0 x)) ∧ Below w.heap.size w w' := by
 have hc : (w.alloc (.cells #[.int .i64 x.f0, .slice A1_ (x.f1).length c1_] 74)).cell? ⟨g0, 0, none⟩ = some (.int .i64 a1_0) := by
  rw [World.cell?_alloc_past _ _ _ (blk_lt hb)]; exact (blk_cell hb 0).trans rfl
 have hu := Try.underlying74; clear hb
 go_enter Try.func103, Try.ntmps103
 go_wp2
 go_ret
 exact ⟨rfl, (Below.refl _ _).alloc (Nat.le_refl _) _⟩
def vc_impl_wantOf_1_idx.f (l0 : List S74) (a1_0 : Int) : Option (Int) := some (Opens.idxB (vc_impl_wantOf_1_idx.p a1_0) l0)
theorem vc_impl_wantOf_1_idx.calls (A0 : Option Addr) (c0 : Nat) (l0 : List S74) (a1_0 : Int) (g0 : Nat) (r : Int) (w : World) (hr0 : Kd.C k74 w A0 l0.length l0) (hc0 : l0.length ≤ c0) (hb0 : w.heap[g0]? = some (.cells #[.int .i64 a1_0] 3 (0, 0))) (h : vc_impl_wantOf_1_idx.f l0 a1_0 = some r) :
  Calls Try.prog 102 #[.slice A0 l0.length c0, .func (.func 103) #[] #[.pointer (some ⟨g0, 0, none⟩)]] w fun e w' => e = .returned (.int .i64 r) ∧ Below w.heap.size w w' := by
 obtain rfl := Option.some.inj h
 exact idxF102 103 #[.pointer (some ⟨g0, 0, none⟩)] (enters_of Try.func103 (by kernel_rfl) rfl) A0 c0 l0 _ w hr0 (fun W x A1_ c1_ _ hW _ _ => vc_impl_wantOf_1_idx.clo a1_0 x A1_ c1_ g0 W (blk_below (g := g0) hb0 hW))
def impl_wantOf.f (l0_0 : List Int) (a0_1 : Int) (l0_2 : List (S69)) (l0_3 : List (S74)) (a1 : Int) : Option (Int) := (vc_impl_wantOf_1_idx.f l0_3 a1).bind fun t254 => (some t254)
set_option maxHeartbeats 8000000 in
set_option maxRecDepth 100000 in
theorem impl_wantOf.calls (ai : Option Addr) (aj : Nat) (ad : List Int) (a0_1 : Int) (ak : Option Addr) (al : Nat) (ae : List (S69)) (ag : Option Addr) (ah : Nat) (ac : List (S74)) (a1 : Int) (r : Int) (w : World) (ar : Kd.C (Kd.int .i64) w ai ad.length ad) (hc0_0 : ad.length ≤ aj) (au : Kd.C k69 w ak ae.length ae) (hc0_2 : ae.length ≤ al) (av : Kd.C k74 w ag ac.length ac) (hc0_3 : ac.length ≤ ah) (h : impl_wantOf.f ad a0_1 ae ac a1 = some r) :
  Calls Try.prog 79 #[.agg #[.slice ai ad.length aj, .int .i64 a0_1, .slice ak ae.length al, .slice ag ac.length ah], .int .i64 a1] w fun e w' => e = .returned (.int .i64 r) ∧ Below w.heap.size w w' := by
 have hu28 := Try.underlying28
 have hmf : ∀ (fn : Fn) (first cap : Array Value) (w : World), (Instr.makeFunc fn first cap).run Try.prog w = .ok (.func fn first cap) w := fun _ _ _ _ => rfl
 have HR0_0 := zK ar; have HC0_0 := zK hc0_0; clear ar hc0_0; have HR0_2 := zK au; have HC0_2 := zK hc0_2; clear au hc0_2; have aA := zK av; have aB := zK hc0_3; clear av hc0_3
 have HB := zK (Below.refl w.heap.size w)
 have H : ((vc_impl_wantOf_1_idx.f ac a1).bind fun aq => (some aq)) = some r := h
 clear h; replace H := Option.bind_eq_some_iff.mp H
 obtain ⟨aq, A30, H⟩ := H
 replace H : (some aq) = some r := H
 have A3 := zK A30; clear A30; obtain rfl := Option.some.inj H
 go_enter Try.func79, Try.ntmps79
 go_wp2_with (first | ((with_reducible refine gate_dst (N := 2) rfl ?_); refine zX 2 #[.slice ai ad.length aj, .int .i64 a0_1, .slice ak ae.length al, .slice ag ac.length ah] 28 ?_; intro ab hg w4 hbox hb; have aw := zK (below_step (zb HB) hb); have ax := zK (hbox); have ay := zK ((by rw [hg]; exact (below_size (zb HB)) : w.heap.size ≤ ab)); have aC := zK ((by rw [hg]; exact (below_size (zb HB)) : w.heap.size ≤ ab)); clear HB; have HB := aw; have aa := ax; have GW251 := ay; have am := aC; clear aw ax ay aC; clear hb hbox hg) | ((with_reducible refine gate_dst (N := 3) rfl ?_); refine zX 3 #[.int .i64 a1] 3 ?_; intro af hg w5 hbox hb; have aw := zK (blk_below (g := ab) (o := .cells #[.slice ai ad.length aj, .int .i64 a0_1, .slice ak ae.length al, .slice ag ac.length ah] 28 (0, 0)) (zk aa) hb); have ax := zK (below_step (zb HB) hb); have ay := zK (hbox); have aC := zK ((by rw [hg]; exact (below_size (zb HB)) : w.heap.size ≤ af)); have n4_ := zK ((by rw [hg]; exact (below_size (zb HB)) : w.heap.size ≤ af)); have n5_ := zK ((by rw [hg]; exact Nat.ne_of_lt (blk_lt (g := ab) (o := .cells #[.slice ai ad.length aj, .int .i64 a0_1, .slice ak ae.length al, .slice ag ac.length ah] 28 (0, 0)) (zk aa)) : ab ≠ af)); have n6_ := zK ((by rw [hg]; exact Nat.ne_of_gt (blk_lt (g := ab) (o := .cells #[.slice ai ad.length aj, .int .i64 a0_1, .slice ak ae.length al, .slice ag ac.length ah] 28 (0, 0)) (zk aa)) : af ≠ ab)); clear aa; clear HB; have aa := aw; have HB := ax; have an := ay; have GW252 := aC; have az := n4_; have ao := n5_; have ap := n6_; clear aw ax ay aC n4_ n5_ n6_; clear hb hbox hg; have hnb6 := ao.out; have hnc6 := ap.out; have hcz7_0 : w5.cell? ⟨ab, 0, none⟩ = some (.slice ai ad.length aj) := (blk_cell aa.out 0).trans rfl; have hcz7_1 : w5.cell? ⟨ab, 1, none⟩ = some (.int .i64 a0_1) := (blk_cell aa.out 1).trans rfl; have hcz7_2 : w5.cell? ⟨ab, 2, none⟩ = some (.slice ak ae.length al) := (blk_cell aa.out 2).trans rfl; have hcz7_3 : w5.cell? ⟨ab, 3, none⟩ = some (.slice ag ac.length ah) := (blk_cell aa.out 3).trans rfl; have hfz7_0 := blk_frozen aa.out 0; have hfz7_1 := blk_frozen aa.out 1; have hfz7_2 := blk_frozen aa.out 2; have hfz7_3 := blk_frozen aa.out 3) | ((with_reducible refine gate_callee (f := 102) rfl ?_); refine goesL_ (some 8) rfl rfl Try.func102 (by kernel_rfl) rfl #[.slice ag ac.length ah, .func (.func 103) #[] #[.pointer (some ⟨af, 0, none⟩)]] rfl zg ?_; (with_reducible refine (vc_impl_wantOf_1_idx.calls _ _ ac a1 af aq _ ?side1 ?side2 ?side3 A3.out).mono ?_); (case side1 => exact zs (Kd.C_below aA.out HB.out)); (case side2 => exact aB.out); (case side3 => exact (zk an)); rintro e w8 ⟨rfl, hb⟩; refine ⟨_, rfl, ?_⟩; have aw := zK (blk_below (g := ab) (o := .cells #[.slice ai ad.length aj, .int .i64 a0_1, .slice ak ae.length al, .slice ag ac.length ah] 28 (0, 0)) (zk aa) hb); have ax := zK (blk_below (g := af) (o := .cells #[.int .i64 a1] 3 (0, 0)) (zk an) hb); have ay := zK (below_step (zb HB) hb); clear aa; clear an; clear HB; have aa := aw; have an := ax; have HB := ay; clear aw ax ay; (try clear hb)))
 go_ret
 exact ⟨ze, zb HB⟩
end Go.Proofs.Ytmjhbdmicejppaa.Px
