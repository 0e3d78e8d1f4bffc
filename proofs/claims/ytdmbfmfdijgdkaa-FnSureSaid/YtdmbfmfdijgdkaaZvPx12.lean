import Derived.Test.YtdmbfmfdijgdkaaZvPx0
import Derived.Test.YtdmbfmfdijgdkaaZvPx7
import Derived.Test.YtdmbfmfdijgdkaaZvPx8
namespace Go.Proofs.Ytdmbfmfdijgdkaa.Px
open Go.RowKit Go.Proofs.YtdmbfmfdijgdkaaW.PrintWords Go.Proofs.YtdmbfmfdijgdkaaW.PrintLast Go.Proofs.YtdmbfmfdijgdkaaW.PrintMore
attribute [local go_sem] max2_int min2_int max_two min_two max_three min_three max_four min_four   
set_option linter.unusedVariables false
set_option linter.unusedSimpArgs false
open Go.Sort in
theorem sort_own {w0 W : World} {v : Value} {s : List Int} (hB : Below w0.heap.size w0 W) (hR : Kd.R (Kd.int .i64) 3 W w0.heap.size (fun _ => True) v s) (hl : s.length ≤ 1048576) :
  Calls Try.prog 90 #[v] W fun e w' => e = .returned (.tuple #[]) ∧ Kd.R (Kd.int .i64) 3 w' w0.heap.size (fun _ => True) v (s.mergeSort fun x y => decide (x ≤ y)) ∧ Below w0.heap.size w0 w' ∧ W.grownBy w' v.ownBlock := by
 obtain ⟨_, inner, ho, hreps⟩ := id hR
 have hin : inner = s.map (Value.int .i64) := by
  apply List.ext_getElem?
  intro j
  rw [List.getElem?_map]
  by_cases hj : j < s.length
  ·have h2 := hreps.2 j _ (List.getElem?_eq_getElem hj)
   have h3 : (inner.drop (j * 1)).take 1 = [Value.int .i64 s[j]] := h2
   have h4 := congrArg (fun z => z[0]?) h3
   simp only [Nat.mul_one, List.getElem?_take, List.getElem?_drop, Nat.add_zero, List.getElem?_cons_zero] at h4
   rw [List.getElem?_eq_getElem hj]
   simpa using h4
  ·have h1 : inner.length = s.length * 1 := hreps.1
   rw [List.getElem?_eq_none (by omega), List.getElem?_eq_none (by omega)]
   rfl
 subst hin
 by_cases hz : s = []
 ·subst hz
  obtain ⟨A, c, rfl⟩ := Kd.R_slice hR
  refine (Sh.Try.slices_Sort_int_none A c W).mono ?_
  rintro e w' ⟨rfl, rfl⟩
  exact ⟨rfl, by simpa using hR, hB, World.grownBy.refl _ _⟩
 ·have hlen0 : 0 < s.length := by cases s with | nil => exact absurd rfl hz | cons => simp
  obtain ⟨g, cap, rfl, hb, hgl, hn, hm, _, hH⟩ := Lib.holds_of_ownsRow ho (fun e0 => by
   rcases ho.2 with ⟨_, e1⟩ | ⟨g, cap, _, e1, _⟩
   ·omega
   ·rw [e0] at e1; cases e1)
  refine (Sh.Try.slices_Sort_int g 0 cap s W hH hgl (by omega)).mono ?_
  rintro e w' ⟨rfl, n, os, rfl⟩
  have hml : (s.mergeSort fun x y => decide (x ≤ y)).length = s.length := List.length_mergeSort _
  have h2 := Lib.ownsRow_putRow (q := n) (k := s.length) (ys := s.mergeSort fun x y => decide (x ≤ y)) ho hml (Nat.le_refl _)
  rw [List.take_of_length_le (by omega)] at h2
  have hX : ∀ X : World, Below X.heap.size X (grow X os) := fun X => ⟨rfl, rfl, rfl, by simp, fun k hk => heap_grow_old _ _ hk⟩
  have h3 := pw_own_below h2 (hX _)
  have hbl := Lib.below_putRow (q := n) (d := (s.mergeSort fun x y => decide (x ≤ y)).toArray) (enc := Value.int .i64) hB hb
  refine ⟨rfl, ?_, below_then hbl hbl.size (hX _), grownBy_sortedI _⟩
  rw [← hml] at h3 ⊢
  exact Kd.R_of_own (enc := Value.int .i64) (h1 := fun _ => rfl) h3 (fun _ _ => trivial)
theorem nodup_len {α : Type} [DecidableEq α] : ∀ (s t : List α), s.Nodup → (∀ x ∈ s, x ∈ t) → s.length ≤ t.length
 | [], _, _, _ => Nat.zero_le _
 | x :: s, t, hn, h => by
  have hx : x ∈ t := h x List.mem_cons_self
  have := nodup_len s (t.erase x) (List.nodup_cons.1 hn).2 (fun y hy => by
   have hyx : y ≠ x := fun e => (List.nodup_cons.1 hn).1 (e ▸ hy)
   exact (List.mem_erase_of_ne hyx).2 (h y (List.mem_cons_of_mem _ hy)))
  rw [List.length_erase_of_mem hx] at this
  have : 0 < t.length := List.length_pos_of_mem hx
  rw [List.length_cons]
  omega
structure InvC (w0 : World) (A1 : Option Addr) (c1 : Nat) (l1 : List S89) (gO gS gM gI : Nat) (most i : Int) (T : List (List Int)) (s : List Int) (F : Nat → Prop) (W : World) : Prop where
 base : Below w0.heap.size w0 W
 sg : W.heap[gS]? = some (.cells #[.slice A1 l1.length c1] 43 (0, 0))
 mo : W.heap[gM]? = some (.cells #[.int .i64 most] 3 (0, 0))
 ix : W.heap[gI]? = some (.cells #[.int .i64 i] 3 (0, 0))
 out : ∃ v, W.heap[gO]? = some (.cells #[v] 29 (0, 0)) ∧ Kd.R (Kd.int .i64) 3 W w0.heap.size (fun k => k ≠ gM ∧ k ≠ gI) v s ∧ ∀ k, F k ↔ k = gO ∨ v.ownBlock = some k
 ge : w0.heap.size ≤ gO
 nd : s.Nodup
 mem : ∀ x ∈ s, ∃ tk ∈ T, rd tk i = x
theorem InvC.len {w0 : World} {A1 : Option Addr} {c1 : Nat} {l1 : List S89} {gO gS gM gI : Nat} {most i : Int} {T : List (List Int)} {s : List Int} {F : Nat → Prop} {W : World} (h : InvC w0 A1 c1 l1 gO gS gM gI most i T s F W) : s.length ≤ T.length := by
 have := nodup_len s (T.map fun tk => rd tk i) h.nd (fun x hx => by
  obtain ⟨tk, ht, e⟩ := h.mem x hx
  exact List.mem_map.2 ⟨tk, ht, e⟩)
 rwa [List.length_map] at this
theorem InvC.stab {w0 : World} {A1 : Option Addr} {c1 : Nat} {l1 : List S89} {gO gS gM gI : Nat} {most i : Int} {T : List (List Int)} {s : List Int} {F : Nat → Prop} {W W' : World} (h : InvC w0 A1 c1 l1 gO gS gM gI most i T s F W) (hb : Below W.heap.size W W') : InvC w0 A1 c1 l1 gO gS gM gI most i T s F W' := by
 obtain ⟨v, hv, hR, hF⟩ := h.out
 exact ⟨below_then h.base h.base.size hb, blk_below h.sg hb, blk_below h.mo hb, blk_below h.ix hb, ⟨v, blk_below hv hb, Kd.R_below hR hb, hF⟩, h.ge, h.nd, h.mem⟩
def stepC (l1 : List S89) (most i : Int) (s : List Int) (tk : List Int) : List Int := if ((cntB l1 tk == most) && !decide (rd tk i ∈ s)) = true then s ++ [rd tk i] else s
set_option maxHeartbeats 16000000 in
set_option maxRecDepth 100000 in
theorem choices_cb (w0 : World) (A1 : Option Addr) (c1 : Nat) (l1 : List S89) (gO gS gM gI : Nat) (most i : Int) (T : List (List Int)) (hT : T.length ≤ 1048576) (hr1 : Kd.C k89 w0 A1 l1.length l1) (hc1 : l1.length ≤ c1) (hn : l1.length ≤ 6) (hi0 : 0 ≤ i) (hi1 : i < l1.length) :
  CB 89 #[.pointer (some ⟨gS, 0, none⟩), .pointer (some ⟨gM, 0, none⟩), .pointer (some ⟨gO, 0, none⟩), .pointer (some ⟨gI, 0, none⟩)] l1.length T w0 (InvC w0 A1 c1 l1 gO gS gM gI most i T) (stepC l1 most i) where
 base := fun h => h.base
 old := fun h k hk => by
  obtain ⟨v, hv, hR, hF⟩ := h.out
  rcases (hF k).1 hk with e | e
  ·rw [e]; exact blk_lt hv
  ·exact Kd.R_lt hR k e
 stab := fun h hb => h.stab hb
 call := by
  intro s F W A c tk htT htl hI hc hC hF
  have hslen : s.length ≤ 1048576 := Nat.le_trans hI.len hT
  obtain ⟨v, hv, hR, hFv⟩ := id hI.out
  obtain ⟨Ao, co, rfl, hco, hCo⟩ := Kd.R_reads hR
  obtain ⟨kc, hkc0⟩ := has_tot s (rd tk i) hslen
  obtain ⟨adt, eA, ht0⟩ := Kd.at_int hC i hi0 (by omega)
  cases eA
  have hne : ¬ F adt.block := hF adt rfl (by omega)
  have hcnt := zK (cnt_tot l1 tk (by omega) htl)
  have hkc := zK hkc0; have HI := zK hI; have HC := zK hC; have HCc := zK hc; have HR1 := zK hr1; have HC1 := zK hc1; have HR := zK hR; have HCO := zK hCo; have HCo := zK hco; have HV := zK hv; have HF := zK hFv; have HN := zK hne; have HTL := zK htl; have HTT := zK htT; have HSL := zK hslen
  have p0 : (0 ≤ i) = True := eq_true hi0
  have p1 : (i < (tk.length : Int)) = True := eq_true (by omega)
  have q0 : W.drew.cell? ⟨gS, 0, none⟩ = some (.slice A1 l1.length c1) := (blk_cell hI.sg 0).trans rfl
  have q1 : W.drew.cell? ⟨gM, 0, none⟩ = some (.int .i64 most) := (blk_cell hI.mo 0).trans rfl
  have q2 : W.drew.cell? ⟨gO, 0, none⟩ = some (.slice Ao s.length co) := (blk_cell hv 0).trans rfl
  have q3 : W.drew.cell? ⟨gI, 0, none⟩ = some (.int .i64 i) := (blk_cell hI.ix 0).trans rfl
  have q4 : W.drew.cell? (adt.add i.toNat) = some (.int .i64 (rd tk i)) := ht0
  clear hI hC hF hr1 hc1 hc hv hR hFv hco hCo hkc0 ht0 hne htl htT hslen hi0 hi1
  show Calls Try.prog 89 #[.slice (some adt) tk.length c, .pointer (some ⟨gS, 0, none⟩), .pointer (some ⟨gM, 0, none⟩), .pointer (some ⟨gO, 0, none⟩), .pointer (some ⟨gI, 0, none⟩)] W _
  cases hcm : (cntB l1 tk == most) with
  | false =>
   have HS : Aside0 (stepC l1 most i s tk = s) := ⟨by unfold stepC; rw [hcm]; rfl⟩
   go_enter Try.func89, Try.ntmps89
   go_wp2
   refine start_ (n := 14) (S := fun w' => w'.cell? ⟨gS, 0, none⟩ = some (.slice A1 l1.length c1) ∧ w'.cell? ⟨gM, 0, none⟩ = some (.int .i64 most) ∧ w'.cell? ⟨gO, 0, none⟩ = some (.slice Ao s.length co) ∧ w'.cell? ⟨gI, 0, none⟩ = some (.int .i64 i) ∧ w'.cell? (adt.add i.toNat) = some (.int .i64 (rd tk i))) (ds := []) #[ff, ff, ff, ff, ff, ff, ff, ff, ff, ff, ff, ff, ff, ff] (by kernel_rfl) rfl rfl ⟨q0, q1, q2, q3, q4⟩ (fun hHeld => ?_)
   refine zu 1 (some 7) #[ff, tt, ff, ff, ff, ff, ff, ff, ff, ff, ff, ff, ff, ff] (by kernel_rfl) ?_
   refine zt 0 (some 6) #[tt, tt, ff, ff, ff, ff, ff, ff, ff, ff, ff, ff, ff, ff] (by kernel_rfl) hHeld ?_
   refine zt 3 (some 9) #[tt, tt, ff, tt, ff, ff, ff, ff, ff, ff, ff, ff, ff, ff] (by kernel_rfl) hHeld ?_
   refine one_ (i := 2) (N := some 8) #[tt, tt, tt, tt, ff, ff, ff, ff, ff, ff, ff, ff, ff, ff] rfl rfl (by kernel_rfl) (by decide) (fun K hK => ?_)
   refine goes_ Try.func84 (by kernel_rfl) rfl #[.slice A1 l1.length c1, .slice (some adt) tk.length c] (by rfl) rfl rfl (by simp only [List.map_toArray, List.map_cons, List.map_nil]; rfl) ?_
   with_reducible refine (impl_countTaken.calls (l1.length + 1) A1 c1 l1 (some adt) c tk (cntB l1 tk) W.drew (Kd.C_below HR1.out (below_drew HI.out.base)) HC1.out (Kd.C_drew HC.out) HCc.out hcnt.out).mono ?_
   rintro e w3 ⟨rfl, hb3⟩
   refine ⟨_, rfl, ?_⟩
   refine hK.out _ _ ⟨pw_cell_below hb3 hHeld.1, pw_cell_below hb3 hHeld.2.1, pw_cell_below hb3 hHeld.2.2.1, pw_cell_below hb3 hHeld.2.2.2.1, pw_cell_below hb3 hHeld.2.2.2.2⟩ (fun hHeld => ?_)
   clear hK K
   refine norm_ (a' := ?_) ?_ ?_
   rotate_left
   ·show Act.put _ (some 8) _ = _
    simp only [Act.put, zp, zq, zr, i64_w, i32_w]
    rfl
   refine zu 4 (some 10) #[tt, tt, tt, tt, tt, ff, ff, ff, ff, ff, ff, ff, ff, ff] (by kernel_rfl) ?_
   refine zu 5 (some 11) #[tt, tt, tt, tt, tt, tt, ff, ff, ff, ff, ff, ff, ff, ff] (by kernel_rfl) ?_
   refine pure_ (i := 6) (N := some 12) (v := undef) (a' := ?_) #[tt, tt, tt, tt, tt, tt, tt, ff, ff, ff, ff, ff, ff, ff] rfl rfl (by kernel_rfl) (fun _ _ _ h => h) (Or.inr ⟨by rfl, rfl⟩) ?_ ?_
   rotate_left
   ·simp only [Act.put, zp, zq, zr, i64_w, i32_w]
    rfl
   refine pure_ (i := 7) (N := some 13) (v := undef) (a' := ?_) #[tt, tt, tt, tt, tt, tt, tt, tt, ff, ff, ff, ff, ff, ff] rfl rfl (by kernel_rfl) (fun _ _ _ h => h) (Or.inr ⟨by rfl, rfl⟩) ?_ ?_
   rotate_left
   ·simp only [Act.put, zp, zq, zr, i64_w, i32_w]
    rfl
   refine pure_ (i := 8) (N := some 14) (v := undef) (a' := ?_) #[tt, tt, tt, tt, tt, tt, tt, tt, tt, ff, ff, ff, ff, ff] rfl rfl (by kernel_rfl) (fun _ _ _ h => h) (Or.inr ⟨by rfl, rfl⟩) ?_ ?_
   rotate_left
   ·simp only [Act.put, zp, zq, zr, i64_w, i32_w]
    rfl
   refine pure_ (i := 9) (N := some 15) (v := undef) (a' := ?_) #[tt, tt, tt, tt, tt, tt, tt, tt, tt, tt, ff, ff, ff, ff] rfl rfl (by kernel_rfl) (fun _ _ _ h => h) (Or.inr ⟨by rfl, rfl⟩) ?_ ?_
   rotate_left
   ·simp only [Act.put, zp, zq, zr, i64_w, i32_w]
    rfl
   refine pure_ (i := 10) (N := some 16) (v := undef) (a' := ?_) #[tt, tt, tt, tt, tt, tt, tt, tt, tt, tt, tt, ff, ff, ff] rfl rfl (by kernel_rfl) (fun _ _ _ h => h) (Or.inr ⟨by rfl, rfl⟩) ?_ ?_
   rotate_left
   ·simp only [Act.put, zp, zq, zr, i64_w, i32_w]
    rfl
   refine pure_ (i := 11) (N := some 17) (v := undef) (a' := ?_) #[tt, tt, tt, tt, tt, tt, tt, tt, tt, tt, tt, tt, ff, ff] rfl rfl (by kernel_rfl) (fun _ _ _ h => h) (Or.inr ⟨by rfl, rfl⟩) ?_ ?_
   rotate_left
   ·simp only [Act.put, zp, zq, zr, i64_w, i32_w]
    rfl
   refine pure_ (i := 12) (N := some 18) (v := undef) (a' := ?_) #[tt, tt, tt, tt, tt, tt, tt, tt, tt, tt, tt, tt, tt, ff] rfl rfl (by kernel_rfl) (fun _ _ _ h => h) (Or.inr ⟨by rfl, rfl⟩) ?_ ?_
   rotate_left
   ·simp only [Act.put, zp, zq, zr, i64_w, i32_w]
    rfl
   refine zu 13 (some 19) #[tt, tt, tt, tt, tt, tt, tt, tt, tt, tt, tt, tt, tt, tt] (by kernel_rfl) ?_
   refine done_ (by kernel_rfl) ?_
   go_wp2
   go_end0
   have hbr : Below W.heap.size W w3 := below_then (below_drew (Below.refl _ _)) (Nat.le_refl _) hb3
   exact ⟨rfl, F, by rw [HS.out]; exact HI.out.stab hbr, Kept.of_below hbr F, fun k hk => .inl hk⟩
  | true =>
   cases hhas0 : decide (rd tk i ∈ s) with
   | true =>
    have HS : Aside0 (stepC l1 most i s tk = s) := ⟨by unfold stepC; rw [hcm, hhas0]; rfl⟩
    have hhas := zK hhas0; clear hhas0
    go_enter Try.func89, Try.ntmps89
    go_wp2
    refine start_ (n := 14) (S := fun w' => w'.cell? ⟨gS, 0, none⟩ = some (.slice A1 l1.length c1) ∧ w'.cell? ⟨gM, 0, none⟩ = some (.int .i64 most) ∧ w'.cell? ⟨gO, 0, none⟩ = some (.slice Ao s.length co) ∧ w'.cell? ⟨gI, 0, none⟩ = some (.int .i64 i) ∧ w'.cell? (adt.add i.toNat) = some (.int .i64 (rd tk i))) (ds := []) #[ff, ff, ff, ff, ff, ff, ff, ff, ff, ff, ff, ff, ff, ff] (by kernel_rfl) rfl rfl ⟨q0, q1, q2, q3, q4⟩ (fun hHeld => ?_)
    refine zu 1 (some 7) #[ff, tt, ff, ff, ff, ff, ff, ff, ff, ff, ff, ff, ff, ff] (by kernel_rfl) ?_
    refine zt 0 (some 6) #[tt, tt, ff, ff, ff, ff, ff, ff, ff, ff, ff, ff, ff, ff] (by kernel_rfl) hHeld ?_
    refine zt 3 (some 9) #[tt, tt, ff, tt, ff, ff, ff, ff, ff, ff, ff, ff, ff, ff] (by kernel_rfl) hHeld ?_
    refine one_ (i := 2) (N := some 8) #[tt, tt, tt, tt, ff, ff, ff, ff, ff, ff, ff, ff, ff, ff] rfl rfl (by kernel_rfl) (by decide) (fun K hK => ?_)
    refine goes_ Try.func84 (by kernel_rfl) rfl #[.slice A1 l1.length c1, .slice (some adt) tk.length c] (by rfl) rfl rfl (by simp only [List.map_toArray, List.map_cons, List.map_nil]; rfl) ?_
    with_reducible refine (impl_countTaken.calls (l1.length + 1) A1 c1 l1 (some adt) c tk (cntB l1 tk) W.drew (Kd.C_below HR1.out (below_drew HI.out.base)) HC1.out (Kd.C_drew HC.out) HCc.out hcnt.out).mono ?_
    rintro e w3 ⟨rfl, hb3⟩
    refine ⟨_, rfl, ?_⟩
    refine hK.out _ _ ⟨pw_cell_below hb3 hHeld.1, pw_cell_below hb3 hHeld.2.1, pw_cell_below hb3 hHeld.2.2.1, pw_cell_below hb3 hHeld.2.2.2.1, pw_cell_below hb3 hHeld.2.2.2.2⟩ (fun hHeld => ?_)
    clear hK K
    refine norm_ (a' := ?_) ?_ ?_
    rotate_left
    ·show Act.put _ (some 8) _ = _
     simp only [Act.put, zp, zq, zr, i64_w, i32_w]
     rfl
    refine zu 4 (some 10) #[tt, tt, tt, tt, tt, ff, ff, ff, ff, ff, ff, ff, ff, ff] (by kernel_rfl) ?_
    refine zu 5 (some 11) #[tt, tt, tt, tt, tt, tt, ff, ff, ff, ff, ff, ff, ff, ff] (by kernel_rfl) ?_
    refine zu 7 (some 13) #[tt, tt, tt, tt, tt, tt, ff, tt, ff, ff, ff, ff, ff, ff] (by kernel_rfl) ?_
    refine zt 6 (some 12) #[tt, tt, tt, tt, tt, tt, tt, tt, ff, ff, ff, ff, ff, ff] (by kernel_rfl) hHeld ?_
    refine zt 8 (some 14) #[tt, tt, tt, tt, tt, tt, tt, tt, tt, ff, ff, ff, ff, ff] (by kernel_rfl) hHeld ?_
    refine zu 9 (some 15) #[tt, tt, tt, tt, tt, tt, tt, tt, tt, tt, ff, ff, ff, ff] (by kernel_rfl) ?_
    refine zt 10 (some 16) #[tt, tt, tt, tt, tt, tt, tt, tt, tt, tt, tt, ff, ff, ff] (by kernel_rfl) hHeld ?_
    refine one_ (i := 11) (N := some 17) #[tt, tt, tt, tt, tt, tt, tt, tt, tt, tt, tt, tt, ff, ff] rfl rfl (by kernel_rfl) (by decide) (fun K hK => ?_)
    refine goes_ Try.func74 (by kernel_rfl) rfl #[.slice Ao s.length co, .int .i64 (rd tk i)] (by rfl) rfl rfl (by simp only [List.map_toArray, List.map_cons, List.map_nil]; rfl) ?_
    with_reducible refine (slices_Contains_int_int.calls kc Ao co s (rd tk i) true w3 (Kd.C_below (Kd.C_drew HCO.out) hb3) HCo.out (hkc.out.trans (congrArg some hhas.out))).mono ?_
    rintro e w4 ⟨rfl, hd4⟩
    refine ⟨_, rfl, ?_⟩
    refine hK.out _ _ ⟨pw_cell_below hd4.below hHeld.1, pw_cell_below hd4.below hHeld.2.1, pw_cell_below hd4.below hHeld.2.2.1, pw_cell_below hd4.below hHeld.2.2.2.1, pw_cell_below hd4.below hHeld.2.2.2.2⟩ (fun hHeld => ?_)
    clear hK K
    refine norm_ (a' := ?_) ?_ ?_
    rotate_left
    ·show Act.put _ (some 17) _ = _
     simp only [Act.put, zp, zq, zr, i64_w, i32_w]
     rfl
    refine zu 12 (some 18) #[tt, tt, tt, tt, tt, tt, tt, tt, tt, tt, tt, tt, tt, ff] (by kernel_rfl) ?_
    refine zu 13 (some 19) #[tt, tt, tt, tt, tt, tt, tt, tt, tt, tt, tt, tt, tt, tt] (by kernel_rfl) ?_
    refine done_ (by kernel_rfl) ?_
    go_wp2
    go_end0
    have hbr : Below W.heap.size W w4 := below_then (below_then (below_drew (Below.refl _ _)) (Nat.le_refl _) hb3) (below_then (below_drew (w := W) (Below.refl _ _)) (Nat.le_refl _) hb3).size hd4.below
    exact ⟨rfl, F, by rw [HS.out]; exact HI.out.stab hbr, Kept.of_below hbr F, fun k hk => .inl hk⟩
   | false =>
    have HS : Aside0 (stepC l1 most i s tk = s ++ [rd tk i]) := ⟨by unfold stepC; rw [hcm, hhas0]; rfl⟩
    have hhas := zK hhas0; clear hhas0
    go_enter Try.func89, Try.ntmps89
    go_wp2
    refine start_ (n := 14) (S := fun w' => w'.cell? ⟨gS, 0, none⟩ = some (.slice A1 l1.length c1) ∧ w'.cell? ⟨gM, 0, none⟩ = some (.int .i64 most) ∧ w'.cell? ⟨gO, 0, none⟩ = some (.slice Ao s.length co) ∧ w'.cell? ⟨gI, 0, none⟩ = some (.int .i64 i) ∧ w'.cell? (adt.add i.toNat) = some (.int .i64 (rd tk i))) (ds := []) #[ff, ff, ff, ff, ff, ff, ff, ff, ff, ff, ff, ff, ff, ff] (by kernel_rfl) rfl rfl ⟨q0, q1, q2, q3, q4⟩ (fun hHeld => ?_)
    refine zu 1 (some 7) #[ff, tt, ff, ff, ff, ff, ff, ff, ff, ff, ff, ff, ff, ff] (by kernel_rfl) ?_
    refine zt 0 (some 6) #[tt, tt, ff, ff, ff, ff, ff, ff, ff, ff, ff, ff, ff, ff] (by kernel_rfl) hHeld ?_
    refine zt 3 (some 9) #[tt, tt, ff, tt, ff, ff, ff, ff, ff, ff, ff, ff, ff, ff] (by kernel_rfl) hHeld ?_
    refine one_ (i := 2) (N := some 8) #[tt, tt, tt, tt, ff, ff, ff, ff, ff, ff, ff, ff, ff, ff] rfl rfl (by kernel_rfl) (by decide) (fun K hK => ?_)
    refine goes_ Try.func84 (by kernel_rfl) rfl #[.slice A1 l1.length c1, .slice (some adt) tk.length c] (by rfl) rfl rfl (by simp only [List.map_toArray, List.map_cons, List.map_nil]; rfl) ?_
    with_reducible refine (impl_countTaken.calls (l1.length + 1) A1 c1 l1 (some adt) c tk (cntB l1 tk) W.drew (Kd.C_below HR1.out (below_drew HI.out.base)) HC1.out (Kd.C_drew HC.out) HCc.out hcnt.out).mono ?_
    rintro e w3 ⟨rfl, hb3⟩
    refine ⟨_, rfl, ?_⟩
    refine hK.out _ _ ⟨pw_cell_below hb3 hHeld.1, pw_cell_below hb3 hHeld.2.1, pw_cell_below hb3 hHeld.2.2.1, pw_cell_below hb3 hHeld.2.2.2.1, pw_cell_below hb3 hHeld.2.2.2.2⟩ (fun hHeld => ?_)
    clear hK K
    refine norm_ (a' := ?_) ?_ ?_
    rotate_left
    ·show Act.put _ (some 8) _ = _
     simp only [Act.put, zp, zq, zr, i64_w, i32_w]
     rfl
    refine zu 4 (some 10) #[tt, tt, tt, tt, tt, ff, ff, ff, ff, ff, ff, ff, ff, ff] (by kernel_rfl) ?_
    refine zu 5 (some 11) #[tt, tt, tt, tt, tt, tt, ff, ff, ff, ff, ff, ff, ff, ff] (by kernel_rfl) ?_
    refine zu 7 (some 13) #[tt, tt, tt, tt, tt, tt, ff, tt, ff, ff, ff, ff, ff, ff] (by kernel_rfl) ?_
    refine zt 6 (some 12) #[tt, tt, tt, tt, tt, tt, tt, tt, ff, ff, ff, ff, ff, ff] (by kernel_rfl) hHeld ?_
    refine zt 8 (some 14) #[tt, tt, tt, tt, tt, tt, tt, tt, tt, ff, ff, ff, ff, ff] (by kernel_rfl) hHeld ?_
    refine zu 9 (some 15) #[tt, tt, tt, tt, tt, tt, tt, tt, tt, tt, ff, ff, ff, ff] (by kernel_rfl) ?_
    refine zt 10 (some 16) #[tt, tt, tt, tt, tt, tt, tt, tt, tt, tt, tt, ff, ff, ff] (by kernel_rfl) hHeld ?_
    refine one_ (i := 11) (N := some 17) #[tt, tt, tt, tt, tt, tt, tt, tt, tt, tt, tt, tt, ff, ff] rfl rfl (by kernel_rfl) (by decide) (fun K hK => ?_)
    refine goes_ Try.func74 (by kernel_rfl) rfl #[.slice Ao s.length co, .int .i64 (rd tk i)] (by rfl) rfl rfl (by simp only [List.map_toArray, List.map_cons, List.map_nil]; rfl) ?_
    with_reducible refine (slices_Contains_int_int.calls kc Ao co s (rd tk i) false w3 (Kd.C_below (Kd.C_drew HCO.out) hb3) HCo.out (hkc.out.trans (congrArg some hhas.out))).mono ?_
    rintro e w4 ⟨rfl, hd4⟩
    refine ⟨_, rfl, ?_⟩
    refine hK.out _ _ ⟨pw_cell_below hd4.below hHeld.1, pw_cell_below hd4.below hHeld.2.1, pw_cell_below hd4.below hHeld.2.2.1, pw_cell_below hd4.below hHeld.2.2.2.1, pw_cell_below hd4.below hHeld.2.2.2.2⟩ (fun hHeld => ?_)
    clear hK K
    refine norm_ (a' := ?_) ?_ ?_
    rotate_left
    ·show Act.put _ (some 17) _ = _
     simp only [Act.put, zp, zq, zr, i64_w, i32_w]
     rfl
    refine zu 12 (some 18) #[tt, tt, tt, tt, tt, tt, tt, tt, tt, tt, tt, tt, tt, ff] (by kernel_rfl) ?_
    refine zu 13 (some 19) #[tt, tt, tt, tt, tt, tt, tt, tt, tt, tt, tt, tt, tt, tt] (by kernel_rfl) ?_
    refine done_ (by kernel_rfl) ?_
    have hbr0 : Below W.heap.size W w4 := below_then (below_then (below_drew (Below.refl _ _)) (Nat.le_refl _) hb3) (below_then (below_drew (w := W) (Below.refl _ _)) (Nat.le_refl _) hb3).size hd4.below
    have hbr := zK hbr0
    have v2 := pw_cell_below (below_drew (below_then hb3 hb3.size hd4.below)) q2
    have v3 := pw_cell_below (below_drew (below_then hb3 hb3.size hd4.below)) q3
    have v4 := pw_cell_below (below_drew (below_then hb3 hb3.size hd4.below)) q4
    clear q0 q1 q2 q3 q4 hb3 hd4 hbr0
    have info3 : (Try.prog.info? 3).map (fun i => (i.zero, i.size, i.bytes)) = some (some (.int .i64 0), 1, 8) := by kernel_rfl
    go_wp2
    refine start_ (n := 8) (S := fun w' => w'.cell? ⟨gO, 0, none⟩ = some (.slice Ao s.length co) ∧ w'.cell? ⟨gI, 0, none⟩ = some (.int .i64 i) ∧ w'.cell? (adt.add i.toNat) = some (.int .i64 (rd tk i))) (ds := [6, 7]) #[ff, ff, ff, ff, ff, ff, ff, ff] (by kernel_rfl) rfl rfl ⟨v2, v3, v4⟩ (fun hHeld => ?_)
    refine zu 1 (some 21) #[ff, tt, ff, ff, ff, ff, ff, ff] (by kernel_rfl) ?_
    refine zt 0 (some 20) #[tt, tt, ff, ff, ff, ff, ff, ff] (by kernel_rfl) hHeld ?_
    refine zt 2 (some 22) #[tt, tt, tt, ff, ff, ff, ff, ff] (by kernel_rfl) hHeld ?_
    refine zu 3 (some 23) #[tt, tt, tt, tt, ff, ff, ff, ff] (by kernel_rfl) ?_
    refine zt 4 (some 24) #[tt, tt, tt, tt, tt, ff, ff, ff] (by kernel_rfl) hHeld ?_
    refine one_ (i := 5) (N := some 25) #[tt, tt, tt, tt, tt, tt, ff, ff] rfl rfl (by kernel_rfl) (by decide) (fun K hK => ?_)
    refine value_ (w1 := ?_) (v := ?_) (by rfl) rfl ?_ ?_
    rotate_left 2
    ·go_simp
     constructor
     ·rfl
     ·rfl
    refine hK.out _ _ ⟨pw_cell_below (zB (Below.refl _ _) _) hHeld.1, pw_cell_below (zB (Below.refl _ _) _) hHeld.2.1, pw_cell_below (zB (Below.refl _ _) _) hHeld.2.2⟩ (fun hHeld => ?_)
    clear hK K
    refine norm_ (a' := ?_) ?_ ?_
    rotate_left
    ·show Act.put _ (some 25) _ = _
     simp only [Act.put, zp, zq, zr, i64_w, i32_w]
     rfl
    refine last_ (i := 6) (N := some 26) #[tt, tt, tt, tt, tt, tt, tt, ff] rfl rfl (by kernel_rfl) (by decide) (fun K hK => ?_)
    refine Kd.R_append_step (Kd.int .i64) (w0 := w0) (W := w4.drew) w0.heap.size (by rfl) (.tmp 20) (.tmp 25) 29 3 (.int .i64 0) 8 rfl Try.underlying29 info3 rfl (by decide) (by omega) (.slice Ao s.length co) s (rd tk i) [.int .i64 (rd tk i)] (fun k => k ≠ gM ∧ k ≠ gI) (fun _ => False) rfl rfl ?aP (fun _ hk => hk.elim) ?aF ?aO ?aB ?aS ?aL ?_
    (case aP => exact rfl)
    (case aF => exact fun k hk => ⟨fun e => by have h_ := blk_lt (HI.out.stab hbr.out).mo; rw [← e] at h_; exact absurd hk (Nat.not_le.2 h_), fun e => by have h_ := blk_lt (HI.out.stab hbr.out).ix; rw [← e] at h_; exact absurd hk (Nat.not_le.2 h_)⟩)
    (case aO => exact Kd.R_drew (Kd.R_below HR.out hbr.out))
    (case aB => exact below_drew (HI.out.stab hbr.out).base)
    (case aS => exact (HI.out.stab hbr.out).base.size)
    (case aL => have := HSL.out; omega)
    intro v5 w5 ho5 hb5 hg5 hat5
    obtain ⟨A5, k5, rfl⟩ := Kd.R_slice ho5
    rw [show (s ++ [rd tk i]).length = s.length + 1 from by simp] at ho5 hat5
    have hO5_ := blk_grown (w := w4.drew) (blk_below HV.out (below_drew hbr.out)) hg5 (Kd.R_ne HR.out HV.out (by decide))
    have hfz := blk_frozen hO5_ 0
    have hcz := (blk_cell hO5_ 0).trans rfl
    refine hK.out _ _ ?_
    clear hK K
    refine norm_ (a' := ?_) ?_ ?_
    rotate_left
    ·show Act.put _ (some 26) _ = _
     simp only [Act.put, zp, zq, zr, i64_w, i32_w]
     rfl
    refine last_ (i := 7) (N := none) #[tt, tt, tt, tt, tt, tt, tt, tt] rfl rfl (by kernel_rfl) (by decide) (fun K hK => ?_)
    refine skip_ (w1 := ?_) (by rfl) rfl ?_ ?_
    rotate_left
    ·go_simp
     rfl
    refine hK.out _ _ ?_
    clear hK K
    refine done_ (by kernel_rfl) ?_
    go_wp2
    go_end0
    have hbd : Below W.heap.size W w4.drew := below_drew hbr.out
    have hI4 := HI.out.stab hbd
    have hB5 : Below w0.heap.size w0 w5 := hb5
    have hM5 := blk_grown hI4.mo hg5 (fun e => (HR.out.1 _ e.symm).1 rfl)
    have hX5 := blk_grown hI4.ix hg5 (fun e => (HR.out.1 _ e.symm).2 rfl)
    have hS5 := blk_grown hI4.sg hg5 (Kd.R_ne HR.out HI.out.sg (by decide))
    have hO5 := blk_grown (blk_below HV.out hbd) hg5 (Kd.R_ne HR.out HV.out (by decide))
    have hnM : gM ≠ gO := blk_ne hI4.mo (blk_below HV.out hbd) (by decide)
    have hnX : gI ≠ gO := blk_ne hI4.ix (blk_below HV.out hbd) (by decide)
    have hnS : gS ≠ gO := blk_ne hI4.sg (blk_below HV.out hbd) (by decide)
    refine ⟨rfl, fun k => k = gO ∨ (Value.slice A5 (s.length + 1) k5).ownBlock = some k, ?_, ?_, ?_⟩
    ·rw [HS.out]
     refine ⟨hB5.setCell HI.out.ge _, blk_far hS5 hnS _, blk_far hM5 hnM _, blk_far hX5 hnX _, ⟨_, (blk_set hO5 0 _).trans rfl, Kd.R_set ho5 hO5 (by decide) 0 _, fun k => Iff.rfl⟩, HI.out.ge, ?_, ?_⟩
     ·rw [List.nodup_append]
      refine ⟨HI.out.nd, by simp, fun a ha b hb => ?_⟩
      rw [List.mem_singleton.1 hb]
      intro e
      exact absurd (e ▸ ha) (of_decide_eq_false hhas.out)
     ·intro x hx
      rcases List.mem_append.1 hx with h | h
      ·exact HI.out.mem x h
      ·exact ⟨tk, HTT.out, (List.mem_singleton.1 h).symm⟩
    ·exact (Kept.of_grown hg5 (Kept.of_below hbd F) (fun k hk => .inl ((HF.out k).2 (.inr hk)))).setCell (p := ⟨gO, 0, none⟩) (.inl ((HF.out gO).2 (.inl rfl))) _
    ·intro k hk
     rcases hk with e | e
     ·exact .inl ((HF.out k).2 (.inl e))
     ·rcases hat5 with e2 | ⟨b, e2, hb⟩
      ·exact .inl ((HF.out k).2 (.inr (e2 ▸ e)))
      ·rw [e2] at e
       injection e with e
       exact .inr (by rw [← e]; exact Nat.le_trans hbd.size hb)
def impl_Choices.f (k : Nat) (l0 : List (S52)) (l1 : List (S89)) (a2 : Int) : Option (List Int) := (impl_areSights.f k l0 l1).bind fun t => (if t = true then (if a2 < 0 then (some []) else (if a2 ≥ (l1.length : Int) then (some []) else ((impl_MostAssigned.f k l0 l1).bind fun m => (if l1.length ≤ 6 ∧ (waysL l0 l1 l1.length []).length ≤ 1048576 then (some (((waysL l0 l1 l1.length []).foldl (stepC l1 m a2) []).mergeSort fun x y => decide (x ≤ y))) else (none))))) else (some []))
theorem alloc_at (w : World) (o : Obj) : (w.alloc o).heap[w.heap.size]? = some o := by show (w.heap.push _)[w.heap.size]? = _; exact Array.getElem?_push_size
theorem choices_start (w : World) (A1 : Option Addr) (c1 : Nat) (l1 : List (S89)) (a2 : Int) :
  Below w.heap.size w ((w.alloc (.cells #[.slice A1 l1.length c1] 43)).alloc (.cells #[.int .i64 a2] 3)) ∧
  ((w.alloc (.cells #[.slice A1 l1.length c1] 43)).alloc (.cells #[.int .i64 a2] 3)).heap[w.heap.size]? = some (.cells #[.slice A1 l1.length c1] 43 (0, 0)) ∧
  ((w.alloc (.cells #[.slice A1 l1.length c1] 43)).alloc (.cells #[.int .i64 a2] 3)).heap[w.heap.size + 1]? = some (.cells #[.int .i64 a2] 3 (0, 0)) := by
 refine ⟨zB (zB (Below.refl _ _) _) _, blk_below (alloc_at w _) (zB (Below.refl _ _) _), ?_⟩
 have h := alloc_at (w.alloc (.cells #[.slice A1 l1.length c1] 43)) (.cells #[.int .i64 a2] 3)
 rwa [show (w.alloc (.cells #[.slice A1 l1.length c1] 43)).heap.size = w.heap.size + 1 from Array.size_push _] at h
theorem choices_run (A0 : Option Addr) (c0 : Nat) (l0 : List (S52)) (A1 : Option Addr) (c1 : Nat) (l1 : List (S89)) (a2 m : Int) (w w2 : World) (hbs : Below w.heap.size w w2)
  (hS2 : w2.heap[w.heap.size]? = some (.cells #[.slice A1 l1.length c1] 43 (0, 0))) (hI2 : w2.heap[w.heap.size + 1]? = some (.cells #[.int .i64 a2] 3 (0, 0)))
  (hr0 : Kd.C k52 w A0 l0.length l0) (hc0 : l0.length ≤ c0) (hr1 : Kd.C k89 w A1 l1.length l1) (hc1 : l1.length ≤ c1) (hn : l1.length ≤ 6) (hT : (waysL l0 l1 l1.length []).length ≤ 1048576) (hi0 : 0 ≤ a2) (hi1 : a2 < (l1.length : Int)) :
  (Calls Try.prog 82 #[.slice A0 l0.length c0, .slice A1 l1.length c1, .slice none 0 0, .func (.func 89) #[] #[.pointer (some ⟨w.heap.size, 0, none⟩), .pointer (some ⟨w2.heap.size, 0, none⟩), .pointer (some ⟨w2.heap.size + 1, 0, none⟩), .pointer (some ⟨w.heap.size + 1, 0, none⟩)]] ((w2.alloc (.cells #[.int .i64 m] 3)).alloc (.cells #[.slice none 0 0] 29)) fun e w3 => e = .returned (.tuple #[]) ∧ ∃ F3, InvC w A1 c1 l1 (w2.heap.size + 1) w.heap.size w2.heap.size (w.heap.size + 1) m a2 (waysL l0 l1 l1.length []) ((waysL l0 l1 l1.length []).foldl (stepC l1 m a2) []) F3 w3) ∧
  ((w2.alloc (.cells #[.int .i64 m] 3)).alloc (.cells #[.slice none 0 0] 29)).cell? ⟨w.heap.size, 0, none⟩ = some (.slice A1 l1.length c1) := by
 have hbb : Below w2.heap.size w2 ((w2.alloc (.cells #[.int .i64 m] 3)).alloc (.cells #[.slice none 0 0] 29)) := zB (zB (Below.refl _ _) _) _
 have hX : InvC w A1 c1 l1 (w2.heap.size + 1) w.heap.size w2.heap.size (w.heap.size + 1) m a2 (waysL l0 l1 l1.length []) [] (fun k => k = w2.heap.size + 1) ((w2.alloc (.cells #[.int .i64 m] 3)).alloc (.cells #[.slice none 0 0] 29)) := by
  have e1 : (w2.alloc (.cells #[.int .i64 m] 3)).heap.size = w2.heap.size + 1 := Array.size_push _
  have hO := alloc_at (w2.alloc (.cells #[.int .i64 m] 3)) (.cells #[.slice none 0 0] 29)
  rw [e1] at hO
  exact ⟨below_then hbs hbs.size hbb, blk_below hS2 hbb, blk_below (alloc_at w2 _) (zB (Below.refl _ _) _), blk_below hI2 hbb, ⟨_, hO, Kd.R_nil _ _ _ _ _, fun k => ⟨fun h => .inl h, fun h => h.elim id (fun h => by simp [Value.ownBlock] at h)⟩⟩, Nat.le_succ_of_le hbs.size, List.nodup_nil, fun _ h => by cases h⟩
 refine ⟨?_, (blk_cell hX.sg 0).trans rfl⟩
 have hways := ways_any 89 #[.pointer (some ⟨w.heap.size, 0, none⟩), .pointer (some ⟨w2.heap.size, 0, none⟩), .pointer (some ⟨w2.heap.size + 1, 0, none⟩), .pointer (some ⟨w.heap.size + 1, 0, none⟩)] (enters_of Try.func89 (by kernel_rfl) rfl) w _ _ A0 c0 l0 A1 c1 l1 hr0 hc0 hr1 hc1 hn _ (choices_cb w A1 c1 l1 (w2.heap.size + 1) w.heap.size w2.heap.size (w.heap.size + 1) m a2 (waysL l0 l1 l1.length []) hT hr1 hc1 hn hi0 hi1) l1.length [] none 0 [] _ _ (fun _ hx => hx) (Nat.zero_add _) hX (Nat.le_refl _) (Kd.C_nil _ _) (fun ad e => by cases e)
 exact hways.mono fun e w3 ⟨he, F3, hI3, _, _⟩ => ⟨he, F3, hI3⟩
set_option maxHeartbeats 16000000 in
set_option maxRecDepth 100000 in
theorem impl_Choices.calls (k : Nat) (A0 : Option Addr) (c0 : Nat) (l0 : List (S52)) (A1 : Option Addr) (c1 : Nat) (l1 : List (S89)) (a2 : Int) (r : List Int) (w : World) (hr0 : Kd.C k52 w A0 l0.length l0) (hc0 : l0.length ≤ c0) (hr1 : Kd.C k89 w A1 l1.length l1) (hc1 : l1.length ≤ c1) (h : impl_Choices.f k l0 l1 a2 = some r) :
  Calls Try.prog 48 #[.slice A0 l0.length c0, .slice A1 l1.length c1, .int .i64 a2] w fun e w' => ∃ v0_ : Value, e = .returned (v0_) ∧ Kd.R (Kd.int .i64) 3 w' w.heap.size (fun _ => True) v0_ r ∧ Below w.heap.size w w' := by
 have hmf : ∀ (fn : Fn) (first cap : Array Value) (w : World), (Instr.makeFunc fn first cap).run Try.prog w = .ok (.func fn first cap) w := fun _ _ _ _ => rfl
 have H := Option.bind_eq_some_iff.mp h
 obtain ⟨t, ha, H⟩ := H
 obtain ⟨hb0, hk0, hk1⟩ := choices_start w A1 c1 l1 a2
 have hare := impl_areSights.calls k A0 c0 l0 A1 c1 l1 t _ (Kd.C_below hr0 hb0) hc0 (Kd.C_below hr1 hb0) hc1 ha
 have HB0 := zK hb0; have HK0 := zK hk0; have HK1 := zK hk1; have HR0 := zK hr0; have HR1 := zK hr1; have HC0 := zK hc0; have HC1 := zK hc1; clear hb0 hk0 hk1 hr0 hr1 hc0 hc1 h ha
 cases t with
 | false =>
  obtain rfl : ([] : List Int) = r := by rw [if_neg (by simp)] at H; exact Option.some.inj H
  clear H
  go_enter Try.func48, Try.ntmps48
  go_wp2_with (go_at_call 73; refine hare.mono ?_; rintro e w1 ⟨rfl, hb1⟩; have HB1 := zK hb1; clear hb1)
  go_ret
  exact ⟨_, rfl, Kd.R_nil _ _ _ _ _, below_then HB0.out HB0.out.size HB1.out⟩
 | true =>
  rw [if_pos rfl] at H
  by_cases aa : a2 < 0
  ·obtain rfl : ([] : List Int) = r := by rw [if_pos aa] at H; exact Option.some.inj H
   have hd0 : decide (a2 < 0) = true := decide_eq_true aa
   clear H aa
   go_enter Try.func48, Try.ntmps48
   go_wp2_with (go_at_call 73; refine hare.mono ?_; rintro e w1 ⟨rfl, hb1⟩; have hq1 : w1.cell? ⟨w.heap.size + 1, 0, none⟩ = some (.int .i64 a2) := (blk_cell (blk_below HK1.out hb1) 0).trans rfl; have HB1 := zK hb1; clear hb1)
   go_ret
   exact ⟨_, rfl, Kd.R_nil _ _ _ _ _, below_then HB0.out HB0.out.size HB1.out⟩
  ·rw [if_neg aa] at H
   have hd0 : decide (a2 < 0) = false := decide_eq_false aa
   by_cases ab : a2 ≥ (l1.length : Int)
   ·obtain rfl : ([] : List Int) = r := by rw [if_pos ab] at H; exact Option.some.inj H
    have hd1 : decide ((l1.length : Int) ≤ a2) = true := decide_eq_true ab
    clear H aa ab
    go_enter Try.func48, Try.ntmps48
    go_wp2_with (go_at_call 73; refine hare.mono ?_; rintro e w1 ⟨rfl, hb1⟩; have hq1 : w1.cell? ⟨w.heap.size + 1, 0, none⟩ = some (.int .i64 a2) := (blk_cell (blk_below HK1.out hb1) 0).trans rfl; have hq0 : w1.cell? ⟨w.heap.size, 0, none⟩ = some (.slice A1 l1.length c1) := (blk_cell (blk_below HK0.out hb1) 0).trans rfl; have HB1 := zK hb1; clear hb1)
    go_ret
    exact ⟨_, rfl, Kd.R_nil _ _ _ _ _, below_then HB0.out HB0.out.size HB1.out⟩
   ·rw [if_neg ab] at H
    have hd1 : decide ((l1.length : Int) ≤ a2) = false := decide_eq_false ab
    obtain ⟨m, hm, H⟩ := Option.bind_eq_some_iff.mp H
    by_cases hn : l1.length ≤ 6 ∧ (waysL l0 l1 l1.length []).length ≤ 1048576
    ·rw [if_pos hn] at H
     have HR := zK (Option.some.inj H)
     have HN := zK hn; have HM := zK hm
     have HI0 := zK (show 0 ≤ a2 by omega)
     have HI1 := zK (show a2 < (l1.length : Int) by omega)
     clear H hn hm aa ab
     go_enter Try.func48, Try.ntmps48
     go_wp2_with (first
      | (
        go_at_call 73; refine hare.mono ?_; rintro e w1 ⟨rfl, hb1⟩
        have hq1 : w1.cell? ⟨w.heap.size + 1, 0, none⟩ = some (.int .i64 a2) := (blk_cell (blk_below HK1.out hb1) 0).trans rfl
        have hq0 : w1.cell? ⟨w.heap.size, 0, none⟩ = some (.slice A1 l1.length c1) := (blk_cell (blk_below HK0.out hb1) 0).trans rfl
        have hbs := below_then HB0.out HB0.out.size hb1
        have hmost := impl_MostAssigned.calls k A0 c0 l0 A1 c1 l1 m w1 (Kd.C_below HR0.out hbs) HC0.out (Kd.C_below HR1.out hbs) HC1.out HM.out
        have HK1b := zK (blk_below HK1.out hb1)
        have HK0b := zK (blk_below HK0.out hb1)
        have HB1 := zK hbs
        clear hb1 hbs hare)
      | (
        go_at_call 41; refine hmost.mono ?_; rintro e w2 ⟨rfl, hb2⟩
        clear hq0 hq1 hmost; have hbs := below_then HB1.out HB1.out.size hb2; have hS2 := blk_below HK0b.out hb2; have hI2 := blk_below HK1b.out hb2
        obtain ⟨hways2, hS3⟩ := choices_run A0 c0 l0 A1 c1 l1 a2 m w w2 hbs hS2 hI2 HR0.out HC0.out HR1.out HC1.out HN.out.1 HN.out.2 HI0.out HI1.out
        clear hb2 hbs hS2 hI2)
      | (
        go_at_call 82; refine hways2.mono ?_; rintro e w3 ⟨rfl, F3, hI3⟩
        clear hways2 hS3
        obtain ⟨v3, hv3, hR3, _⟩ := hI3.out
        have hl3 := Nat.le_trans hI3.len HN.out.2
        have hsort := sort_own hI3.base (Kd.R_mono hR3 (fun _ _ => trivial)) hl3
        have hO3 := (blk_cell hv3 0).trans rfl
        have HV3 := zK hv3; have HR3 := zK hR3
        clear hI3 hv3 hR3 hl3)
      | (
        go_at_call 90; refine hsort.mono ?_; rintro e w4 ⟨rfl, hR4, hB4, hg4⟩
        have hO4 := (blk_cell (blk_grown HV3.out hg4 (Kd.R_ne HR3.out HV3.out (by decide))) 0).trans rfl
        have HR4 := zK hR4; have HB4 := zK hB4
        clear hR4 hB4 hg4 hsort hO3))
     go_ret
     exact ⟨_, rfl, by rw [← HR.out]; exact HR4.out, HB4.out⟩
    ·rw [if_neg hn] at H
     cases H
end Go.Proofs.Ytdmbfmfdijgdkaa.Px
