import Derived.Test.YtmjhbdmicejppaaZsPx0
import Derived.Test.YtmjhbdmicejppaaZsPx1
import Derived.Test.YtmjhbdmicejppaaZsPx3
import Derived.Test.YtmjhbdmicejppaaZsPx4
import Derived.Test.YtmjhbdmicejppaaZsPx5
import Derived.Test.YtmjhbdmicejppaaZsPx6
import Derived.Test.YtmjhbdmicejppaaZsPx8
namespace Go.Proofs.Ytmjhbdmicejppaa.Px
open Go.RowKit Go.Proofs.YtmjhbdmicejppaaW.PrintWords Go.Proofs.YtmjhbdmicejppaaW.PrintLast Go.Proofs.YtmjhbdmicejppaaW.PrintMore
attribute [local go_sem] max2_int min2_int max_two min_two max_three min_three max_four min_four   
set_option linter.unusedVariables false
set_option linter.unusedSimpArgs false
class Bel (P : World → Prop) : Prop where
 bel : ∀ {w w1 : World}, P w → Below w.heap.size w w1 → P w1
def All2 (P Q : World → Prop) (w : World) : Prop := P w ∧ Q w
instance {P Q : World → Prop} [Bel P] [Bel Q] : Bel (All2 P Q) := ⟨fun h hb => ⟨Bel.bel h.1 hb, Bel.bel h.2 hb⟩⟩
def Bo (g : Nat) (c0 c1 c2 c3 : Value) (w : World) : Prop := w.heap[g]? = some (.cells #[c0, c1, c2, c3] 28 (0, 0))
instance {g : Nat} {c0 c1 c2 c3 : Value} : Bel (Bo g c0 c1 c2 c3) := ⟨fun h hb => blk_below h hb⟩
def Bw (w w1 : World) : Prop := Below w.heap.size w w1
instance {w : World} : Bel (Bw w) := ⟨fun h hb => below_step h hb⟩
theorem Bw.b {w w1 : World} (h : Bw w w1) : Below w.heap.size w w1 := h
def Lr (v0 : Value) (tr : List Int) (v2 : Value) (ch : List S69) (v3 : Value) (wa : List S74) (w : World) : Prop := Kd.R (Kd.int .i64) 3 w 0 (fun _ => True) v0 tr ∧ Kd.R k69 69 w 0 (fun _ => True) v2 ch ∧ Kd.R k74 74 w 0 (fun _ => True) v3 wa
def Ri (v : Value) (l : List Int) (w : World) : Prop := Kd.R (Kd.int .i64) 3 w 0 (fun _ => True) v l
section
variable {N g n0 n2 n3 c0 c2 c3 : Nat} {ok0 ok2 ok3 : Nat → Prop} {w : World} {v v0 v2 v3 : Value} {tr l : List Int} {ch : List S69} {wa : List S74} {A0 A2 A3 : Option Addr}
instance : Bel (Lr v0 tr v2 ch v3 wa) := ⟨fun h hb => ⟨Kd.R_below h.1 hb, Kd.R_below h.2.1 hb, Kd.R_below h.2.2 hb⟩⟩
instance : Bel (Ri v l) := ⟨fun h hb => Kd.R_below h hb⟩
theorem Lr.mk (h0 : Kd.R (Kd.int .i64) 3 w N ok0 v0 tr) (h2 : Kd.R k69 69 w N ok2 v2 ch) (h3 : Kd.R k74 74 w N ok3 v3 wa) : Lr v0 tr v2 ch v3 wa w :=
 ⟨Kd.R_lower (Kd.R_mono h0 (fun _ _ => trivial)) (Nat.zero_le _), Kd.R_lower (Kd.R_mono h2 (fun _ _ => trivial)) (Nat.zero_le _), Kd.R_lower (Kd.R_mono h3 (fun _ _ => trivial)) (Nat.zero_le _)⟩
theorem Lr.of (h : Tre N g v0 tr v2 ch v3 wa w) : Lr v0 tr v2 ch v3 wa w := Lr.mk h.1 (Kd.S_R h.2.1) h.2.2
theorem Lr.reads (h : Lr v0 tr v2 ch v3 wa w) : ∃ A0 c0 A2 c2 A3 c3, v0 = .slice A0 tr.length c0 ∧ v2 = .slice A2 ch.length c2 ∧ v3 = .slice A3 wa.length c3 := by
 obtain ⟨A0, c0, e0⟩ := Kd.R_slice h.1
 obtain ⟨A2, c2, e2⟩ := Kd.R_slice h.2.1
 obtain ⟨A3, c3, e3⟩ := Kd.R_slice h.2.2
 exact ⟨A0, c0, A2, c2, A3, c3, e0, e2, e3⟩
theorem Lr.rd (h : Lr (.slice A0 tr.length c0) tr (.slice A2 ch.length c2) ch (.slice A3 wa.length c3) wa w) : tr.length ≤ c0 ∧ Kd.C (Kd.int .i64) w A0 tr.length tr ∧ ch.length ≤ c2 ∧ Kd.C k69 w A2 ch.length ch ∧ wa.length ≤ c3 ∧ Kd.C k74 w A3 wa.length wa :=
 ⟨(Kd.R_reads' h.1).2.1, (Kd.R_reads' h.1).2.2, (Kd.R_reads' h.2.1).2.1, (Kd.R_reads' h.2.1).2.2, (Kd.R_reads' h.2.2).2.1, (Kd.R_reads' h.2.2).2.2⟩
theorem Lr.vv {b : Nat} (h : Lr v0 tr v2 ch v3 wa w) : Kd.V (Kd.int .i64) 3 w b (fun _ => True) v0 tr ∧ Kd.V k69 69 w b (fun _ => True) v2 ch ∧ Kd.V k74 74 w b (fun _ => True) v3 wa := ⟨Kd.R_V h.1, Kd.R_V h.2.1, Kd.R_V h.2.2⟩
end
def laws_FnLoopTakes.P (k : Nat) (l0 : List Int) : Prop := laws_big.f l0 = some true ∨ laws_big.f l0 = some false ∧ ∃ (tr : List Int) (T : Int) (ch : List S69) (wa : List S74) (at_ bag : Int) (x0 : List Int) (xT : Int) (x2 : List S69) (x3 : List S74) (ok : Bool) (p e : Int) (em : Bool) (m0 : List Int) (mT : Int) (m2 : List S69) (m3 : List S74) (mb : Int) (mo : List Int) (v0 : List Int) (vT : Int) (v2 : List S69) (v3 : List S74) (st : Bool),
 spec_DrawInduct.f k l0 = some (tr, T, ch, wa, at_, bag) ∧ impl_Induct.f k tr T ch wa at_ bag = some (x0, xT, x2, x3, ok) ∧ spec_Induct.f k tr T ch wa at_ bag = some (x0, xT, x2, x3, ok) ∧ impl_TrayAt.f k tr T ch wa at_ = some p ∧ spec_TrayAt.f k tr T ch wa at_ = some p ∧
 (ok = false → x0 = tr ∧ xT = T ∧ x2 = ch ∧ x3 = wa) ∧
 (ok = true → impl_LoopOk.f k x0 xT x2 x3 = some true ∧ e = 0 ∧ em = true ∧ ∃ q n : Int, impl_TrayAt.f k x0 xT x2 x3 at_ = some q ∧ 0 ≤ q ∧ q < (x0.length : Int) ∧ rd x0 q = bag ∧ laws_aboard.f k x0 xT x2 x3 = some (wrap64 (n + 1)) ∧ laws_aboard.f k tr T ch wa = some n) ∧
 impl_EmptyAt.f k tr T ch wa at_ = some (e, em) ∧ spec_EmptyAt.f k tr T ch wa at_ = some (e, em) ∧
 spec_DrawSetWant.f k l0 = some (m0, mT, m2, m3, mb, mo) ∧ impl_SetWant.f k m0 mT m2 m3 mb mo = some (v0, vT, v2, v3, st) ∧ spec_SetWant.f k m0 mT m2 m3 mb mo = some (v0, vT, v2, v3, st) ∧
 (st = false → v0 = m0 ∧ vT = mT ∧ v2 = m2 ∧ v3 = m3) ∧
 (st = true → impl_LoopOk.f k v0 vT v2 v3 = some true ∧ (v3.length : Int) ≤ wrap64 ((m3.length : Int) + 1))
set_option maxHeartbeats 16000000 in
set_option maxRecDepth 100000 in
theorem laws_FnLoopTakes.calls (k : Nat) (A0 : Option Addr) (c0 : Nat) (l0 : List Int) (w : World) (hr0 : Kd.C (Kd.int .u8) w A0 l0.length l0) (hc0 : l0.length ≤ c0) (h : laws_FnLoopTakes.P k l0) :
 Calls Try.prog 12 #[.slice A0 l0.length c0] w fun e w' => e = .returned (.bool true) ∧ Below w.heap.size w w' := by
 have hu28 := Try.underlying28
 have HQ := zK (And.intro hr0 hc0)
 clear hr0 hc0
 have HS := zK (show Bw w w from Below.refl w.heap.size w)
 rcases h with hb | ⟨hb, tr, T, ch, wa, at_, bag, x0, xT, x2, x3, ok, p, e, em, m0, mT, m2, m3, mb, mo, v0, vT, v2, v3, st, D1, D2, D3, D4, D5, D6, D7, D8, D9, E1, E2, E3, E4, E5⟩
 · have AB := zK hb
   clear hb
   go_enter Try.func12, Try.ntmps12
   go_wp2_with (first | ((with_reducible refine gate_callee (f := 15) rfl ?_); refine goesL_ (some 22) rfl rfl Try.func15 (by kernel_rfl) rfl #[.slice A0 l0.length c0] rfl zg ?_; (with_reducible refine (laws_big.calls A0 c0 l0 true _ (Kd.C_below HQ.out.1 HS.out.b) HQ.out.2 AB.out).mono ?_); rintro e w1 ⟨rfl, hd⟩; refine ⟨_, rfl, ?_⟩; replace HS := zK (Bel.bel HS.out hd.below); clear hd))
   go_ret
   exact ⟨rfl, HS.out⟩
 have AB := zK hb; clear hb; replace D1 := zK D1; replace D2 := zK D2; replace D3 := zK D3; replace D4 := zK D4; replace D5 := zK D5; replace D6 := zK D6; replace D7 := zK D7; replace D8 := zK D8; replace D9 := zK D9; replace E1 := zK E1; replace E2 := zK E2; replace E3 := zK E3; replace E4 := zK E4; replace E5 := zK E5
 go_enter Try.func12, Try.ntmps12
 have bo : (ok != ok) = false := bne_self_eq_false ok
 have bp : (p != p) = false := bne_self_eq_false p
 go_upto_region 6 with (first
  | ((with_reducible refine gate_callee (f := 15) rfl ?_); refine goesL_ (some 22) rfl rfl Try.func15 (by kernel_rfl) rfl #[.slice A0 l0.length c0] rfl zg ?_; (with_reducible refine (laws_big.calls A0 c0 l0 false _ (Kd.C_below HQ.out.1 HS.out.b) HQ.out.2 AB.out).mono ?_); rintro e w1 ⟨rfl, hd⟩; refine ⟨_, rfl, ?_⟩; replace HS := zK (Bel.bel HS.out hd.below); clear hd)
  | ((with_reducible refine gate_callee (f := 46) rfl ?_); refine goesL_ (some 25) rfl rfl Try.func46 (by kernel_rfl) rfl #[.slice A0 l0.length c0] rfl zg ?_; (with_reducible refine (spec_DrawInduct.calls k A0 c0 l0 tr T ch wa at_ bag _ (Kd.C_below HQ.out.1 HS.out.b) HQ.out.2 D1.out).mono ?_); rintro e w2 ⟨au, av, aw, rfl, ⟨g_, ho⟩, hb⟩; refine ⟨_, rfl, ?_⟩; have hL := Lr.of ho; obtain ⟨L0, lk0, L2, lk2, L3, lk3, e0, e2, e3⟩ := hL.reads; subst e0 e2 e3; replace HS := zK (Bel.bel HS.out hb); replace HS := zK (show All2 (Lr _ _ _ _ _ _) _ _ from ⟨hL, HS.out⟩); clear hL hb; clear ho)
  | ((with_reducible refine gate_dst (N := 3) rfl ?_); refine zX 3 #[.slice none 0 0, .int .i64 0, .slice none 0 0, .slice none 0 0] 28 ?_; intro gl hg w3 hbox hb; obtain ⟨he0, he1, he2, he3⟩ := cells4 hbox; have aa := blk_frozen hbox 0; have ab := blk_frozen hbox 1; have ac := blk_frozen hbox 2; have ad := blk_frozen hbox 3; have hb4 := below_put4 (g := gl) hb (by rw [hg]; exact Nat.le_refl _) (.slice L0 tr.length lk0) (.int .i64 T) (.slice L2 ch.length lk2) (.slice L3 wa.length lk3); replace HS := zK (Bel.bel HS.out hb4); replace HS := zK (show All2 (Bo gl (.slice L0 tr.length lk0) (.int .i64 T) (.slice L2 ch.length lk2) (.slice L3 wa.length lk3)) _ _ from ⟨blk_put4 hbox (.slice L0 tr.length lk0) (.int .i64 T) (.slice L2 ch.length lk2) (.slice L3 wa.length lk3), HS.out⟩); clear hb4 hg hbox hb; obtain ⟨ao, ap, aq, ar⟩ := cells4 HS.out.1)
  | ((with_reducible refine gate_callee (f := 47) rfl ?_); have q_ := Lr.rd (HS.out.2.1); refine goesL_ (some 33) rfl rfl Try.func47 (by kernel_rfl) rfl #[.agg #[.slice L0 tr.length lk0, .int .i64 T, .slice L2 ch.length lk2, .slice L3 wa.length lk3], .int .i64 at_, .int .i64 bag] rfl zg ?_; (with_reducible refine (impl_Induct.calls k _ _ tr T _ _ ch _ _ wa at_ bag _ _ _ _ _ _ q_.2.1 q_.1 q_.2.2.2.1 q_.2.2.1 q_.2.2.2.2.2 q_.2.2.2.2.1 D2.out).mono ?_); rintro e w4 ⟨au, av, aw, rfl, ho0, ho2, ho3, hb⟩; refine ⟨_, rfl, ?_⟩; have hL := Lr.mk ho0 (Kd.S_R ho2) (Kd.S_R ho3); obtain ⟨X0, xk0, X2, xk2, X3, xk3, e0, e2, e3⟩ := hL.reads; subst e0 e2 e3; replace HS := zK (Bel.bel HS.out hb); replace HS := zK (show All2 (Lr _ _ _ _ _ _) _ _ from ⟨hL, HS.out⟩); clear hL hb; clear ho0 ho2 ho3 q_; clear he0 he1 he2 he3 aa ab ac ad ao ap aq ar)
  | ((with_reducible refine gate_dst (N := 6) rfl ?_); refine zX 6 #[.slice none 0 0, .int .i64 0, .slice none 0 0, .slice none 0 0] 28 ?_; intro gx hg w5 hbox hb; obtain ⟨he0, he1, he2, he3⟩ := cells4 hbox; have aa := blk_frozen hbox 0; have ab := blk_frozen hbox 1; have ac := blk_frozen hbox 2; have ad := blk_frozen hbox 3; have hb4 := below_put4 (g := gx) hb (by rw [hg]; exact Nat.le_refl _) (.slice X0 x0.length xk0) (.int .i64 xT) (.slice X2 x2.length xk2) (.slice X3 x3.length xk3); replace HS := zK (Bel.bel HS.out hb4); replace HS := zK (show All2 (Bo gx (.slice X0 x0.length xk0) (.int .i64 xT) (.slice X2 x2.length xk2) (.slice X3 x3.length xk3)) _ _ from ⟨blk_put4 hbox (.slice X0 x0.length xk0) (.int .i64 xT) (.slice X2 x2.length xk2) (.slice X3 x3.length xk3), HS.out⟩); clear hb4 hg hbox hb; obtain ⟨ao, ap, aq, ar⟩ := cells4 HS.out.2.2.1)
  | ((with_reducible refine gate_callee (f := 48) rfl ?_); have q_ := Lr.rd (HS.out.2.2.2.1); refine goesL_ (some 40) rfl rfl Try.func48 (by kernel_rfl) rfl #[.agg #[.slice L0 tr.length lk0, .int .i64 T, .slice L2 ch.length lk2, .slice L3 wa.length lk3], .int .i64 at_, .int .i64 bag] rfl zg ?_; (with_reducible refine (spec_Induct.calls k _ _ tr T _ _ ch _ _ wa at_ bag _ _ _ _ _ _ q_.2.1 q_.1 q_.2.2.2.1 q_.2.2.1 q_.2.2.2.2.2 q_.2.2.2.2.1 D3.out).mono ?_); rintro e w6 ⟨au, av, aw, rfl, ho0, ho2, ho3, hb⟩; refine ⟨_, rfl, ?_⟩; have hL := Lr.mk ho0 (Kd.S_R ho2) (Kd.S_R ho3); obtain ⟨Y0, yk0, Y2, yk2, Y3, yk3, e0, e2, e3⟩ := hL.reads; subst e0 e2 e3; replace HS := zK (Bel.bel HS.out hb); replace HS := zK (show All2 (Lr _ _ _ _ _ _) _ _ from ⟨hL, HS.out⟩); clear hL hb; clear ho0 ho2 ho3 q_; clear he0 he1 he2 he3 aa ab ac ad ao ap aq ar)
  | ((with_reducible refine gate_dst (N := 8) rfl ?_); refine zX 8 #[.slice none 0 0, .int .i64 0, .slice none 0 0, .slice none 0 0] 28 ?_; intro gy hg w7 hbox hb; obtain ⟨he0, he1, he2, he3⟩ := cells4 hbox; have aa := blk_frozen hbox 0; have ab := blk_frozen hbox 1; have ac := blk_frozen hbox 2; have ad := blk_frozen hbox 3; have hb4 := below_put4 (g := gy) hb (by rw [hg]; exact Nat.le_refl _) (.slice Y0 x0.length yk0) (.int .i64 xT) (.slice Y2 x2.length yk2) (.slice Y3 x3.length yk3); replace HS := zK (Bel.bel HS.out hb4); replace HS := zK (show All2 (Bo gy (.slice Y0 x0.length yk0) (.int .i64 xT) (.slice Y2 x2.length yk2) (.slice Y3 x3.length yk3)) _ _ from ⟨blk_put4 hbox (.slice Y0 x0.length yk0) (.int .i64 xT) (.slice Y2 x2.length yk2) (.slice Y3 x3.length yk3), HS.out⟩); clear hb4 hg hbox hb)
  )
 clear he0 he1 he2 he3 aa ab ac ad
 rcases hok : ok with _ | _
 case' false =>
  subst hok
  obtain ⟨z0_, z1_, z2_, z3_⟩ := D6.out (by first | rfl | trivial)
  subst x0 xT x2 x3
  replace HS := zK (Bel.bel HS.out (below_drew (Below.refl _ _)))
  refine start_ (n := 28) (S := fun w' => w'.cell? ⟨gl, 0, none⟩ = some (.slice L0 tr.length lk0) ∧ w'.cell? ⟨gl, 1, none⟩ = some (.int .i64 T) ∧ w'.cell? ⟨gl, 2, none⟩ = some (.slice L2 ch.length lk2) ∧ w'.cell? ⟨gl, 3, none⟩ = some (.slice L3 wa.length lk3) ∧ w'.cell? ⟨gx, 0, none⟩ = some (.slice X0 tr.length xk0) ∧ w'.cell? ⟨gx, 1, none⟩ = some (.int .i64 T) ∧ w'.cell? ⟨gx, 2, none⟩ = some (.slice X2 ch.length xk2) ∧ w'.cell? ⟨gx, 3, none⟩ = some (.slice X3 wa.length xk3) ∧ w'.cell? ⟨gy, 0, none⟩ = some (.slice Y0 tr.length yk0) ∧ w'.cell? ⟨gy, 1, none⟩ = some (.int .i64 T) ∧ w'.cell? ⟨gy, 2, none⟩ = some (.slice Y2 ch.length yk2) ∧ w'.cell? ⟨gy, 3, none⟩ = some (.slice Y3 wa.length yk3)) (ds := []) (zv 28 0) (by kernel_rfl) rfl rfl ⟨(cells4 (HS.out.2.2.2.2.1)).1, (cells4 (HS.out.2.2.2.2.1)).2.1, (cells4 (HS.out.2.2.2.2.1)).2.2.1, (cells4 (HS.out.2.2.2.2.1)).2.2.2, (cells4 (HS.out.2.2.1)).1, (cells4 (HS.out.2.2.1)).2.1, (cells4 (HS.out.2.2.1)).2.2.1, (cells4 (HS.out.2.2.1)).2.2.2, (cells4 (HS.out.1)).1, (cells4 (HS.out.1)).2.1, (cells4 (HS.out.1)).2.2.1, (cells4 (HS.out.1)).2.2.2⟩ (fun hHeld => ?_)
  refine pure_ (i := 0) (N := some 43) (v := ?_) (a' := ?_) (zv 28 1) rfl rfl (by kernel_rfl) (fun _ _ _ h => h) (Or.inl ⟨by rfl, ?_⟩) ?_ ?_
  rotate_left
  · intro w'
    go_simp
    with_reducible rfl
  rotate_left
  · simp only [Act.put, zp, zq, zr, i64_w, i32_w]
    rfl
  refine pure_ (i := 1) (N := some 44) (v := ?_) (a' := ?_) (zv 28 3) rfl rfl (by kernel_rfl) (fun _ _ _ h => h) (Or.inl ⟨by rfl, ?_⟩) ?_ ?_
  rotate_left
  · intro w'
    go_simp
    with_reducible rfl
  rotate_left
  · simp only [Act.put, zp, zq, zr, i64_w, i32_w]
    rfl
  refine pure_ (i := 2) (N := some 45) (v := ?_) (a' := ?_) (zv 28 7) rfl rfl (by kernel_rfl) (fun _ _ _ h => h) (Or.inl ⟨by rfl, ?_⟩) ?_ ?_
  rotate_left
  · intro w'
    go_simp
    with_reducible rfl
  rotate_left
  · simp only [Act.put, zp, zq, zr, i64_w, i32_w]
    rfl
  refine pure_ (i := 3) (N := some 46) (v := ?_) (a' := ?_) (zv 28 15) rfl rfl (by kernel_rfl) (fun _ _ _ h => h) (Or.inl ⟨by rfl, ?_⟩) ?_ ?_
  rotate_left
  · intro w'
    go_simp
    with_reducible rfl
  rotate_left
  · simp only [Act.put, zp, zq, zr, i64_w, i32_w]
    rfl
  refine take_ (i := 4) (N := some 47) (v := ?_) (a' := ?_) (zv 28 31) rfl rfl (by kernel_rfl) (fun _ _ _ h => h) (Or.inl ⟨by rfl, ?_⟩) hHeld ?_ ?_
  rotate_left
  · rintro w' ⟨s0, s1, s2, s3, s4, s5, s6, s7, s8, s9, ai, aj⟩
    go_simp
    with_reducible rfl
  rotate_left
  · simp only [Act.put, zp, zq, zr, i64_w, i32_w]
    rfl
  refine take_ (i := 5) (N := some 48) (v := ?_) (a' := ?_) (zv 28 63) rfl rfl (by kernel_rfl) (fun _ _ _ h => h) (Or.inl ⟨by rfl, ?_⟩) hHeld ?_ ?_
  rotate_left
  · rintro w' ⟨s0, s1, s2, s3, s4, s5, s6, s7, s8, s9, ai, aj⟩
    go_simp
    with_reducible rfl
  rotate_left
  · simp only [Act.put, zp, zq, zr, i64_w, i32_w]
    rfl
  refine one_ (i := 6) (N := some 49) (zv 28 127) rfl rfl (by kernel_rfl) (by decide) (fun K hK => ?_)
  have q_ := Lr.rd (HS.out.2.2.2.1)
  have z_ := Lr.rd (HS.out.2.1)
  refine goes_ Try.func25 (by kernel_rfl) rfl #[.agg #[.slice X0 tr.length xk0, .int .i64 T, .slice X2 ch.length xk2, .slice X3 wa.length xk3], .agg #[.slice Y0 tr.length yk0, .int .i64 T, .slice Y2 ch.length yk2, .slice Y3 wa.length yk3]] (by rfl) rfl rfl (by simp only [List.map_toArray, List.map_cons, List.map_nil]; rfl) ?_
  with_reducible refine (laws_sameLoop.eq _ _ _ _ _ _ _ _ _ _ _ _ tr T ch wa _ q_.2.1 q_.2.2.2.1 q_.2.2.2.2.2 z_.2.1 z_.2.2.2.1 z_.2.2.2.2.2).mono ?_
  rintro e w8 ⟨rfl, hb⟩
  refine ⟨_, rfl, ?_⟩
  replace HS := zK (Bel.bel HS.out hb)
  refine hK.out _ _ ⟨pw_cell_below hb hHeld.1, pw_cell_below hb hHeld.2.1, pw_cell_below hb hHeld.2.2.1, pw_cell_below hb hHeld.2.2.2.1, pw_cell_below hb hHeld.2.2.2.2.1, pw_cell_below hb hHeld.2.2.2.2.2.1, pw_cell_below hb hHeld.2.2.2.2.2.2.1, pw_cell_below hb hHeld.2.2.2.2.2.2.2.1, pw_cell_below hb hHeld.2.2.2.2.2.2.2.2.1, pw_cell_below hb hHeld.2.2.2.2.2.2.2.2.2.1, pw_cell_below hb hHeld.2.2.2.2.2.2.2.2.2.2.1, pw_cell_below hb hHeld.2.2.2.2.2.2.2.2.2.2.2⟩ (fun hHeld => ?_)
  clear hK K
  refine norm_ (a' := ?_) ?_ ?_
  rotate_left
  · show Act.put _ (some 49) _ = _
    simp only [Act.put, zp, zq, zr, i64_w, i32_w]
    rfl
  refine pure_ (i := 7) (N := some 50) (v := ?_) (a' := ?_) (zv 28 255) rfl rfl (by kernel_rfl) (fun _ _ _ h => h) (Or.inl ⟨by rfl, ?_⟩) ?_ ?_
  rotate_left
  · intro w'
    go_simp
    with_reducible rfl
  rotate_left
  · simp only [Act.put, zp, zq, zr, i64_w, i32_w]
    rfl
  refine pure_ (i := 8) (N := some 51) (v := ?_) (a' := ?_) (zv 28 511) rfl rfl (by kernel_rfl) (fun _ _ _ h => h) (Or.inl ⟨by rfl, ?_⟩) ?_ ?_
  rotate_left
  · intro w'
    go_simp
    with_reducible rfl
  rotate_left
  · simp only [Act.put, zp, zq, zr, i64_w, i32_w]
    rfl
  refine pure_ (i := 9) (N := some 52) (v := ?_) (a' := ?_) (zv 28 1023) rfl rfl (by kernel_rfl) (fun _ _ _ h => h) (Or.inl ⟨by rfl, ?_⟩) ?_ ?_
  rotate_left
  · intro w'
    go_simp
    with_reducible rfl
  rotate_left
  · simp only [Act.put, zp, zq, zr, i64_w, i32_w]
    rfl
  refine pure_ (i := 10) (N := some 53) (v := ?_) (a' := ?_) (zv 28 2047) rfl rfl (by kernel_rfl) (fun _ _ _ h => h) (Or.inl ⟨by rfl, ?_⟩) ?_ ?_
  rotate_left
  · intro w'
    go_simp
    with_reducible rfl
  rotate_left
  · simp only [Act.put, zp, zq, zr, i64_w, i32_w]
    rfl
  refine pure_ (i := 11) (N := some 54) (v := ?_) (a' := ?_) (zv 28 4095) rfl rfl (by kernel_rfl) (fun _ _ _ h => h) (Or.inl ⟨by rfl, ?_⟩) ?_ ?_
  rotate_left
  · intro w'
    go_simp
    with_reducible rfl
  rotate_left
  · simp only [Act.put, zp, zq, zr, i64_w, i32_w]
    rfl
  refine pure_ (i := 12) (N := some 55) (v := ?_) (a' := ?_) (zv 28 8191) rfl rfl (by kernel_rfl) (fun _ _ _ h => h) (Or.inl ⟨by rfl, ?_⟩) ?_ ?_
  rotate_left
  · intro w'
    go_simp
    with_reducible rfl
  rotate_left
  · simp only [Act.put, zp, zq, zr, i64_w, i32_w]
    rfl
  refine take_ (i := 13) (N := some 56) (v := ?_) (a' := ?_) (zv 28 16383) rfl rfl (by kernel_rfl) (fun _ _ _ h => h) (Or.inl ⟨by rfl, ?_⟩) hHeld ?_ ?_
  rotate_left
  · rintro w' ⟨s0, s1, s2, s3, s4, s5, s6, s7, s8, s9, ai, aj⟩
    go_simp
    with_reducible rfl
  rotate_left
  · simp only [Act.put, zp, zq, zr, i64_w, i32_w]
    rfl
  refine take_ (i := 14) (N := some 57) (v := ?_) (a' := ?_) (zv 28 32767) rfl rfl (by kernel_rfl) (fun _ _ _ h => h) (Or.inl ⟨by rfl, ?_⟩) hHeld ?_ ?_
  rotate_left
  · rintro w' ⟨s0, s1, s2, s3, s4, s5, s6, s7, s8, s9, ai, aj⟩
    go_simp
    with_reducible rfl
  rotate_left
  · simp only [Act.put, zp, zq, zr, i64_w, i32_w]
    rfl
  refine one_ (i := 15) (N := some 58) (zv 28 65535) rfl rfl (by kernel_rfl) (by decide) (fun K hK => ?_)
  have q_ := Lr.rd (HS.out.2.2.2.1)
  have z_ := Lr.rd (HS.out.2.2.2.2.2.1)
  refine goes_ Try.func25 (by kernel_rfl) rfl #[.agg #[.slice X0 tr.length xk0, .int .i64 T, .slice X2 ch.length xk2, .slice X3 wa.length xk3], .agg #[.slice L0 tr.length lk0, .int .i64 T, .slice L2 ch.length lk2, .slice L3 wa.length lk3]] (by rfl) rfl rfl (by simp only [List.map_toArray, List.map_cons, List.map_nil]; rfl) ?_
  with_reducible refine (laws_sameLoop.eq _ _ _ _ _ _ _ _ _ _ _ _ tr T ch wa _ q_.2.1 q_.2.2.2.1 q_.2.2.2.2.2 z_.2.1 z_.2.2.2.1 z_.2.2.2.2.2).mono ?_
  rintro e w9 ⟨rfl, hb⟩
  refine ⟨_, rfl, ?_⟩
  replace HS := zK (Bel.bel HS.out hb)
  refine hK.out _ _ ⟨pw_cell_below hb hHeld.1, pw_cell_below hb hHeld.2.1, pw_cell_below hb hHeld.2.2.1, pw_cell_below hb hHeld.2.2.2.1, pw_cell_below hb hHeld.2.2.2.2.1, pw_cell_below hb hHeld.2.2.2.2.2.1, pw_cell_below hb hHeld.2.2.2.2.2.2.1, pw_cell_below hb hHeld.2.2.2.2.2.2.2.1, pw_cell_below hb hHeld.2.2.2.2.2.2.2.2.1, pw_cell_below hb hHeld.2.2.2.2.2.2.2.2.2.1, pw_cell_below hb hHeld.2.2.2.2.2.2.2.2.2.2.1, pw_cell_below hb hHeld.2.2.2.2.2.2.2.2.2.2.2⟩ (fun hHeld => ?_)
  clear hK K
  refine norm_ (a' := ?_) ?_ ?_
  rotate_left
  · show Act.put _ (some 58) _ = _
    simp only [Act.put, zp, zq, zr, i64_w, i32_w]
    rfl
  refine pure_ (i := 16) (N := some 59) (v := ?_) (a' := ?_) (zv 28 131071) rfl rfl (by kernel_rfl) (fun _ _ _ h => h) (Or.inl ⟨by rfl, ?_⟩) ?_ ?_
  rotate_left
  · intro w'
    go_simp
    with_reducible rfl
  rotate_left
  · simp only [Act.put, zp, zq, zr, i64_w, i32_w]
    rfl
  refine pure_ (i := 17) (N := some 60) (v := ?_) (a' := ?_) (zv 28 262143) rfl rfl (by kernel_rfl) (fun _ _ _ h => h) (Or.inl ⟨by rfl, ?_⟩) ?_ ?_
  rotate_left
  · intro w'
    go_simp
    with_reducible rfl
  rotate_left
  · simp only [Act.put, zp, zq, zr, i64_w, i32_w]
    rfl
  refine pure_ (i := 18) (N := some 61) (v := ?_) (a' := ?_) (zv 28 524287) rfl rfl (by kernel_rfl) (fun _ _ _ h => h) (Or.inl ⟨by rfl, ?_⟩) ?_ ?_
  rotate_left
  · intro w'
    go_simp
    with_reducible rfl
  rotate_left
  · simp only [Act.put, zp, zq, zr, i64_w, i32_w]
    rfl
  refine pure_ (i := 19) (N := some 62) (v := ?_) (a' := ?_) (zv 28 1048575) rfl rfl (by kernel_rfl) (fun _ _ _ h => h) (Or.inl ⟨by rfl, ?_⟩) ?_ ?_
  rotate_left
  · intro w'
    go_simp
    with_reducible rfl
  rotate_left
  · simp only [Act.put, zp, zq, zr, i64_w, i32_w]
    rfl
  refine pure_ (i := 21) (N := some 64) (v := ?_) (a' := ?_) (zv 28 3145727) rfl rfl (by kernel_rfl) (fun _ _ _ h => h) (Or.inl ⟨by rfl, ?_⟩) ?_ ?_
  rotate_left
  · intro w'
    go_simp
    with_reducible rfl
  rotate_left
  · simp only [Act.put, zp, zq, zr, i64_w, i32_w]
    rfl
  refine pure_ (i := 24) (N := some 67) (v := ?_) (a' := ?_) (zv 28 19922943) rfl rfl (by kernel_rfl) (fun _ _ _ h => h) (Or.inl ⟨by rfl, ?_⟩) ?_ ?_
  rotate_left
  · intro w'
    go_simp
    with_reducible rfl
  rotate_left
  · simp only [Act.put, zp, zq, zr, i64_w, i32_w]
    rfl
  refine take_ (i := 20) (N := some 63) (v := ?_) (a' := ?_) (zv 28 20971519) rfl rfl (by kernel_rfl) (fun _ _ _ h => h) (Or.inl ⟨by rfl, ?_⟩) hHeld ?_ ?_
  rotate_left
  · rintro w' ⟨s0, s1, s2, s3, s4, s5, s6, s7, s8, s9, ai, aj⟩
    go_simp
    with_reducible rfl
  rotate_left
  · simp only [Act.put, zp, zq, zr, i64_w, i32_w]
    rfl
  refine take_ (i := 23) (N := some 66) (v := ?_) (a' := ?_) (zv 28 29360127) rfl rfl (by kernel_rfl) (fun _ _ _ h => h) (Or.inl ⟨by rfl, ?_⟩) hHeld ?_ ?_
  rotate_left
  · rintro w' ⟨s0, s1, s2, s3, s4, s5, s6, s7, s8, s9, ai, aj⟩
    go_simp
    with_reducible rfl
  rotate_left
  · simp only [Act.put, zp, zq, zr, i64_w, i32_w]
    rfl
  refine one_ (i := 22) (N := some 65) (zv 28 33554431) rfl rfl (by kernel_rfl) (by decide) (fun K hK => ?_)
  have q_ := Lr.rd (HS.out.2.2.2.2.2.1)
  refine goes_ Try.func35 (by kernel_rfl) rfl #[.agg #[.slice L0 tr.length lk0, .int .i64 T, .slice L2 ch.length lk2, .slice L3 wa.length lk3], .int .i64 at_] (by rfl) rfl rfl (by simp only [List.map_toArray, List.map_cons, List.map_nil]; rfl) ?_
  with_reducible refine (impl_TrayAt.calls k _ _ tr T _ _ ch _ _ wa at_ p _ q_.2.1 q_.1 q_.2.2.2.1 q_.2.2.1 q_.2.2.2.2.2 q_.2.2.2.2.1 D4.out).mono ?_
  rintro e w10 ⟨rfl, hb⟩
  refine ⟨_, rfl, ?_⟩
  replace HS := zK (Bel.bel HS.out hb)
  refine hK.out _ _ ⟨pw_cell_below hb hHeld.1, pw_cell_below hb hHeld.2.1, pw_cell_below hb hHeld.2.2.1, pw_cell_below hb hHeld.2.2.2.1, pw_cell_below hb hHeld.2.2.2.2.1, pw_cell_below hb hHeld.2.2.2.2.2.1, pw_cell_below hb hHeld.2.2.2.2.2.2.1, pw_cell_below hb hHeld.2.2.2.2.2.2.2.1, pw_cell_below hb hHeld.2.2.2.2.2.2.2.2.1, pw_cell_below hb hHeld.2.2.2.2.2.2.2.2.2.1, pw_cell_below hb hHeld.2.2.2.2.2.2.2.2.2.2.1, pw_cell_below hb hHeld.2.2.2.2.2.2.2.2.2.2.2⟩ (fun hHeld => ?_)
  clear hK K
  refine norm_ (a' := ?_) ?_ ?_
  rotate_left
  · show Act.put _ (some 65) _ = _
    simp only [Act.put, zp, zq, zr, i64_w, i32_w]
    rfl
  refine one_ (i := 25) (N := some 68) (zv 28 67108863) rfl rfl (by kernel_rfl) (by decide) (fun K hK => ?_)
  have q_ := Lr.rd (HS.out.2.2.2.2.2.1)
  refine goes_ Try.func34 (by kernel_rfl) rfl #[.agg #[.slice L0 tr.length lk0, .int .i64 T, .slice L2 ch.length lk2, .slice L3 wa.length lk3], .int .i64 at_] (by rfl) rfl rfl (by simp only [List.map_toArray, List.map_cons, List.map_nil]; rfl) ?_
  with_reducible refine (spec_TrayAt.calls k _ _ tr T _ _ ch _ _ wa at_ p _ q_.2.1 q_.1 q_.2.2.2.1 q_.2.2.1 q_.2.2.2.2.2 q_.2.2.2.2.1 D5.out).mono ?_
  rintro e w11 ⟨rfl, hb⟩
  refine ⟨_, rfl, ?_⟩
  replace HS := zK (Bel.bel HS.out hb)
  refine hK.out _ _ ⟨pw_cell_below hb hHeld.1, pw_cell_below hb hHeld.2.1, pw_cell_below hb hHeld.2.2.1, pw_cell_below hb hHeld.2.2.2.1, pw_cell_below hb hHeld.2.2.2.2.1, pw_cell_below hb hHeld.2.2.2.2.2.1, pw_cell_below hb hHeld.2.2.2.2.2.2.1, pw_cell_below hb hHeld.2.2.2.2.2.2.2.1, pw_cell_below hb hHeld.2.2.2.2.2.2.2.2.1, pw_cell_below hb hHeld.2.2.2.2.2.2.2.2.2.1, pw_cell_below hb hHeld.2.2.2.2.2.2.2.2.2.2.1, pw_cell_below hb hHeld.2.2.2.2.2.2.2.2.2.2.2⟩ (fun hHeld => ?_)
  clear hK K
  refine norm_ (a' := ?_) ?_ ?_
  rotate_left
  · show Act.put _ (some 68) _ = _
    simp only [Act.put, zp, zq, zr, i64_w, i32_w]
    rfl
  refine pure_ (i := 26) (N := some 69) (v := ?_) (a' := ?_) (zv 28 134217727) rfl rfl (by kernel_rfl) (fun _ _ _ h => h) (Or.inl ⟨by rfl, ?_⟩) ?_ ?_
  rotate_left
  · intro w'
    go_simp
    with_reducible rfl
  rotate_left
  · simp only [Act.put, zp, zq, zr, i64_w, i32_w]
    rfl
  refine pure_ (i := 27) (N := some 70) (v := ?_) (a' := ?_) (zv 28 268435455) rfl rfl (by kernel_rfl) (fun _ _ _ h => h) (Or.inl ⟨by rfl, ?_⟩) ?_ ?_
  rotate_left
  · intro w'
    go_simp
    with_reducible rfl
  rotate_left
  · simp only [Act.put, zp, zq, zr, i64_w, i32_w]
    rfl
  refine done_ (by kernel_rfl) ?_
  go_wp2
  replace HS := zK (Bel.bel HS.out (below_drew (Below.refl _ _)))
  refine start_ (n := 25) (S := fun w' => True) (ds := []) (zv 25 0) (by kernel_rfl) rfl rfl trivial (fun hHeld => ?_)
  refine pure_ (i := 0) (N := some 71) (v := ?_) (a' := ?_) (zv 25 1) rfl rfl (by kernel_rfl) (fun _ _ _ h => h) (Or.inl ⟨by rfl, ?_⟩) ?_ ?_
  rotate_left
  · intro w'
    go_simp
    with_reducible rfl
  rotate_left
  · simp only [Act.put, zp, zq, zr, i64_w, i32_w]
    rfl
  refine pure_ (i := 1) (N := some 72) (v := ?_) (a' := ?_) (zv 25 3) rfl rfl (by kernel_rfl) (fun _ _ _ h => h) (Or.inl ⟨by rfl, ?_⟩) ?_ ?_
  rotate_left
  · intro w'
    go_simp
    with_reducible rfl
  rotate_left
  · simp only [Act.put, zp, zq, zr, i64_w, i32_w]
    rfl
  refine pure_ (i := 2) (N := some 73) (v := undef) (a' := ?_) (zv 25 7) rfl rfl (by kernel_rfl) (fun _ _ _ h => h) (Or.inr ⟨by rfl, rfl⟩) ?_ ?_
  rotate_left
  · simp only [Act.put, zp, zq, zr, i64_w, i32_w]
    rfl
  refine pure_ (i := 3) (N := some 74) (v := undef) (a' := ?_) (zv 25 15) rfl rfl (by kernel_rfl) (fun _ _ _ h => h) (Or.inr ⟨by rfl, rfl⟩) ?_ ?_
  rotate_left
  · simp only [Act.put, zp, zq, zr, i64_w, i32_w]
    rfl
  refine pure_ (i := 4) (N := some 75) (v := undef) (a' := ?_) (zv 25 31) rfl rfl (by kernel_rfl) (fun _ _ _ h => h) (Or.inr ⟨by rfl, rfl⟩) ?_ ?_
  rotate_left
  · simp only [Act.put, zp, zq, zr, i64_w, i32_w]
    rfl
  refine pure_ (i := 5) (N := some 76) (v := undef) (a' := ?_) (zv 25 63) rfl rfl (by kernel_rfl) (fun _ _ _ h => h) (Or.inr ⟨by rfl, rfl⟩) ?_ ?_
  rotate_left
  · simp only [Act.put, zp, zq, zr, i64_w, i32_w]
    rfl
  refine pure_ (i := 6) (N := some 77) (v := undef) (a' := ?_) (zv 25 127) rfl rfl (by kernel_rfl) (fun _ _ _ h => h) (Or.inr ⟨by rfl, rfl⟩) ?_ ?_
  rotate_left
  · simp only [Act.put, zp, zq, zr, i64_w, i32_w]
    rfl
  refine pure_ (i := 7) (N := some 78) (v := undef) (a' := ?_) (zv 25 255) rfl rfl (by kernel_rfl) (fun _ _ _ h => h) (Or.inr ⟨by rfl, rfl⟩) ?_ ?_
  rotate_left
  · simp only [Act.put, zp, zq, zr, i64_w, i32_w]
    rfl
  refine pure_ (i := 8) (N := some 79) (v := undef) (a' := ?_) (zv 25 511) rfl rfl (by kernel_rfl) (fun _ _ _ h => h) (Or.inr ⟨by rfl, rfl⟩) ?_ ?_
  rotate_left
  · simp only [Act.put, zp, zq, zr, i64_w, i32_w]
    rfl
  refine pure_ (i := 9) (N := some 80) (v := undef) (a' := ?_) (zv 25 1023) rfl rfl (by kernel_rfl) (fun _ _ _ h => h) (Or.inr ⟨by rfl, rfl⟩) ?_ ?_
  rotate_left
  · simp only [Act.put, zp, zq, zr, i64_w, i32_w]
    rfl
  refine pure_ (i := 10) (N := some 81) (v := undef) (a' := ?_) (zv 25 2047) rfl rfl (by kernel_rfl) (fun _ _ _ h => h) (Or.inr ⟨by rfl, rfl⟩) ?_ ?_
  rotate_left
  · simp only [Act.put, zp, zq, zr, i64_w, i32_w]
    rfl
  refine pure_ (i := 11) (N := some 82) (v := undef) (a' := ?_) (zv 25 4095) rfl rfl (by kernel_rfl) (fun _ _ _ h => h) (Or.inr ⟨by rfl, rfl⟩) ?_ ?_
  rotate_left
  · simp only [Act.put, zp, zq, zr, i64_w, i32_w]
    rfl
  refine pure_ (i := 12) (N := some 83) (v := undef) (a' := ?_) (zv 25 8191) rfl rfl (by kernel_rfl) (fun _ _ _ h => h) (Or.inr ⟨by rfl, rfl⟩) ?_ ?_
  rotate_left
  · simp only [Act.put, zp, zq, zr, i64_w, i32_w]
    rfl
  refine pure_ (i := 13) (N := some 84) (v := undef) (a' := ?_) (zv 25 16383) rfl rfl (by kernel_rfl) (fun _ _ _ h => h) (Or.inr ⟨by rfl, rfl⟩) ?_ ?_
  rotate_left
  · simp only [Act.put, zp, zq, zr, i64_w, i32_w]
    rfl
  refine pure_ (i := 14) (N := some 85) (v := undef) (a' := ?_) (zv 25 32767) rfl rfl (by kernel_rfl) (fun _ _ _ h => h) (Or.inr ⟨by rfl, rfl⟩) ?_ ?_
  rotate_left
  · simp only [Act.put, zp, zq, zr, i64_w, i32_w]
    rfl
  refine pure_ (i := 15) (N := some 86) (v := undef) (a' := ?_) (zv 25 65535) rfl rfl (by kernel_rfl) (fun _ _ _ h => h) (Or.inr ⟨by rfl, rfl⟩) ?_ ?_
  rotate_left
  · simp only [Act.put, zp, zq, zr, i64_w, i32_w]
    rfl
  refine pure_ (i := 16) (N := some 87) (v := undef) (a' := ?_) (zv 25 131071) rfl rfl (by kernel_rfl) (fun _ _ _ h => h) (Or.inr ⟨by rfl, rfl⟩) ?_ ?_
  rotate_left
  · simp only [Act.put, zp, zq, zr, i64_w, i32_w]
    rfl
  refine pure_ (i := 17) (N := some 88) (v := undef) (a' := ?_) (zv 25 262143) rfl rfl (by kernel_rfl) (fun _ _ _ h => h) (Or.inr ⟨by rfl, rfl⟩) ?_ ?_
  rotate_left
  · simp only [Act.put, zp, zq, zr, i64_w, i32_w]
    rfl
  refine pure_ (i := 18) (N := some 89) (v := undef) (a' := ?_) (zv 25 524287) rfl rfl (by kernel_rfl) (fun _ _ _ h => h) (Or.inr ⟨by rfl, rfl⟩) ?_ ?_
  rotate_left
  · simp only [Act.put, zp, zq, zr, i64_w, i32_w]
    rfl
  refine pure_ (i := 19) (N := some 90) (v := undef) (a' := ?_) (zv 25 1048575) rfl rfl (by kernel_rfl) (fun _ _ _ h => h) (Or.inr ⟨by rfl, rfl⟩) ?_ ?_
  rotate_left
  · simp only [Act.put, zp, zq, zr, i64_w, i32_w]
    rfl
  refine pure_ (i := 20) (N := some 91) (v := undef) (a' := ?_) (zv 25 2097151) rfl rfl (by kernel_rfl) (fun _ _ _ h => h) (Or.inr ⟨by rfl, rfl⟩) ?_ ?_
  rotate_left
  · simp only [Act.put, zp, zq, zr, i64_w, i32_w]
    rfl
  refine pure_ (i := 21) (N := some 92) (v := undef) (a' := ?_) (zv 25 4194303) rfl rfl (by kernel_rfl) (fun _ _ _ h => h) (Or.inr ⟨by rfl, rfl⟩) ?_ ?_
  rotate_left
  · simp only [Act.put, zp, zq, zr, i64_w, i32_w]
    rfl
  refine pure_ (i := 22) (N := some 93) (v := undef) (a' := ?_) (zv 25 8388607) rfl rfl (by kernel_rfl) (fun _ _ _ h => h) (Or.inr ⟨by rfl, rfl⟩) ?_ ?_
  rotate_left
  · simp only [Act.put, zp, zq, zr, i64_w, i32_w]
    rfl
  refine pure_ (i := 23) (N := some 94) (v := undef) (a' := ?_) (zv 25 16777215) rfl rfl (by kernel_rfl) (fun _ _ _ h => h) (Or.inr ⟨by rfl, rfl⟩) ?_ ?_
  rotate_left
  · simp only [Act.put, zp, zq, zr, i64_w, i32_w]
    rfl
  refine pure_ (i := 24) (N := some 95) (v := ?_) (a' := ?_) (zv 25 33554431) rfl rfl (by kernel_rfl) (fun _ _ _ h => h) (Or.inl ⟨by rfl, ?_⟩) ?_ ?_
  rotate_left
  · intro w'
    go_simp
    with_reducible rfl
  rotate_left
  · simp only [Act.put, zp, zq, zr, i64_w, i32_w]
    rfl
  refine done_ (by kernel_rfl) ?_
  go_upto_region 10 with (fail)
 case' true =>
  subst hok
  replace HS := zK (Bel.bel HS.out (below_drew (Below.refl _ _)))
  refine start_ (n := 28) (S := fun w' => w'.cell? ⟨gl, 0, none⟩ = some (.slice L0 tr.length lk0) ∧ w'.cell? ⟨gl, 1, none⟩ = some (.int .i64 T) ∧ w'.cell? ⟨gl, 2, none⟩ = some (.slice L2 ch.length lk2) ∧ w'.cell? ⟨gl, 3, none⟩ = some (.slice L3 wa.length lk3) ∧ w'.cell? ⟨gx, 0, none⟩ = some (.slice X0 x0.length xk0) ∧ w'.cell? ⟨gx, 1, none⟩ = some (.int .i64 xT) ∧ w'.cell? ⟨gx, 2, none⟩ = some (.slice X2 x2.length xk2) ∧ w'.cell? ⟨gx, 3, none⟩ = some (.slice X3 x3.length xk3) ∧ w'.cell? ⟨gy, 0, none⟩ = some (.slice Y0 x0.length yk0) ∧ w'.cell? ⟨gy, 1, none⟩ = some (.int .i64 xT) ∧ w'.cell? ⟨gy, 2, none⟩ = some (.slice Y2 x2.length yk2) ∧ w'.cell? ⟨gy, 3, none⟩ = some (.slice Y3 x3.length yk3)) (ds := []) (zv 28 0) (by kernel_rfl) rfl rfl ⟨(cells4 (HS.out.2.2.2.2.1)).1, (cells4 (HS.out.2.2.2.2.1)).2.1, (cells4 (HS.out.2.2.2.2.1)).2.2.1, (cells4 (HS.out.2.2.2.2.1)).2.2.2, (cells4 (HS.out.2.2.1)).1, (cells4 (HS.out.2.2.1)).2.1, (cells4 (HS.out.2.2.1)).2.2.1, (cells4 (HS.out.2.2.1)).2.2.2, (cells4 (HS.out.1)).1, (cells4 (HS.out.1)).2.1, (cells4 (HS.out.1)).2.2.1, (cells4 (HS.out.1)).2.2.2⟩ (fun hHeld => ?_)
  refine pure_ (i := 0) (N := some 43) (v := ?_) (a' := ?_) (zv 28 1) rfl rfl (by kernel_rfl) (fun _ _ _ h => h) (Or.inl ⟨by rfl, ?_⟩) ?_ ?_
  rotate_left
  · intro w'
    go_simp
    with_reducible rfl
  rotate_left
  · simp only [Act.put, zp, zq, zr, i64_w, i32_w]
    rfl
  refine pure_ (i := 1) (N := some 44) (v := ?_) (a' := ?_) (zv 28 3) rfl rfl (by kernel_rfl) (fun _ _ _ h => h) (Or.inl ⟨by rfl, ?_⟩) ?_ ?_
  rotate_left
  · intro w'
    go_simp
    with_reducible rfl
  rotate_left
  · simp only [Act.put, zp, zq, zr, i64_w, i32_w]
    rfl
  refine pure_ (i := 2) (N := some 45) (v := ?_) (a' := ?_) (zv 28 7) rfl rfl (by kernel_rfl) (fun _ _ _ h => h) (Or.inl ⟨by rfl, ?_⟩) ?_ ?_
  rotate_left
  · intro w'
    go_simp
    with_reducible rfl
  rotate_left
  · simp only [Act.put, zp, zq, zr, i64_w, i32_w]
    rfl
  refine pure_ (i := 3) (N := some 46) (v := ?_) (a' := ?_) (zv 28 15) rfl rfl (by kernel_rfl) (fun _ _ _ h => h) (Or.inl ⟨by rfl, ?_⟩) ?_ ?_
  rotate_left
  · intro w'
    go_simp
    with_reducible rfl
  rotate_left
  · simp only [Act.put, zp, zq, zr, i64_w, i32_w]
    rfl
  refine take_ (i := 4) (N := some 47) (v := ?_) (a' := ?_) (zv 28 31) rfl rfl (by kernel_rfl) (fun _ _ _ h => h) (Or.inl ⟨by rfl, ?_⟩) hHeld ?_ ?_
  rotate_left
  · rintro w' ⟨s0, s1, s2, s3, s4, s5, s6, s7, s8, s9, ai, aj⟩
    go_simp
    with_reducible rfl
  rotate_left
  · simp only [Act.put, zp, zq, zr, i64_w, i32_w]
    rfl
  refine take_ (i := 5) (N := some 48) (v := ?_) (a' := ?_) (zv 28 63) rfl rfl (by kernel_rfl) (fun _ _ _ h => h) (Or.inl ⟨by rfl, ?_⟩) hHeld ?_ ?_
  rotate_left
  · rintro w' ⟨s0, s1, s2, s3, s4, s5, s6, s7, s8, s9, ai, aj⟩
    go_simp
    with_reducible rfl
  rotate_left
  · simp only [Act.put, zp, zq, zr, i64_w, i32_w]
    rfl
  refine one_ (i := 6) (N := some 49) (zv 28 127) rfl rfl (by kernel_rfl) (by decide) (fun K hK => ?_)
  have q_ := Lr.rd (HS.out.2.2.2.1)
  have z_ := Lr.rd (HS.out.2.1)
  refine goes_ Try.func25 (by kernel_rfl) rfl #[.agg #[.slice X0 x0.length xk0, .int .i64 xT, .slice X2 x2.length xk2, .slice X3 x3.length xk3], .agg #[.slice Y0 x0.length yk0, .int .i64 xT, .slice Y2 x2.length yk2, .slice Y3 x3.length yk3]] (by rfl) rfl rfl (by simp only [List.map_toArray, List.map_cons, List.map_nil]; rfl) ?_
  with_reducible refine (laws_sameLoop.eq _ _ _ _ _ _ _ _ _ _ _ _ x0 xT x2 x3 _ q_.2.1 q_.2.2.2.1 q_.2.2.2.2.2 z_.2.1 z_.2.2.2.1 z_.2.2.2.2.2).mono ?_
  rintro e w8 ⟨rfl, hb⟩
  refine ⟨_, rfl, ?_⟩
  replace HS := zK (Bel.bel HS.out hb)
  refine hK.out _ _ ⟨pw_cell_below hb hHeld.1, pw_cell_below hb hHeld.2.1, pw_cell_below hb hHeld.2.2.1, pw_cell_below hb hHeld.2.2.2.1, pw_cell_below hb hHeld.2.2.2.2.1, pw_cell_below hb hHeld.2.2.2.2.2.1, pw_cell_below hb hHeld.2.2.2.2.2.2.1, pw_cell_below hb hHeld.2.2.2.2.2.2.2.1, pw_cell_below hb hHeld.2.2.2.2.2.2.2.2.1, pw_cell_below hb hHeld.2.2.2.2.2.2.2.2.2.1, pw_cell_below hb hHeld.2.2.2.2.2.2.2.2.2.2.1, pw_cell_below hb hHeld.2.2.2.2.2.2.2.2.2.2.2⟩ (fun hHeld => ?_)
  clear hK K
  refine norm_ (a' := ?_) ?_ ?_
  rotate_left
  · show Act.put _ (some 49) _ = _
    simp only [Act.put, zp, zq, zr, i64_w, i32_w]
    rfl
  refine pure_ (i := 7) (N := some 50) (v := ?_) (a' := ?_) (zv 28 255) rfl rfl (by kernel_rfl) (fun _ _ _ h => h) (Or.inl ⟨by rfl, ?_⟩) ?_ ?_
  rotate_left
  · intro w'
    go_simp
    with_reducible rfl
  rotate_left
  · simp only [Act.put, zp, zq, zr, i64_w, i32_w]
    rfl
  refine pure_ (i := 8) (N := some 51) (v := ?_) (a' := ?_) (zv 28 511) rfl rfl (by kernel_rfl) (fun _ _ _ h => h) (Or.inl ⟨by rfl, ?_⟩) ?_ ?_
  rotate_left
  · intro w'
    go_simp
    with_reducible rfl
  rotate_left
  · simp only [Act.put, zp, zq, zr, i64_w, i32_w]
    rfl
  refine pure_ (i := 9) (N := some 52) (v := ?_) (a' := ?_) (zv 28 1023) rfl rfl (by kernel_rfl) (fun _ _ _ h => h) (Or.inl ⟨by rfl, ?_⟩) ?_ ?_
  rotate_left
  · intro w'
    go_simp
    with_reducible rfl
  rotate_left
  · simp only [Act.put, zp, zq, zr, i64_w, i32_w]
    rfl
  refine pure_ (i := 10) (N := some 53) (v := ?_) (a' := ?_) (zv 28 2047) rfl rfl (by kernel_rfl) (fun _ _ _ h => h) (Or.inl ⟨by rfl, ?_⟩) ?_ ?_
  rotate_left
  · intro w'
    go_simp
    with_reducible rfl
  rotate_left
  · simp only [Act.put, zp, zq, zr, i64_w, i32_w]
    rfl
  refine pure_ (i := 11) (N := some 54) (v := ?_) (a' := ?_) (zv 28 4095) rfl rfl (by kernel_rfl) (fun _ _ _ h => h) (Or.inl ⟨by rfl, ?_⟩) ?_ ?_
  rotate_left
  · intro w'
    go_simp
    with_reducible rfl
  rotate_left
  · simp only [Act.put, zp, zq, zr, i64_w, i32_w]
    rfl
  refine pure_ (i := 12) (N := some 55) (v := ?_) (a' := ?_) (zv 28 8191) rfl rfl (by kernel_rfl) (fun _ _ _ h => h) (Or.inl ⟨by rfl, ?_⟩) ?_ ?_
  rotate_left
  · intro w'
    go_simp
    with_reducible rfl
  rotate_left
  · simp only [Act.put, zp, zq, zr, i64_w, i32_w]
    rfl
  refine pure_ (i := 13) (N := some 56) (v := undef) (a' := ?_) (zv 28 16383) rfl rfl (by kernel_rfl) (fun _ _ _ h => h) (Or.inr ⟨by rfl, rfl⟩) ?_ ?_
  rotate_left
  · simp only [Act.put, zp, zq, zr, i64_w, i32_w]
    rfl
  refine pure_ (i := 14) (N := some 57) (v := undef) (a' := ?_) (zv 28 32767) rfl rfl (by kernel_rfl) (fun _ _ _ h => h) (Or.inr ⟨by rfl, rfl⟩) ?_ ?_
  rotate_left
  · simp only [Act.put, zp, zq, zr, i64_w, i32_w]
    rfl
  refine pure_ (i := 15) (N := some 58) (v := undef) (a' := ?_) (zv 28 65535) rfl rfl (by kernel_rfl) (fun _ _ _ h => h) (Or.inr ⟨by rfl, rfl⟩) ?_ ?_
  rotate_left
  · simp only [Act.put, zp, zq, zr, i64_w, i32_w]
    rfl
  refine pure_ (i := 16) (N := some 59) (v := undef) (a' := ?_) (zv 28 131071) rfl rfl (by kernel_rfl) (fun _ _ _ h => h) (Or.inr ⟨by rfl, rfl⟩) ?_ ?_
  rotate_left
  · simp only [Act.put, zp, zq, zr, i64_w, i32_w]
    rfl
  refine pure_ (i := 17) (N := some 60) (v := ?_) (a' := ?_) (zv 28 262143) rfl rfl (by kernel_rfl) (fun _ _ _ h => h) (Or.inl ⟨by rfl, ?_⟩) ?_ ?_
  rotate_left
  · intro w'
    go_simp
    with_reducible rfl
  rotate_left
  · simp only [Act.put, zp, zq, zr, i64_w, i32_w]
    rfl
  refine pure_ (i := 18) (N := some 61) (v := ?_) (a' := ?_) (zv 28 524287) rfl rfl (by kernel_rfl) (fun _ _ _ h => h) (Or.inl ⟨by rfl, ?_⟩) ?_ ?_
  rotate_left
  · intro w'
    go_simp
    with_reducible rfl
  rotate_left
  · simp only [Act.put, zp, zq, zr, i64_w, i32_w]
    rfl
  refine pure_ (i := 19) (N := some 62) (v := ?_) (a' := ?_) (zv 28 1048575) rfl rfl (by kernel_rfl) (fun _ _ _ h => h) (Or.inl ⟨by rfl, ?_⟩) ?_ ?_
  rotate_left
  · intro w'
    go_simp
    with_reducible rfl
  rotate_left
  · simp only [Act.put, zp, zq, zr, i64_w, i32_w]
    rfl
  refine pure_ (i := 21) (N := some 64) (v := ?_) (a' := ?_) (zv 28 3145727) rfl rfl (by kernel_rfl) (fun _ _ _ h => h) (Or.inl ⟨by rfl, ?_⟩) ?_ ?_
  rotate_left
  · intro w'
    go_simp
    with_reducible rfl
  rotate_left
  · simp only [Act.put, zp, zq, zr, i64_w, i32_w]
    rfl
  refine pure_ (i := 24) (N := some 67) (v := ?_) (a' := ?_) (zv 28 19922943) rfl rfl (by kernel_rfl) (fun _ _ _ h => h) (Or.inl ⟨by rfl, ?_⟩) ?_ ?_
  rotate_left
  · intro w'
    go_simp
    with_reducible rfl
  rotate_left
  · simp only [Act.put, zp, zq, zr, i64_w, i32_w]
    rfl
  refine take_ (i := 20) (N := some 63) (v := ?_) (a' := ?_) (zv 28 20971519) rfl rfl (by kernel_rfl) (fun _ _ _ h => h) (Or.inl ⟨by rfl, ?_⟩) hHeld ?_ ?_
  rotate_left
  · rintro w' ⟨s0, s1, s2, s3, s4, s5, s6, s7, s8, s9, ai, aj⟩
    go_simp
    with_reducible rfl
  rotate_left
  · simp only [Act.put, zp, zq, zr, i64_w, i32_w]
    rfl
  refine take_ (i := 23) (N := some 66) (v := ?_) (a' := ?_) (zv 28 29360127) rfl rfl (by kernel_rfl) (fun _ _ _ h => h) (Or.inl ⟨by rfl, ?_⟩) hHeld ?_ ?_
  rotate_left
  · rintro w' ⟨s0, s1, s2, s3, s4, s5, s6, s7, s8, s9, ai, aj⟩
    go_simp
    with_reducible rfl
  rotate_left
  · simp only [Act.put, zp, zq, zr, i64_w, i32_w]
    rfl
  refine one_ (i := 22) (N := some 65) (zv 28 33554431) rfl rfl (by kernel_rfl) (by decide) (fun K hK => ?_)
  have q_ := Lr.rd (HS.out.2.2.2.2.2.1)
  refine goes_ Try.func35 (by kernel_rfl) rfl #[.agg #[.slice L0 tr.length lk0, .int .i64 T, .slice L2 ch.length lk2, .slice L3 wa.length lk3], .int .i64 at_] (by rfl) rfl rfl (by simp only [List.map_toArray, List.map_cons, List.map_nil]; rfl) ?_
  with_reducible refine (impl_TrayAt.calls k _ _ tr T _ _ ch _ _ wa at_ p _ q_.2.1 q_.1 q_.2.2.2.1 q_.2.2.1 q_.2.2.2.2.2 q_.2.2.2.2.1 D4.out).mono ?_
  rintro e w9 ⟨rfl, hb⟩
  refine ⟨_, rfl, ?_⟩
  replace HS := zK (Bel.bel HS.out hb)
  refine hK.out _ _ ⟨pw_cell_below hb hHeld.1, pw_cell_below hb hHeld.2.1, pw_cell_below hb hHeld.2.2.1, pw_cell_below hb hHeld.2.2.2.1, pw_cell_below hb hHeld.2.2.2.2.1, pw_cell_below hb hHeld.2.2.2.2.2.1, pw_cell_below hb hHeld.2.2.2.2.2.2.1, pw_cell_below hb hHeld.2.2.2.2.2.2.2.1, pw_cell_below hb hHeld.2.2.2.2.2.2.2.2.1, pw_cell_below hb hHeld.2.2.2.2.2.2.2.2.2.1, pw_cell_below hb hHeld.2.2.2.2.2.2.2.2.2.2.1, pw_cell_below hb hHeld.2.2.2.2.2.2.2.2.2.2.2⟩ (fun hHeld => ?_)
  clear hK K
  refine norm_ (a' := ?_) ?_ ?_
  rotate_left
  · show Act.put _ (some 65) _ = _
    simp only [Act.put, zp, zq, zr, i64_w, i32_w]
    rfl
  refine one_ (i := 25) (N := some 68) (zv 28 67108863) rfl rfl (by kernel_rfl) (by decide) (fun K hK => ?_)
  have q_ := Lr.rd (HS.out.2.2.2.2.2.1)
  refine goes_ Try.func34 (by kernel_rfl) rfl #[.agg #[.slice L0 tr.length lk0, .int .i64 T, .slice L2 ch.length lk2, .slice L3 wa.length lk3], .int .i64 at_] (by rfl) rfl rfl (by simp only [List.map_toArray, List.map_cons, List.map_nil]; rfl) ?_
  with_reducible refine (spec_TrayAt.calls k _ _ tr T _ _ ch _ _ wa at_ p _ q_.2.1 q_.1 q_.2.2.2.1 q_.2.2.1 q_.2.2.2.2.2 q_.2.2.2.2.1 D5.out).mono ?_
  rintro e w10 ⟨rfl, hb⟩
  refine ⟨_, rfl, ?_⟩
  replace HS := zK (Bel.bel HS.out hb)
  refine hK.out _ _ ⟨pw_cell_below hb hHeld.1, pw_cell_below hb hHeld.2.1, pw_cell_below hb hHeld.2.2.1, pw_cell_below hb hHeld.2.2.2.1, pw_cell_below hb hHeld.2.2.2.2.1, pw_cell_below hb hHeld.2.2.2.2.2.1, pw_cell_below hb hHeld.2.2.2.2.2.2.1, pw_cell_below hb hHeld.2.2.2.2.2.2.2.1, pw_cell_below hb hHeld.2.2.2.2.2.2.2.2.1, pw_cell_below hb hHeld.2.2.2.2.2.2.2.2.2.1, pw_cell_below hb hHeld.2.2.2.2.2.2.2.2.2.2.1, pw_cell_below hb hHeld.2.2.2.2.2.2.2.2.2.2.2⟩ (fun hHeld => ?_)
  clear hK K
  refine norm_ (a' := ?_) ?_ ?_
  rotate_left
  · show Act.put _ (some 68) _ = _
    simp only [Act.put, zp, zq, zr, i64_w, i32_w]
    rfl
  refine pure_ (i := 26) (N := some 69) (v := ?_) (a' := ?_) (zv 28 134217727) rfl rfl (by kernel_rfl) (fun _ _ _ h => h) (Or.inl ⟨by rfl, ?_⟩) ?_ ?_
  rotate_left
  · intro w'
    go_simp
    with_reducible rfl
  rotate_left
  · simp only [Act.put, zp, zq, zr, i64_w, i32_w]
    rfl
  refine pure_ (i := 27) (N := some 70) (v := ?_) (a' := ?_) (zv 28 268435455) rfl rfl (by kernel_rfl) (fun _ _ _ h => h) (Or.inl ⟨by rfl, ?_⟩) ?_ ?_
  rotate_left
  · intro w'
    go_simp
    with_reducible rfl
  rotate_left
  · simp only [Act.put, zp, zq, zr, i64_w, i32_w]
    rfl
  refine done_ (by kernel_rfl) ?_
  go_wp2
  obtain ⟨d1_, d2_, d3_, q, n, d4_, d5_, d6_, d7_, d8_, d9_⟩ := D7.out (by first | rfl | trivial)
  subst d2_ d3_
  have K1 := zK d1_; have K2 := zK d4_; have K3 := zK d8_; have K4 := zK d9_
  have C1 := (Lr.rd (HS.out.2.2.2.1)).2.1
  obtain ⟨adq, eq_, hxq⟩ := Kd.at_int C1 q d5_ d6_
  cases eq_
  rw [d7_] at hxq
  have i1 := eq_true d5_; have i2 := eq_true d6_
  have bb : (bag != bag) = false := bne_self_eq_false bag
  have bn : (wrap64 (n + 1) != wrap64 (n + 1)) = false := bne_self_eq_false _
  clear d1_ d4_ d5_ d6_ d7_ d8_ d9_ C1
  replace HS := zK (Bel.bel HS.out (below_drew (Below.refl _ _)))
  refine start_ (n := 25) (S := fun w' => w'.cell? ⟨gl, 0, none⟩ = some (.slice L0 tr.length lk0) ∧ w'.cell? ⟨gl, 1, none⟩ = some (.int .i64 T) ∧ w'.cell? ⟨gl, 2, none⟩ = some (.slice L2 ch.length lk2) ∧ w'.cell? ⟨gl, 3, none⟩ = some (.slice L3 wa.length lk3) ∧ w'.cell? ⟨gx, 0, none⟩ = some (.slice (some adq) x0.length xk0) ∧ w'.cell? ⟨gx, 1, none⟩ = some (.int .i64 xT) ∧ w'.cell? ⟨gx, 2, none⟩ = some (.slice X2 x2.length xk2) ∧ w'.cell? ⟨gx, 3, none⟩ = some (.slice X3 x3.length xk3) ∧ w'.cell? (adq.add q.toNat) = some (.int .i64 bag)) (ds := []) (zv 25 0) (by kernel_rfl) rfl rfl ⟨(cells4 (HS.out.2.2.2.2.1)).1, (cells4 (HS.out.2.2.2.2.1)).2.1, (cells4 (HS.out.2.2.2.2.1)).2.2.1, (cells4 (HS.out.2.2.2.2.1)).2.2.2, (cells4 (HS.out.2.2.1)).1, (cells4 (HS.out.2.2.1)).2.1, (cells4 (HS.out.2.2.1)).2.2.1, (cells4 (HS.out.2.2.1)).2.2.2, hxq⟩ (fun hHeld => ?_)
  refine pure_ (i := 0) (N := some 71) (v := ?_) (a' := ?_) (zv 25 1) rfl rfl (by kernel_rfl) (fun _ _ _ h => h) (Or.inl ⟨by rfl, ?_⟩) ?_ ?_
  rotate_left
  · intro w'
    go_simp
    with_reducible rfl
  rotate_left
  · simp only [Act.put, zp, zq, zr, i64_w, i32_w]
    rfl
  refine pure_ (i := 1) (N := some 72) (v := ?_) (a' := ?_) (zv 25 3) rfl rfl (by kernel_rfl) (fun _ _ _ h => h) (Or.inl ⟨by rfl, ?_⟩) ?_ ?_
  rotate_left
  · intro w'
    go_simp
    with_reducible rfl
  rotate_left
  · simp only [Act.put, zp, zq, zr, i64_w, i32_w]
    rfl
  refine take_ (i := 2) (N := some 73) (v := ?_) (a' := ?_) (zv 25 7) rfl rfl (by kernel_rfl) (fun _ _ _ h => h) (Or.inl ⟨by rfl, ?_⟩) hHeld ?_ ?_
  rotate_left
  · rintro w' ⟨s0, s1, s2, s3, s4, s5, s6, s7, s8⟩
    go_simp
    with_reducible rfl
  rotate_left
  · simp only [Act.put, zp, zq, zr, i64_w, i32_w]
    rfl
  refine one_ (i := 3) (N := some 74) (zv 25 15) rfl rfl (by kernel_rfl) (by decide) (fun K hK => ?_)
  have q_ := Lr.rd (HS.out.2.2.2.1)
  refine goes_ Try.func24 (by kernel_rfl) rfl #[.agg #[.slice (some adq) x0.length xk0, .int .i64 xT, .slice X2 x2.length xk2, .slice X3 x3.length xk3]] (by rfl) rfl rfl (by simp only [List.map_toArray, List.map_cons, List.map_nil]; rfl) ?_
  with_reducible refine (impl_LoopOk.calls k _ _ x0 xT _ _ x2 _ _ x3 true _ q_.2.1 q_.1 q_.2.2.2.1 q_.2.2.1 q_.2.2.2.2.2 q_.2.2.2.2.1 K1.out).mono ?_
  rintro e w11 ⟨rfl, hb⟩
  refine ⟨_, rfl, ?_⟩
  replace HS := zK (Bel.bel HS.out hb)
  refine hK.out _ _ ⟨pw_cell_below hb hHeld.1, pw_cell_below hb hHeld.2.1, pw_cell_below hb hHeld.2.2.1, pw_cell_below hb hHeld.2.2.2.1, pw_cell_below hb hHeld.2.2.2.2.1, pw_cell_below hb hHeld.2.2.2.2.2.1, pw_cell_below hb hHeld.2.2.2.2.2.2.1, pw_cell_below hb hHeld.2.2.2.2.2.2.2.1, pw_cell_below hb hHeld.2.2.2.2.2.2.2.2⟩ (fun hHeld => ?_)
  clear hK K
  refine norm_ (a' := ?_) ?_ ?_
  rotate_left
  · show Act.put _ (some 74) _ = _
    simp only [Act.put, zp, zq, zr, i64_w, i32_w]
    rfl
  refine pure_ (i := 4) (N := some 75) (v := ?_) (a' := ?_) (zv 25 31) rfl rfl (by kernel_rfl) (fun _ _ _ h => h) (Or.inl ⟨by rfl, ?_⟩) ?_ ?_
  rotate_left
  · intro w'
    go_simp
    with_reducible rfl
  rotate_left
  · simp only [Act.put, zp, zq, zr, i64_w, i32_w]
    rfl
  refine pure_ (i := 5) (N := some 76) (v := ?_) (a' := ?_) (zv 25 63) rfl rfl (by kernel_rfl) (fun _ _ _ h => h) (Or.inl ⟨by rfl, ?_⟩) ?_ ?_
  rotate_left
  · intro w'
    go_simp
    with_reducible rfl
  rotate_left
  · simp only [Act.put, zp, zq, zr, i64_w, i32_w]
    rfl
  refine pure_ (i := 6) (N := some 77) (v := ?_) (a' := ?_) (zv 25 127) rfl rfl (by kernel_rfl) (fun _ _ _ h => h) (Or.inl ⟨by rfl, ?_⟩) ?_ ?_
  rotate_left
  · intro w'
    go_simp
    with_reducible rfl
  rotate_left
  · simp only [Act.put, zp, zq, zr, i64_w, i32_w]
    rfl
  refine pure_ (i := 9) (N := some 80) (v := ?_) (a' := ?_) (zv 25 639) rfl rfl (by kernel_rfl) (fun _ _ _ h => h) (Or.inl ⟨by rfl, ?_⟩) ?_ ?_
  rotate_left
  · intro w'
    go_simp
    with_reducible rfl
  rotate_left
  · simp only [Act.put, zp, zq, zr, i64_w, i32_w]
    rfl
  refine pure_ (i := 13) (N := some 84) (v := ?_) (a' := ?_) (zv 25 8831) rfl rfl (by kernel_rfl) (fun _ _ _ h => h) (Or.inl ⟨by rfl, ?_⟩) ?_ ?_
  rotate_left
  · intro w'
    go_simp
    with_reducible rfl
  rotate_left
  · simp only [Act.put, zp, zq, zr, i64_w, i32_w]
    rfl
  refine take_ (i := 7) (N := some 78) (v := ?_) (a' := ?_) (zv 25 8959) rfl rfl (by kernel_rfl) (fun _ _ _ h => h) (Or.inl ⟨by rfl, ?_⟩) hHeld ?_ ?_
  rotate_left
  · rintro w' ⟨s0, s1, s2, s3, s4, s5, s6, s7, s8⟩
    go_simp
    with_reducible rfl
  rotate_left
  · simp only [Act.put, zp, zq, zr, i64_w, i32_w]
    rfl
  refine take_ (i := 8) (N := some 79) (v := ?_) (a' := ?_) (zv 25 9215) rfl rfl (by kernel_rfl) (fun _ _ _ h => h) (Or.inl ⟨by rfl, ?_⟩) hHeld ?_ ?_
  rotate_left
  · rintro w' ⟨s0, s1, s2, s3, s4, s5, s6, s7, s8⟩
    go_simp
    with_reducible rfl
  rotate_left
  · simp only [Act.put, zp, zq, zr, i64_w, i32_w]
    rfl
  refine one_ (i := 10) (N := some 81) (zv 25 10239) rfl rfl (by kernel_rfl) (by decide) (fun K hK => ?_)
  have q_ := Lr.rd (HS.out.2.2.2.1)
  refine goes_ Try.func35 (by kernel_rfl) rfl #[.agg #[.slice (some adq) x0.length xk0, .int .i64 xT, .slice X2 x2.length xk2, .slice X3 x3.length xk3], .int .i64 at_] (by rfl) rfl rfl (by simp only [List.map_toArray, List.map_cons, List.map_nil]; rfl) ?_
  with_reducible refine (impl_TrayAt.calls k _ _ x0 xT _ _ x2 _ _ x3 at_ q _ q_.2.1 q_.1 q_.2.2.2.1 q_.2.2.1 q_.2.2.2.2.2 q_.2.2.2.2.1 K2.out).mono ?_
  rintro e w12 ⟨rfl, hb⟩
  refine ⟨_, rfl, ?_⟩
  replace HS := zK (Bel.bel HS.out hb)
  refine hK.out _ _ ⟨pw_cell_below hb hHeld.1, pw_cell_below hb hHeld.2.1, pw_cell_below hb hHeld.2.2.1, pw_cell_below hb hHeld.2.2.2.1, pw_cell_below hb hHeld.2.2.2.2.1, pw_cell_below hb hHeld.2.2.2.2.2.1, pw_cell_below hb hHeld.2.2.2.2.2.2.1, pw_cell_below hb hHeld.2.2.2.2.2.2.2.1, pw_cell_below hb hHeld.2.2.2.2.2.2.2.2⟩ (fun hHeld => ?_)
  clear hK K
  refine norm_ (a' := ?_) ?_ ?_
  rotate_left
  · show Act.put _ (some 81) _ = _
    simp only [Act.put, zp, zq, zr, i64_w, i32_w]
    rfl
  refine pure_ (i := 11) (N := some 82) (v := ?_) (a' := ?_) (zv 25 12287) rfl rfl (by kernel_rfl) (fun _ _ _ h => h) (Or.inl ⟨by rfl, ?_⟩) ?_ ?_
  rotate_left
  · intro w'
    go_simp
    with_reducible rfl
  rotate_left
  · simp only [Act.put, zp, zq, zr, i64_w, i32_w]
    rfl
  refine take_ (i := 12) (N := some 83) (v := ?_) (a' := ?_) (zv 25 16383) rfl rfl (by kernel_rfl) (fun _ _ _ h => h) (Or.inl ⟨by rfl, ?_⟩) hHeld ?_ ?_
  rotate_left
  · rintro w' ⟨s0, s1, s2, s3, s4, s5, s6, s7, s8⟩
    go_simp
    with_reducible rfl
  rotate_left
  · simp only [Act.put, zp, zq, zr, i64_w, i32_w]
    rfl
  refine pure_ (i := 14) (N := some 85) (v := ?_) (a' := ?_) (zv 25 32767) rfl rfl (by kernel_rfl) (fun _ _ _ h => h) (Or.inl ⟨by rfl, ?_⟩) ?_ ?_
  rotate_left
  · intro w'
    go_simp
    with_reducible rfl
  rotate_left
  · simp only [Act.put, zp, zq, zr, i64_w, i32_w]
    rfl
  refine pure_ (i := 15) (N := some 86) (v := ?_) (a' := ?_) (zv 25 65535) rfl rfl (by kernel_rfl) (fun _ _ _ h => h) (Or.inl ⟨by rfl, ?_⟩) ?_ ?_
  rotate_left
  · intro w'
    go_simp
    with_reducible rfl
  rotate_left
  · simp only [Act.put, zp, zq, zr, i64_w, i32_w]
    rfl
  refine pure_ (i := 16) (N := some 87) (v := ?_) (a' := ?_) (zv 25 131071) rfl rfl (by kernel_rfl) (fun _ _ _ h => h) (Or.inl ⟨by rfl, ?_⟩) ?_ ?_
  rotate_left
  · intro w'
    go_simp
    with_reducible rfl
  rotate_left
  · simp only [Act.put, zp, zq, zr, i64_w, i32_w]
    rfl
  refine take_ (i := 17) (N := some 88) (v := ?_) (a' := ?_) (zv 25 262143) rfl rfl (by kernel_rfl) (fun _ _ _ h => h) (Or.inl ⟨by rfl, ?_⟩) hHeld ?_ ?_
  rotate_left
  · rintro w' ⟨s0, s1, s2, s3, s4, s5, s6, s7, s8⟩
    go_simp
    with_reducible rfl
  rotate_left
  · simp only [Act.put, zp, zq, zr, i64_w, i32_w]
    rfl
  refine take_ (i := 19) (N := some 90) (v := ?_) (a' := ?_) (zv 25 786431) rfl rfl (by kernel_rfl) (fun _ _ _ h => h) (Or.inl ⟨by rfl, ?_⟩) hHeld ?_ ?_
  rotate_left
  · rintro w' ⟨s0, s1, s2, s3, s4, s5, s6, s7, s8⟩
    go_simp
    with_reducible rfl
  rotate_left
  · simp only [Act.put, zp, zq, zr, i64_w, i32_w]
    rfl
  refine one_ (i := 18) (N := some 89) (zv 25 1048575) rfl rfl (by kernel_rfl) (by decide) (fun K hK => ?_)
  have q_ := Lr.rd (HS.out.2.2.2.1)
  refine goes_ Try.func28 (by kernel_rfl) rfl #[.agg #[.slice (some adq) x0.length xk0, .int .i64 xT, .slice X2 x2.length xk2, .slice X3 x3.length xk3]] (by rfl) rfl rfl (by simp only [List.map_toArray, List.map_cons, List.map_nil]; rfl) ?_
  with_reducible refine (laws_aboard.calls k _ _ x0 xT _ _ x2 _ _ x3 _ _ q_.2.1 q_.1 q_.2.2.2.1 q_.2.2.1 q_.2.2.2.2.2 q_.2.2.2.2.1 K3.out).mono ?_
  rintro e w13 ⟨rfl, hb⟩
  refine ⟨_, rfl, ?_⟩
  replace HS := zK (Bel.bel HS.out hb)
  refine hK.out _ _ ⟨pw_cell_below hb hHeld.1, pw_cell_below hb hHeld.2.1, pw_cell_below hb hHeld.2.2.1, pw_cell_below hb hHeld.2.2.2.1, pw_cell_below hb hHeld.2.2.2.2.1, pw_cell_below hb hHeld.2.2.2.2.2.1, pw_cell_below hb hHeld.2.2.2.2.2.2.1, pw_cell_below hb hHeld.2.2.2.2.2.2.2.1, pw_cell_below hb hHeld.2.2.2.2.2.2.2.2⟩ (fun hHeld => ?_)
  clear hK K
  refine norm_ (a' := ?_) ?_ ?_
  rotate_left
  · show Act.put _ (some 89) _ = _
    simp only [Act.put, zp, zq, zr, i64_w, i32_w]
    rfl
  refine one_ (i := 20) (N := some 91) (zv 25 2097151) rfl rfl (by kernel_rfl) (by decide) (fun K hK => ?_)
  have q_ := Lr.rd (HS.out.2.2.2.2.2.1)
  refine goes_ Try.func28 (by kernel_rfl) rfl #[.agg #[.slice L0 tr.length lk0, .int .i64 T, .slice L2 ch.length lk2, .slice L3 wa.length lk3]] (by rfl) rfl rfl (by simp only [List.map_toArray, List.map_cons, List.map_nil]; rfl) ?_
  with_reducible refine (laws_aboard.calls k _ _ tr T _ _ ch _ _ wa _ _ q_.2.1 q_.1 q_.2.2.2.1 q_.2.2.1 q_.2.2.2.2.2 q_.2.2.2.2.1 K4.out).mono ?_
  rintro e w14 ⟨rfl, hb⟩
  refine ⟨_, rfl, ?_⟩
  replace HS := zK (Bel.bel HS.out hb)
  refine hK.out _ _ ⟨pw_cell_below hb hHeld.1, pw_cell_below hb hHeld.2.1, pw_cell_below hb hHeld.2.2.1, pw_cell_below hb hHeld.2.2.2.1, pw_cell_below hb hHeld.2.2.2.2.1, pw_cell_below hb hHeld.2.2.2.2.2.1, pw_cell_below hb hHeld.2.2.2.2.2.2.1, pw_cell_below hb hHeld.2.2.2.2.2.2.2.1, pw_cell_below hb hHeld.2.2.2.2.2.2.2.2⟩ (fun hHeld => ?_)
  clear hK K
  refine norm_ (a' := ?_) ?_ ?_
  rotate_left
  · show Act.put _ (some 91) _ = _
    simp only [Act.put, zp, zq, zr, i64_w, i32_w]
    rfl
  refine pure_ (i := 21) (N := some 92) (v := ?_) (a' := ?_) (zv 25 4194303) rfl rfl (by kernel_rfl) (fun _ _ _ h => h) (Or.inl ⟨by rfl, ?_⟩) ?_ ?_
  rotate_left
  · intro w'
    go_simp
    with_reducible rfl
  rotate_left
  · simp only [Act.put, zp, zq, zr, i64_w, i32_w]
    rfl
  refine pure_ (i := 22) (N := some 93) (v := ?_) (a' := ?_) (zv 25 8388607) rfl rfl (by kernel_rfl) (fun _ _ _ h => h) (Or.inl ⟨by rfl, ?_⟩) ?_ ?_
  rotate_left
  · intro w'
    go_simp
    with_reducible rfl
  rotate_left
  · simp only [Act.put, zp, zq, zr, i64_w, i32_w]
    rfl
  refine pure_ (i := 23) (N := some 94) (v := ?_) (a' := ?_) (zv 25 16777215) rfl rfl (by kernel_rfl) (fun _ _ _ h => h) (Or.inl ⟨by rfl, ?_⟩) ?_ ?_
  rotate_left
  · intro w'
    go_simp
    with_reducible rfl
  rotate_left
  · simp only [Act.put, zp, zq, zr, i64_w, i32_w]
    rfl
  refine pure_ (i := 24) (N := some 95) (v := ?_) (a' := ?_) (zv 25 33554431) rfl rfl (by kernel_rfl) (fun _ _ _ h => h) (Or.inl ⟨by rfl, ?_⟩) ?_ ?_
  rotate_left
  · intro w'
    go_simp
    with_reducible rfl
  rotate_left
  · simp only [Act.put, zp, zq, zr, i64_w, i32_w]
    rfl
  refine done_ (by kernel_rfl) ?_
  clear K1 K2 K3 K4 hxq i1 i2 bb bn
  go_upto_region 10 with (fail)
 all_goals
  skip
  obtain ⟨ao, ap, aq, ar⟩ := cells4 HS.out.2.2.2.2.1
  go_upto_region 17 with (first
    | ((with_reducible refine gate_callee (f := 37) rfl ?_); have q_ := Lr.rd (HS.out.2.2.2.2.2.1); refine goesL_ (some 99) rfl rfl Try.func37 (by kernel_rfl) rfl #[.agg #[.slice L0 tr.length lk0, .int .i64 T, .slice L2 ch.length lk2, .slice L3 wa.length lk3], .int .i64 at_] rfl zg ?_; (with_reducible refine (impl_EmptyAt.calls k _ _ tr T _ _ ch _ _ wa at_ _ _ _ q_.2.1 q_.1 q_.2.2.2.1 q_.2.2.1 q_.2.2.2.2.2 q_.2.2.2.2.1 D8.out).mono ?_); rintro e w41 ⟨rfl, hb⟩; refine ⟨_, rfl, ?_⟩; replace HS := zK (Bel.bel HS.out hb); clear hb q_; clear ao ap aq ar; obtain ⟨ao, ap, aq, ar⟩ := cells4 HS.out.2.2.2.2.1)
    | ((with_reducible refine gate_callee (f := 36) rfl ?_); have q_ := fun b => Lr.vv (b := b) (HS.out.2.2.2.2.2.1); refine goesL_ (some 105) rfl rfl Try.func36 (by kernel_rfl) rfl #[.agg #[.slice L0 tr.length lk0, .int .i64 T, .slice L2 ch.length lk2, .slice L3 wa.length lk3], .int .i64 at_] rfl zg ?_; (with_reducible refine (spec_EmptyAt.calls k (fun _ => True) _ _ tr T (fun _ => True) _ _ ch (fun _ => True) _ _ wa at_ _ _ _ (q_ _).1 (q_ _).2.1 (q_ _).2.2 D9.out).mono ?_); rintro e w42 ⟨rfl, hb⟩; refine ⟨_, rfl, ?_⟩; replace HS := zK (Bel.bel HS.out hb); clear hb q_; clear ao ap aq ar)
    | ((with_reducible refine gate_callee (f := 49) rfl ?_); have bw_ := Bw.b (HS.out.2.2.2.2.2.2); refine goesL_ (some 129) rfl rfl Try.func49 (by kernel_rfl) rfl #[.slice A0 l0.length c0] rfl zg ?_; (with_reducible refine (spec_DrawSetWant.calls k A0 c0 l0 m0 mT m2 m3 mb mo _ (Kd.C_below HQ.out.1 bw_) HQ.out.2 E1.out).mono ?_); rintro e w43 ⟨au, av, aw, v5_, rfl, ⟨g_, ho⟩, ho5, hb⟩; refine ⟨_, rfl, ?_⟩; have hL := Lr.of ho; obtain ⟨M0, mk0, M2, mk2, M3, mk3, e0, e2, e3⟩ := hL.reads; subst e0 e2 e3; have hR := Kd.R_lower (Kd.R_mono ho5 (fun _ _ => trivial)) (Nat.zero_le _); obtain ⟨O0, ok0, e5⟩ := Kd.R_slice hR; subst e5; replace HS := zK (Bel.bel HS.out hb); replace HS := zK (show All2 (Ri _ _) _ _ from ⟨hR, HS.out⟩); clear hR; replace HS := zK (show All2 (Lr _ _ _ _ _ _) _ _ from ⟨hL, HS.out⟩); clear hL hb; clear ho ho5 bw_)
    | ((with_reducible refine gate_dst (N := 14) rfl ?_); refine zX 14 #[.slice none 0 0, .int .i64 0, .slice none 0 0, .slice none 0 0] 28 ?_; intro gm hg w44 hbox hb; obtain ⟨he0, he1, he2, he3⟩ := cells4 hbox; have aa := blk_frozen hbox 0; have ab := blk_frozen hbox 1; have ac := blk_frozen hbox 2; have ad := blk_frozen hbox 3; have hb4 := below_put4 (g := gm) hb (by rw [hg]; exact Nat.le_refl _) (.slice M0 m0.length mk0) (.int .i64 mT) (.slice M2 m2.length mk2) (.slice M3 m3.length mk3); replace HS := zK (Bel.bel HS.out hb4); replace HS := zK (show All2 (Bo gm (.slice M0 m0.length mk0) (.int .i64 mT) (.slice M2 m2.length mk2) (.slice M3 m3.length mk3)) _ _ from ⟨blk_put4 hbox (.slice M0 m0.length mk0) (.int .i64 mT) (.slice M2 m2.length mk2) (.slice M3 m3.length mk3), HS.out⟩); clear hb4 hg hbox hb; obtain ⟨ae, af, ag, ah⟩ := cells4 HS.out.1)
    | ((with_reducible refine gate_callee (f := 40) rfl ?_); have q_ := Lr.rd (HS.out.2.1); have z_ := Kd.R_reads' (HS.out.2.2.1); refine goesL_ (some 137) rfl rfl Try.func40 (by kernel_rfl) rfl #[.agg #[.slice M0 m0.length mk0, .int .i64 mT, .slice M2 m2.length mk2, .slice M3 m3.length mk3], .int .i64 mb, .slice O0 mo.length ok0] rfl zg ?_; (with_reducible refine (impl_SetWant.calls k _ _ m0 mT _ _ m2 _ _ m3 mb _ _ mo _ _ _ _ _ _ q_.2.1 q_.1 q_.2.2.2.1 q_.2.2.1 q_.2.2.2.2.2 q_.2.2.2.2.1 z_.2.2 z_.2.1 E2.out).mono ?_); rintro e w45 ⟨au, av, aw, rfl, ho0, ho2, ho3, hb⟩; refine ⟨_, rfl, ?_⟩; have hL := Lr.mk ho0 (Kd.S_R ho2) (Kd.S_R ho3); obtain ⟨V0, vk0, V2, vk2, V3, vk3, e0, e2, e3⟩ := hL.reads; subst e0 e2 e3; replace HS := zK (Bel.bel HS.out hb); replace HS := zK (show All2 (Lr _ _ _ _ _ _) _ _ from ⟨hL, HS.out⟩); clear hL hb; clear ho0 ho2 ho3 q_ z_; clear he0 he1 he2 he3 aa ab ac ad ae af ag ah)
    | ((with_reducible refine gate_dst (N := 17) rfl ?_); refine zX 17 #[.slice none 0 0, .int .i64 0, .slice none 0 0, .slice none 0 0] 28 ?_; intro gv hg w46 hbox hb; obtain ⟨he0, he1, he2, he3⟩ := cells4 hbox; have aa := blk_frozen hbox 0; have ab := blk_frozen hbox 1; have ac := blk_frozen hbox 2; have ad := blk_frozen hbox 3; have hb4 := below_put4 (g := gv) hb (by rw [hg]; exact Nat.le_refl _) (.slice V0 v0.length vk0) (.int .i64 vT) (.slice V2 v2.length vk2) (.slice V3 v3.length vk3); replace HS := zK (Bel.bel HS.out hb4); replace HS := zK (show All2 (Bo gv (.slice V0 v0.length vk0) (.int .i64 vT) (.slice V2 v2.length vk2) (.slice V3 v3.length vk3)) _ _ from ⟨blk_put4 hbox (.slice V0 v0.length vk0) (.int .i64 vT) (.slice V2 v2.length vk2) (.slice V3 v3.length vk3), HS.out⟩); clear hb4 hg hbox hb; obtain ⟨ae, af, ag, ah⟩ := cells4 HS.out.2.2.1)
    | ((with_reducible refine gate_callee (f := 38) rfl ?_); have q_ := Lr.rd (HS.out.2.2.2.1); have z_ := Kd.R_reads' (HS.out.2.2.2.2.1); refine goesL_ (some 144) rfl rfl Try.func38 (by kernel_rfl) rfl #[.agg #[.slice M0 m0.length mk0, .int .i64 mT, .slice M2 m2.length mk2, .slice M3 m3.length mk3], .int .i64 mb, .slice O0 mo.length ok0] rfl zg ?_; (with_reducible refine (spec_SetWant.calls k _ _ m0 mT _ _ m2 _ _ m3 mb _ _ mo _ _ _ _ _ _ q_.2.1 q_.1 q_.2.2.2.1 q_.2.2.1 q_.2.2.2.2.2 q_.2.2.2.2.1 z_.2.2 z_.2.1 E3.out).mono ?_); rintro e w47 ⟨au, av, aw, rfl, ho0, ho2, ho3, hb⟩; refine ⟨_, rfl, ?_⟩; have hL := Lr.mk ho0 (Kd.S_R ho2) ho3; obtain ⟨U0, uk0, U2, uk2, U3, uk3, e0, e2, e3⟩ := hL.reads; subst e0 e2 e3; replace HS := zK (Bel.bel HS.out hb); replace HS := zK (show All2 (Lr _ _ _ _ _ _) _ _ from ⟨hL, HS.out⟩); clear hL hb; clear ho0 ho2 ho3 q_ z_; clear he0 he1 he2 he3 aa ab ac ad ae af ag ah)
    | ((with_reducible refine gate_dst (N := 19) rfl ?_); refine zX 19 #[.slice none 0 0, .int .i64 0, .slice none 0 0, .slice none 0 0] 28 ?_; intro gu hg w48 hbox hb; obtain ⟨he0, he1, he2, he3⟩ := cells4 hbox; have aa := blk_frozen hbox 0; have ab := blk_frozen hbox 1; have ac := blk_frozen hbox 2; have ad := blk_frozen hbox 3; have hb4 := below_put4 (g := gu) hb (by rw [hg]; exact Nat.le_refl _) (.slice U0 v0.length uk0) (.int .i64 vT) (.slice U2 v2.length uk2) (.slice U3 v3.length uk3); replace HS := zK (Bel.bel HS.out hb4); replace HS := zK (show All2 (Bo gu (.slice U0 v0.length uk0) (.int .i64 vT) (.slice U2 v2.length uk2) (.slice U3 v3.length uk3)) _ _ from ⟨blk_put4 hbox (.slice U0 v0.length uk0) (.int .i64 vT) (.slice U2 v2.length uk2) (.slice U3 v3.length uk3), HS.out⟩); clear hb4 hg hbox hb)
    )
  clear he0 he1 he2 he3 aa ab ac ad
  have bs : (st == st) = true := beq_self_eq_true st
  rcases hst : st with _ | _
  case false =>
   subst hst
   obtain ⟨z0_, z1_, z2_, z3_⟩ := E4.out (by first | rfl | trivial)
   subst v0 vT v2 v3
   obtain ⟨ak, al, am, an⟩ := cells4 HS.out.2.2.1
   obtain ⟨hu0, hu1, hu2, hu3⟩ := cells4 HS.out.1
   obtain ⟨ae, af, ag, ah⟩ := cells4 HS.out.2.2.2.2.1
   go_wp2_with (first
     | ((with_reducible refine gate_callee (f := 25) rfl ?_); have q_ := Lr.rd (HS.out.2.2.2.1); have z_ := Lr.rd (HS.out.2.1); (try (refine gate_guard (by rfl) ?_; dsimp only)); refine goesL_ (some 153) rfl rfl Try.func25 (by kernel_rfl) rfl #[.agg #[.slice V0 m0.length vk0, .int .i64 mT, .slice V2 m2.length vk2, .slice V3 m3.length vk3], .agg #[.slice U0 m0.length uk0, .int .i64 mT, .slice U2 m2.length uk2, .slice U3 m3.length uk3]] rfl zg ?_; (with_reducible refine (laws_sameLoop.eq _ _ _ _ _ _ _ _ _ _ _ _ m0 mT m2 m3 _ q_.2.1 q_.2.2.2.1 q_.2.2.2.2.2 z_.2.1 z_.2.2.2.1 z_.2.2.2.2.2).mono ?_); rintro e w49 ⟨rfl, hb⟩; refine ⟨_, rfl, ?_⟩; replace HS := zK (Bel.bel HS.out hb); clear hb q_ z_; clear ak al am an hu0 hu1 hu2 hu3 ae af ag ah; obtain ⟨ak, al, am, an⟩ := cells4 HS.out.2.2.1; obtain ⟨ae, af, ag, ah⟩ := cells4 HS.out.2.2.2.2.1)
     | ((with_reducible refine gate_callee (f := 25) rfl ?_); have q_ := Lr.rd (HS.out.2.2.2.1); have z_ := Lr.rd (HS.out.2.2.2.2.2.1); (try (refine gate_guard (by rfl) ?_; dsimp only)); refine goesL_ (some 160) rfl rfl Try.func25 (by kernel_rfl) rfl #[.agg #[.slice V0 m0.length vk0, .int .i64 mT, .slice V2 m2.length vk2, .slice V3 m3.length vk3], .agg #[.slice M0 m0.length mk0, .int .i64 mT, .slice M2 m2.length mk2, .slice M3 m3.length mk3]] rfl zg ?_; (with_reducible refine (laws_sameLoop.eq _ _ _ _ _ _ _ _ _ _ _ _ m0 mT m2 m3 _ q_.2.1 q_.2.2.2.1 q_.2.2.2.2.2 z_.2.1 z_.2.2.2.1 z_.2.2.2.2.2).mono ?_); rintro e w50 ⟨rfl, hb⟩; refine ⟨_, rfl, ?_⟩; replace HS := zK (Bel.bel HS.out hb); clear hb q_ z_; clear ak al am an ae af ag ah; obtain ⟨ak, al, am, an⟩ := cells4 HS.out.2.2.1)
     )
   go_ret
   exact ⟨rfl, HS.out.2.2.2.2.2.2.2.2.2.2.2.2.2⟩
  case true =>
   subst hst
   obtain ⟨d1_, d2_⟩ := E5.out (by first | rfl | trivial)
   have K1 := zK d1_
   have bl : decide ((v3.length : Int) ≤ wrap64 ((m3.length : Int) + 1)) = true := decide_eq_true d2_
   clear d1_ d2_
   obtain ⟨ak, al, am, an⟩ := cells4 HS.out.2.2.1
   obtain ⟨hu0, hu1, hu2, hu3⟩ := cells4 HS.out.1
   go_wp2_with (first
     | ((with_reducible refine gate_callee (f := 25) rfl ?_); have q_ := Lr.rd (HS.out.2.2.2.1); have z_ := Lr.rd (HS.out.2.1); (try (refine gate_guard (by rfl) ?_; dsimp only)); refine goesL_ (some 153) rfl rfl Try.func25 (by kernel_rfl) rfl #[.agg #[.slice V0 v0.length vk0, .int .i64 vT, .slice V2 v2.length vk2, .slice V3 v3.length vk3], .agg #[.slice U0 v0.length uk0, .int .i64 vT, .slice U2 v2.length uk2, .slice U3 v3.length uk3]] rfl zg ?_; (with_reducible refine (laws_sameLoop.eq _ _ _ _ _ _ _ _ _ _ _ _ v0 vT v2 v3 _ q_.2.1 q_.2.2.2.1 q_.2.2.2.2.2 z_.2.1 z_.2.2.2.1 z_.2.2.2.2.2).mono ?_); rintro e w49 ⟨rfl, hb⟩; refine ⟨_, rfl, ?_⟩; replace HS := zK (Bel.bel HS.out hb); clear hb q_ z_; clear ak al am an hu0 hu1 hu2 hu3; obtain ⟨ak, al, am, an⟩ := cells4 HS.out.2.2.1; obtain ⟨ae, af, ag, ah⟩ := cells4 HS.out.2.2.2.2.1)
     | ((with_reducible refine gate_callee (f := 24) rfl ?_); have q_ := Lr.rd (HS.out.2.2.2.1); (try (refine gate_guard (by rfl) ?_; dsimp only)); refine goesL_ (some 168) rfl rfl Try.func24 (by kernel_rfl) rfl #[.agg #[.slice V0 v0.length vk0, .int .i64 vT, .slice V2 v2.length vk2, .slice V3 v3.length vk3]] rfl zg ?_; (with_reducible refine (impl_LoopOk.calls k _ _ v0 vT _ _ v2 _ _ v3 true _ q_.2.1 q_.1 q_.2.2.2.1 q_.2.2.1 q_.2.2.2.2.2 q_.2.2.2.2.1 K1.out).mono ?_); rintro e w50 ⟨rfl, hb⟩; refine ⟨_, rfl, ?_⟩; replace HS := zK (Bel.bel HS.out hb); clear hb q_; clear ak al am an ae af ag ah; obtain ⟨ak, al, am, an⟩ := cells4 HS.out.2.2.1; obtain ⟨ae, af, ag, ah⟩ := cells4 HS.out.2.2.2.2.1)
     )
   go_ret
   exact ⟨rfl, HS.out.2.2.2.2.2.2.2.2.2.2.2.2.2⟩
end Go.Proofs.Ytmjhbdmicejppaa.Px
