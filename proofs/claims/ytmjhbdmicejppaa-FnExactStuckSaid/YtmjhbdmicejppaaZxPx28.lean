import Derived.Test.YtmjhbdmicejppaaZxPx0
import Derived.Test.YtmjhbdmicejppaaZxPx4
import Derived.Test.YtmjhbdmicejppaaZxPx5
import Derived.Test.YtmjhbdmicejppaaZxPx11
import Derived.Test.YtmjhbdmicejppaaZxPx15
namespace Go.Proofs.Ytmjhbdmicejppaa.Px
open Go.RowKit Go.Proofs.YtmjhbdmicejppaaW.PrintWords Go.Proofs.YtmjhbdmicejppaaW.PrintLast Go.Proofs.YtmjhbdmicejppaaW.PrintMore
attribute [local go_sem] max2_int min2_int max_two min_two max_three min_three max_four min_four   
set_option linter.unusedVariables false
set_option linter.unusedSimpArgs false
def laws_FnExactStuck.f (k : Nat) (l0_0 : List Int) (a0_1 : Int) (l0_2 : List (S95)) (l0_3 : List (S97)) : Option (Bool) := (laws_szLoop.f k l0_0 a0_1 l0_2 l0_3 1048576).bind fun z => (if z < 0 then (some true) else ((laws_toLoop.f k l0_0 a0_1 l0_2 l0_3).bind fun x => ((spec_Stuck.f k x.1 x.2.1 x.2.2.1 x.2.2.2).bind fun s => ((impl_Stuck.f k x.1 x.2.1 x.2.2.1 x.2.2.2).bind fun g => ((laws_eqIntS.f k g s).bind fun e1 => (if e1 = true then ((laws_eqLoop.f k x.1 x.2.1 x.2.2.1 x.2.2.2 x.1 x.2.1 x.2.2.1 x.2.2.2).bind fun e2 => (if e2 = true then ((laws_markLoop.f k x.1 x.2.1 x.2.2.1 x.2.2.2 1).bind fun m => ((if m.1 < 0 then (none) else ((laws_markIntS.f k g 1).bind fun h => ((laws_heldIntS.f k h.2 1).bind fun q => (if q < 0 then (none) else (if q = h.1 then (some true) else (none)))))))) else (none))) else (none)))))))
theorem laws_FnExactStuck.held (k : Nat) (A0 : Option Addr) (c0 : Nat) (l0 : List Int) (n : Nat) (hn : n = l0.length) (a1 : Int) (r : Int) (w : World) (hr0 : Kd.C (Kd.int .i64) w A0 n l0) (hc0 : n ≤ c0) (h : laws_heldIntS.f k l0 a1 = some r) :
 Calls Try.prog 45 #[.slice A0 n c0, .int .i64 a1] w fun e w' => e = .returned (.int .i64 r) ∧ Drawn0 w w' := by
 subst hn
 exact laws_heldIntS.calls k A0 c0 l0 a1 r w hr0 hc0 h
set_option maxHeartbeats 16000000 in
set_option maxRecDepth 100000 in
theorem laws_FnExactStuck.calls (k : Nat) (ah : Option Addr) (ai : Nat) (ac : List Int) (a0_1 : Int) (aj : Option Addr) (ak : Nat) (ad : List (S95)) (al : Option Addr) (am : Nat) (ae : List (S97)) (r : Bool) (w : World) (ap : Kd.C (Kd.int .i64) w ah ac.length ac) (hc0_0 : ac.length ≤ ai) (aq : Kd.C k95 w aj ad.length ad) (hc0_2 : ad.length ≤ ak) (ar : Kd.C k97 w al ae.length ae) (hc0_3 : ae.length ≤ am) (hrt : Aside0 (r = true)) (h : laws_FnExactStuck.f k ac a0_1 ad ae = some r) :
 Calls Try.prog 11 #[.agg #[.slice ah ac.length ai, .int .i64 a0_1, .slice aj ad.length ak, .slice al ae.length am]] w fun e w' => e = .returned (.bool r) ∧ Below w.heap.size w w' := by
 have hu43 := Try.underlying43; have hu28 := Try.underlying28; have aw := zK ap; have ax := zK hc0_0; have ay := zK aq; have az := zK hc0_2; have aA := zK ar; have aB := zK hc0_3; clear ap hc0_0 aq hc0_2 ar hc0_3
 have HB := zK (Below.refl w.heap.size w)
 obtain rfl := hrt.out; have H := h; clear h
 unfold laws_FnExactStuck.f at H
 replace H := Option.bind_eq_some_iff.mp H
 obtain ⟨z, Az0, H⟩ := H
 have Az := zK Az0; clear Az0
 by_cases c0 : z < 0
 · have c0b : decide (z < 0) = true := decide_eq_true c0
   clear c0
   go_enter Try.func11, Try.ntmps11
   go_wp2_with (first | ((with_reducible refine gate_dst (N := 1) rfl ?_); refine box_event ?hg (N := 1) ?hd (cs := #[.slice ah ac.length ai, .int .i64 a0_1, .slice aj ad.length ak, .slice al ae.length am]) (t := 43) ?hr ?_; (case hd => rfl); (case hg => rfl); (case hr => first | (go_simp; done) | (go_simp; rfl)); intro ga hg w1 hbox hb; have aa := zK (below_step HB.out hb); have m0_ := zK (hbox); clear HB; have HB := aa; have BKa := m0_; clear aa m0_; have GEa := zK (show w.heap.size ≤ ga from by rw [hg]; exact Nat.le_refl _); clear hb hbox hg; obtain ⟨hzBKa0, hzBKa1, hzBKa2, hzBKa3⟩ := cells4 BKa.out) | ((with_reducible refine gate_callee (f := 31) rfl ?_); refine goesL_ (some 13) rfl rfl Try.func31 (by kernel_rfl) rfl #[.agg #[.slice ah ac.length ai, .int .i64 a0_1, .slice aj ad.length ak, .slice al ae.length am], .int .i64 1048576] rfl (by (try simp only [List.map_toArray, List.map_cons, List.map_nil]); first | done | rfl) ?_; (with_reducible refine (laws_szLoop.calls k _ _ ac a0_1 _ _ ad _ _ ae 1048576 z _ (Kd.C_below aw.out HB.out) ax.out (Kd.C_below ay.out HB.out) az.out (Kd.C_below aA.out HB.out) aB.out Az.out).mono ?_); rintro e w2 ⟨rfl, hb⟩; refine ⟨_, rfl, ?_⟩; have aa := zK (below_step HB.out hb); have ab := zK (blk_below BKa.out hb); clear HB BKa hzBKa0 hzBKa1 hzBKa2 hzBKa3; have HB := aa; have BKa := ab; clear aa ab; clear hb; obtain ⟨hzBKa0, hzBKa1, hzBKa2, hzBKa3⟩ := cells4 BKa.out))
   go_ret
   exact ⟨rfl, HB.out⟩
 rw [if_neg c0] at H
 have c0b : decide (z < 0) = false := decide_eq_false c0
 clear c0; replace H := Option.bind_eq_some_iff.mp H
 obtain ⟨⟨x0, xT, x2, x3⟩, Ax0, H⟩ := H
 have Ax := zK Ax0; clear Ax0; replace H := Option.bind_eq_some_iff.mp H
 obtain ⟨s0, As0, H⟩ := H
 have As := zK As0; clear As0; replace H := Option.bind_eq_some_iff.mp H
 obtain ⟨g0, Ag0, H⟩ := H
 have Ag := zK Ag0; clear Ag0; replace H := Option.bind_eq_some_iff.mp H
 obtain ⟨e1, A10, H⟩ := H
 have A1 := zK A10; clear A10
 have c1 : e1 = true := by
  by_cases h_ : e1 = true
  · exact h_
  · rw [if_neg h_] at H; cases H
 rw [if_pos c1] at H
 subst c1; replace H := Option.bind_eq_some_iff.mp H
 obtain ⟨e2, A20, H⟩ := H
 have A2 := zK A20; clear A20
 have c2 : e2 = true := by
  by_cases h_ : e2 = true
  · exact h_
  · rw [if_neg h_] at H; cases H
 rw [if_pos c2] at H
 subst c2; replace H := Option.bind_eq_some_iff.mp H
 obtain ⟨⟨mk, y0, y2, y3⟩, Am0, H⟩ := H
 have Am := zK Am0; clear Am0
 have c3 : ¬ mk < 0 := fun h_ => by rw [if_pos h_] at H; cases H
 rw [if_neg c3] at H
 have c3b : decide (mk < 0) = false := decide_eq_false c3
 clear c3; replace H := Option.bind_eq_some_iff.mp H
 obtain ⟨⟨hk, h0⟩, Ah0, H⟩ := H
 have Ah := zK Ah0; clear Ah0; replace H := Option.bind_eq_some_iff.mp H
 obtain ⟨q, Aq0, H⟩ := H
 have Aq := zK Aq0; clear Aq0
 have c4 : ¬ q < 0 := fun h_ => by rw [if_pos h_] at H; cases H
 rw [if_neg c4] at H
 have c4b : decide (q < 0) = false := decide_eq_false c4
 clear c4
 have c5 : q = hk := by
  by_cases h_ : q = hk
  · exact h_
  · rw [if_neg h_] at H; cases H
 clear H
 have c5b : (q != hk) = false := by rw [c5]; exact bne_self_eq_false hk
 clear c5
 replace Ax := zK (show laws_toLoop.f k ac a0_1 ad ae = some (x0, xT, x2, x3) from Ax.out)
 replace As := zK (show spec_Stuck.f k x0 xT x2 x3 = some s0 from As.out)
 replace Ag := zK (show impl_Stuck.f k x0 xT x2 x3 = some g0 from Ag.out)
 replace A1 := zK (show laws_eqIntS.f k g0 s0 = some true from A1.out)
 replace A2 := zK (show laws_eqLoop.f k x0 xT x2 x3 x0 xT x2 x3 = some true from A2.out)
 replace Am := zK (show laws_markLoop.f k x0 xT x2 x3 1 = some (mk, y0, y2, y3) from Am.out)
 replace Ah := zK (show laws_markIntS.f k g0 1 = some (hk, h0) from Ah.out)
 replace Aq := zK (show laws_heldIntS.f k h0 1 = some q from Aq.out)
 go_enter Try.func11, Try.ntmps11
 go_wp2_with (first
  | ((with_reducible refine gate_dst (N := 1) rfl ?_); refine box_event ?hg (N := 1) ?hd (cs := #[.slice ah ac.length ai, .int .i64 a0_1, .slice aj ad.length ak, .slice al ae.length am]) (t := 43) ?hr ?_; (case hd => rfl); (case hg => rfl); (case hr => first | (go_simp; done) | (go_simp; rfl)); intro ga hg w1 hbox hb; have aa := zK (below_step HB.out hb); have m0_ := zK (hbox); clear HB; have HB := aa; have BKa := m0_; clear aa m0_; have GEa := zK (show w.heap.size ≤ ga from by rw [hg]; exact Nat.le_refl _); clear hb hbox hg; obtain ⟨hzBKa0, hzBKa1, hzBKa2, hzBKa3⟩ := cells4 BKa.out)
  | ((with_reducible refine gate_callee (f := 31) rfl ?_); refine goesL_ (some 13) rfl rfl Try.func31 (by kernel_rfl) rfl #[.agg #[.slice ah ac.length ai, .int .i64 a0_1, .slice aj ad.length ak, .slice al ae.length am], .int .i64 1048576] rfl (by (try simp only [List.map_toArray, List.map_cons, List.map_nil]); first | done | rfl) ?_; (with_reducible refine (laws_szLoop.calls k _ _ ac a0_1 _ _ ad _ _ ae 1048576 z _ (Kd.C_below aw.out HB.out) ax.out (Kd.C_below ay.out HB.out) az.out (Kd.C_below aA.out HB.out) aB.out Az.out).mono ?_); rintro e w2 ⟨rfl, hb⟩; refine ⟨_, rfl, ?_⟩; have aa := zK (below_step HB.out hb); have ab := zK (blk_below BKa.out hb); clear HB BKa hzBKa0 hzBKa1 hzBKa2 hzBKa3; have HB := aa; have BKa := ab; clear aa ab; clear hb; obtain ⟨hzBKa0, hzBKa1, hzBKa2, hzBKa3⟩ := cells4 BKa.out)
  | ((with_reducible refine gate_callee (f := 32) rfl ?_); refine goesL_ (some 17) rfl rfl Try.func32 (by kernel_rfl) rfl #[.agg #[.slice ah ac.length ai, .int .i64 a0_1, .slice aj ad.length ak, .slice al ae.length am]] rfl (by (try simp only [List.map_toArray, List.map_cons, List.map_nil]); first | done | rfl) ?_; (with_reducible refine (laws_toLoop.calls2 k _ _ ac a0_1 _ _ ad _ _ ae x0 xT x2 x3 _ (Kd.C_below aw.out HB.out) ax.out (Kd.C_below ay.out HB.out) az.out (Kd.C_below aA.out HB.out) aB.out Ax.out).mono ?_); rintro e w3 ⟨aC, v2_, v3_, rfl, hL_, hb⟩; refine ⟨_, rfl, ?_⟩; obtain ⟨lot, hit, ⟨elo_, ehi_⟩, hN_⟩ := LoopAt.new hL_ HB.out.size; obtain ⟨T0, t0k, T2, t2k, T3, t3k, ao, au, av, _, _, _, _, _, _⟩ := hN_.reads; subst ao; subst au; subst av; have aa := zK (below_step HB.out hb); have ab := zK (blk_below BKa.out hb); have m0_ := zK (hN_); clear HB BKa hzBKa0 hzBKa1 hzBKa2 hzBKa3; have HB := aa; have BKa := ab; have LT := m0_; clear aa ab m0_; clear hb hN_ elo_ ehi_; clear hL_; obtain ⟨hzBKa0, hzBKa1, hzBKa2, hzBKa3⟩ := cells4 BKa.out)
  | ((with_reducible refine gate_callee (f := 30) rfl ?_); refine goesL_ (some 18) rfl rfl Try.func30 (by kernel_rfl) rfl #[.agg #[.slice T0 x0.length t0k, .int .i64 xT, .slice T2 x2.length t2k, .slice T3 x3.length t3k]] rfl (by (try simp only [List.map_toArray, List.map_cons, List.map_nil]); first | done | rfl) ?_; (with_reducible refine (spec_Stuck.calls k _ _ x0 xT _ _ x2 _ _ x3 s0 _ LT.out.rd.2.1 LT.out.rd.1 LT.out.rd.2.2.2.1 LT.out.rd.2.2.1 LT.out.rd.2.2.2.2.2 LT.out.rd.2.2.2.2.1 As.out).mono ?_); rintro e w4 ⟨aC, rfl, hL_, hb⟩; refine ⟨_, rfl, ?_⟩; clear LT; obtain ⟨los, his, ⟨elo_, ehi_⟩, hN_⟩ := ri_new hL_ HB.out.size; obtain ⟨S0, s0k, ao⟩ := Kd.R_slice hN_.2; subst ao; have aa := zK (below_step HB.out hb); have ab := zK (blk_below BKa.out hb); have m0_ := zK (hN_); clear HB BKa hzBKa0 hzBKa1 hzBKa2 hzBKa3; have HB := aa; have BKa := ab; have LW := m0_; clear aa ab m0_; clear hb hN_ elo_ ehi_; clear hL_; obtain ⟨hzBKa0, hzBKa1, hzBKa2, hzBKa3⟩ := cells4 BKa.out)
  | ((with_reducible refine gate_callee (f := 32) rfl ?_); refine goesL_ (some 20) rfl rfl Try.func32 (by kernel_rfl) rfl #[.agg #[.slice ah ac.length ai, .int .i64 a0_1, .slice aj ad.length ak, .slice al ae.length am]] rfl (by (try simp only [List.map_toArray, List.map_cons, List.map_nil]); first | done | rfl) ?_; (with_reducible refine (laws_toLoop.calls2 k _ _ ac a0_1 _ _ ad _ _ ae x0 xT x2 x3 _ (Kd.C_below aw.out HB.out) ax.out (Kd.C_below ay.out HB.out) az.out (Kd.C_below aA.out HB.out) aB.out Ax.out).mono ?_); rintro e w5 ⟨aC, v2_, v3_, rfl, hL_, hb⟩; refine ⟨_, rfl, ?_⟩; obtain ⟨lox, hix, ⟨elo_, ehi_⟩, hN_⟩ := LoopAt.new hL_ HB.out.size; obtain ⟨X0, x0k, X2, x2k, X3, x3k, ao, au, av, _, _, _, _, _, _⟩ := hN_.reads; subst ao; subst au; subst av; have aa := zK (below_step HB.out hb); have ab := zK (blk_below BKa.out hb); have af := zK (ri_later LW.out hb); have m0_ := zK (hN_); have AG := zK (show ga < lox ∧ his ≤ lox from by rw [elo_]; exact ⟨blk_lt BKa.out, LW.out.1⟩); clear HB BKa LW hzBKa0 hzBKa1 hzBKa2 hzBKa3; have HB := aa; have BKa := ab; have LW := af; have LX := m0_; clear aa ab af m0_; clear hb hN_ elo_ ehi_; clear hL_; obtain ⟨hzBKa0, hzBKa1, hzBKa2, hzBKa3⟩ := cells4 BKa.out)
  | ((with_reducible refine gate_dst (N := 5) rfl ?_); refine box_event ?hg (N := 5) ?hd (cs := #[.slice none 0 0, .int .i64 0, .slice none 0 0, .slice none 0 0]) (t := 28) ?hr ?_; (case hd => rfl); (case hg => rfl); (case hr => first | (go_simp; done) | (go_simp; rfl)); intro gx hg w6 hbox hb; have hy0 : w6.cell? ⟨gx, 0, none⟩ = some (.slice none 0 0) := (blk_cell hbox 0).trans rfl; have hy1 : w6.cell? ⟨gx, 1, none⟩ = some (.int .i64 0) := (blk_cell hbox 1).trans rfl; have hy2 : w6.cell? ⟨gx, 2, none⟩ = some (.slice none 0 0) := (blk_cell hbox 2).trans rfl; have hy3 : w6.cell? ⟨gx, 3, none⟩ = some (.slice none 0 0) := (blk_cell hbox 3).trans rfl; have hf0 := blk_frozen hbox 0; have hf1 := blk_frozen hbox 1; have hf2 := blk_frozen hbox 2; have hf3 := blk_frozen hbox 3; have aa := zK (below_put4 (below_step HB.out hb) (show w.heap.size ≤ gx from by rw [hg]; exact HB.out.size) (.slice X0 x0.length x0k) (.int .i64 xT) (.slice X2 x2.length x2k) (.slice X3 x3.length x3k)); have ab := zK (blk_far4 (blk_below BKa.out hb) (show ga ≠ gx from by rw [hg]; exact Nat.ne_of_lt (blk_lt BKa.out)) (.slice X0 x0.length x0k) (.int .i64 xT) (.slice X2 x2.length x2k) (.slice X3 x3.length x3k)); have af := zK (ri_put4 (ri_later LW.out hb) (show his ≤ gx from by rw [hg]; exact LW.out.1) (.slice X0 x0.length x0k) (.int .i64 xT) (.slice X2 x2.length x2k) (.slice X3 x3.length x3k)); have ag := zK ((LX.out.later hb).put4 (show hix ≤ gx from by rw [hg]; exact LX.out.1) (.slice X0 x0.length x0k) (.int .i64 xT) (.slice X2 x2.length x2k) (.slice X3 x3.length x3k)); have m0_ := zK (blk_put4 hbox (.slice X0 x0.length x0k) (.int .i64 xT) (.slice X2 x2.length x2k) (.slice X3 x3.length x3k)); have ag_ := zK (And.intro AG.out (show hix ≤ gx from by rw [hg]; exact LX.out.1)); clear AG; have AG := ag_; clear ag_; clear HB BKa LW LX hzBKa0 hzBKa1 hzBKa2 hzBKa3; have HB := aa; have BKa := ab; have LW := af; have LX := ag; have BKx := m0_; clear aa ab af ag m0_; clear hb hbox hg; obtain ⟨hzBKa0, hzBKa1, hzBKa2, hzBKa3⟩ := cells4 BKa.out; obtain ⟨hzBKx0, hzBKx1, hzBKx2, hzBKx3⟩ := cells4 BKx.out)
  | ((with_reducible refine gate_callee (f := 29) rfl ?_); refine goesL_ (some 22) rfl rfl Try.func29 (by kernel_rfl) rfl #[.agg #[.slice X0 x0.length x0k, .int .i64 xT, .slice X2 x2.length x2k, .slice X3 x3.length x3k]] rfl (by (try simp only [List.map_toArray, List.map_cons, List.map_nil]); first | done | rfl) ?_; (with_reducible refine (impl_Stuck.calls k _ _ x0 xT _ _ x2 _ _ x3 g0 _ LX.out.rd.2.1 LX.out.rd.1 LX.out.rd.2.2.2.1 LX.out.rd.2.2.1 LX.out.rd.2.2.2.2.2 LX.out.rd.2.2.2.2.1 Ag.out).mono ?_); rintro e w7 ⟨aC, rfl, hL_, hb⟩; refine ⟨_, rfl, ?_⟩; obtain ⟨log, hig, ⟨elo_, ehi_⟩, hN_⟩ := ri_new hL_ HB.out.size; obtain ⟨G0, g0k, ao⟩ := Kd.R_slice hN_.2; subst ao; have aa := zK (below_step HB.out hb); have ab := zK (blk_below BKa.out hb); have af := zK (ri_later LW.out hb); have ag := zK (LX.out.later hb); have an := zK (blk_below BKx.out hb); have m0_ := zK (hN_); have ag_ := zK (And.intro AG.out (show hix ≤ log ∧ ga < log ∧ his ≤ log ∧ gx < log from by rw [elo_]; exact ⟨LX.out.1, blk_lt BKa.out, LW.out.1, blk_lt BKx.out⟩)); clear AG; have AG := ag_; clear ag_; clear HB BKa LW LX BKx hzBKa0 hzBKa1 hzBKa2 hzBKa3 hzBKx0 hzBKx1 hzBKx2 hzBKx3 hy0 hy1 hy2 hy3 hf0 hf1 hf2 hf3; have HB := aa; have BKa := ab; have LW := af; have LX := ag; have BKx := an; have LG := m0_; clear aa ab af ag an m0_; clear hb hN_ elo_ ehi_; clear hL_; obtain ⟨hzBKa0, hzBKa1, hzBKa2, hzBKa3⟩ := cells4 BKa.out; obtain ⟨hzBKx0, hzBKx1, hzBKx2, hzBKx3⟩ := cells4 BKx.out)
  | ((with_reducible refine gate_callee (f := 41) rfl ?_); refine goesL_ (some 25) rfl rfl Try.func41 (by kernel_rfl) rfl #[.slice G0 g0.length g0k, .slice S0 s0.length s0k] rfl (by (try simp only [List.map_toArray, List.map_cons, List.map_nil]); first | done | rfl) ?_; (with_reducible refine (laws_eqIntS.calls k _ _ g0 _ _ s0 true _ (ri_rd LG.out).2.2 (ri_rd LG.out).2.1 (ri_rd LW.out).2.2 (ri_rd LW.out).2.1 A1.out).mono ?_); rintro e w8 ⟨rfl, hd_⟩; refine ⟨_, rfl, ?_⟩; have hb := hd_.below; clear hd_; have aa := zK (below_step HB.out hb); have ab := zK (blk_below BKa.out hb); have af := zK (ri_later LW.out hb); have ag := zK (LX.out.later hb); have an := zK (blk_below BKx.out hb); have aD := zK (ri_later LG.out hb); clear HB BKa LW LX BKx LG hzBKa0 hzBKa1 hzBKa2 hzBKa3 hzBKx0 hzBKx1 hzBKx2 hzBKx3; have HB := aa; have BKa := ab; have LW := af; have LX := ag; have BKx := an; have LG := aD; clear aa ab af ag an aD; clear hb; obtain ⟨hzBKa0, hzBKa1, hzBKa2, hzBKa3⟩ := cells4 BKa.out; obtain ⟨hzBKx0, hzBKx1, hzBKx2, hzBKx3⟩ := cells4 BKx.out)
  )
 refine start_ (n := 5) (S := fun w' => w'.cell? ⟨gx, 0, none⟩ = some (.slice X0 x0.length x0k) ∧ w'.cell? ⟨gx, 1, none⟩ = some (.int .i64 xT) ∧ w'.cell? ⟨gx, 2, none⟩ = some (.slice X2 x2.length x2k) ∧ w'.cell? ⟨gx, 3, none⟩ = some (.slice X3 x3.length x3k) ∧ w'.cell? ⟨ga, 0, none⟩ = some (.slice ah ac.length ai) ∧ w'.cell? ⟨ga, 1, none⟩ = some (.int .i64 a0_1) ∧ w'.cell? ⟨ga, 2, none⟩ = some (.slice aj ad.length ak) ∧ w'.cell? ⟨ga, 3, none⟩ = some (.slice al ae.length am)) (ds := []) #[ff, ff, ff, ff, ff] (by kernel_rfl) rfl rfl ⟨hzBKx0, hzBKx1, hzBKx2, hzBKx3, hzBKa0, hzBKa1, hzBKa2, hzBKa3⟩ (fun hHeld => ?_)
 refine take_ (i := 0) (N := some 27) (v := ?_) (a' := ?_) #[tt, ff, ff, ff, ff] rfl rfl (by kernel_rfl) (fun _ _ _ h => h) (Or.inl ⟨by rfl, ?_⟩) hHeld ?_ ?_
 rotate_left
 · rintro w' ⟨s0, s1, s2, s3, s4, s5, s6, s7⟩
   go_simp
   with_reducible rfl
 rotate_left
 · simp only [Act.put, zp, zq, zr, i64_w, i32_w]
   rfl
 refine take_ (i := 1) (N := some 28) (v := ?_) (a' := ?_) #[tt, tt, ff, ff, ff] rfl rfl (by kernel_rfl) (fun _ _ _ h => h) (Or.inl ⟨by rfl, ?_⟩) hHeld ?_ ?_
 rotate_left
 · rintro w' ⟨s0, s1, s2, s3, s4, s5, s6, s7⟩
   go_simp
   with_reducible rfl
 rotate_left
 · simp only [Act.put, zp, zq, zr, i64_w, i32_w]
   rfl
 refine one_ (i := 2) (N := some 29) #[tt, tt, tt, ff, ff] rfl rfl (by kernel_rfl) (by decide) (fun K hK => ?_)
 refine goes_ Try.func32 (by kernel_rfl) rfl #[.agg #[.slice ah ac.length ai, .int .i64 a0_1, .slice aj ad.length ak, .slice al ae.length am]] (by rfl) rfl rfl (by simp only [List.map_toArray, List.map_cons, List.map_nil]; rfl) ?_
 with_reducible refine (laws_toLoop.calls2 k _ _ ac a0_1 _ _ ad _ _ ae x0 xT x2 x3 _ (Kd.C_below aw.out (zE HB.out)) ax.out (Kd.C_below ay.out (zE HB.out)) az.out (Kd.C_below aA.out (zE HB.out)) aB.out Ax.out).mono ?_
 rintro e w9 ⟨aC, v2_, v3_, rfl, ⟨PW_, hL_⟩, hba_⟩
 refine ⟨_, rfl, ?_⟩
 obtain ⟨Y0, y0k, Y2, y2k, Y3, y3k, ao, au, av, _, _, _, _, _, _⟩ := hL_.reads
 subst ao; subst au; subst av
 have hbr : Below w8.heap.size w8 w9 := below_then (below_drew (Below.refl _ _)) (Nat.le_refl _) hba_
 have hX_ := LX.out.later hbr
 have hY_ := LoopAt.of hL_ (Nat.le_refl _)
 refine hK.out _ _ ⟨pw_cell_below hba_ hHeld.1, pw_cell_below hba_ hHeld.2.1, pw_cell_below hba_ hHeld.2.2.1, pw_cell_below hba_ hHeld.2.2.2.1, pw_cell_below hba_ hHeld.2.2.2.2.1, pw_cell_below hba_ hHeld.2.2.2.2.2.1, pw_cell_below hba_ hHeld.2.2.2.2.2.2.1, pw_cell_below hba_ hHeld.2.2.2.2.2.2.2⟩ (fun hHeld => ?_)
 clear hK K
 refine norm_ (a' := ?_) ?_ ?_
 rotate_left
 · show Act.put _ (some 29) _ = _
   simp only [Act.put, zp, zq, zr, i64_w, i32_w]
   rfl
 refine one_ (i := 3) (N := some 30) #[tt, tt, tt, tt, ff] rfl rfl (by kernel_rfl) (by decide) (fun K hK => ?_)
 refine goes_ Try.func33 (by kernel_rfl) rfl #[.agg #[.slice X0 x0.length x0k, .int .i64 xT, .slice X2 x2.length x2k, .slice X3 x3.length x3k], .agg #[.slice Y0 x0.length y0k, .int .i64 xT, .slice Y2 x2.length y2k, .slice Y3 x3.length y3k]] (by rfl) rfl rfl (by simp only [List.map_toArray, List.map_cons, List.map_nil]; rfl) ?_
 with_reducible refine (laws_eqLoop.calls k _ _ x0 xT _ _ x2 _ _ x3 _ _ x0 xT _ _ x2 _ _ x3 true _ hX_.rd.2.1 hX_.rd.1 hX_.rd.2.2.2.1 hX_.rd.2.2.1 hX_.rd.2.2.2.2.2 hX_.rd.2.2.2.2.1 hY_.rd.2.1 hY_.rd.1 hY_.rd.2.2.2.1 hY_.rd.2.2.1 hY_.rd.2.2.2.2.2 hY_.rd.2.2.2.2.1 A2.out).mono ?_
 rintro e w10 ⟨rfl, hbb_⟩
 refine ⟨_, rfl, ?_⟩
 refine hK.out _ _ ⟨pw_cell_below hbb_ hHeld.1, pw_cell_below hbb_ hHeld.2.1, pw_cell_below hbb_ hHeld.2.2.1, pw_cell_below hbb_ hHeld.2.2.2.1, pw_cell_below hbb_ hHeld.2.2.2.2.1, pw_cell_below hbb_ hHeld.2.2.2.2.2.1, pw_cell_below hbb_ hHeld.2.2.2.2.2.2.1, pw_cell_below hbb_ hHeld.2.2.2.2.2.2.2⟩ (fun hHeld => ?_)
 clear hK K
 refine norm_ (a' := ?_) ?_ ?_
 rotate_left
 · show Act.put _ (some 30) _ = _
   simp only [Act.put, zp, zq, zr, i64_w, i32_w]
   rfl
 refine pure_ (i := 4) (N := some 31) (v := ?_) (a' := ?_) #[tt, tt, tt, tt, tt] rfl rfl (by kernel_rfl) (fun _ _ _ h => h) (Or.inl ⟨by rfl, ?_⟩) ?_ ?_
 rotate_left
 · intro w'
   go_simp
   with_reducible rfl
 rotate_left
 · simp only [Act.put, zp, zq, zr, i64_w, i32_w]
   rfl
 refine done_ (by kernel_rfl) ?_
 have hb : Below w8.heap.size w8 w10 := below_then hbr hbr.size hbb_
 clear hbr hba_ hbb_ hX_ hY_ hL_
 have aa := zK (below_step HB.out hb)
 have ab := zK (blk_below BKa.out hb)
 have af := zK (ri_later LW.out hb)
 have ag := zK (LX.out.later hb)
 have an := zK (blk_below BKx.out hb)
 have aD := zK (ri_later LG.out hb)
 clear HB BKa LW LX BKx LG hzBKa0 hzBKa1 hzBKa2 hzBKa3 hzBKx0 hzBKx1 hzBKx2 hzBKx3; have HB := aa; have BKa := ab; have LW := af; have LX := ag; have BKx := an; have LG := aD; clear aa ab af ag an aD hb
 obtain ⟨hzBKa0, hzBKa1, hzBKa2, hzBKa3⟩ := cells4 BKa.out
 obtain ⟨hzBKx0, hzBKx1, hzBKx2, hzBKx3⟩ := cells4 BKx.out
 go_wp2_with (first
  | ((with_reducible refine gate_callee (f := 42) rfl ?_); refine goesL_ (some 34) rfl rfl Try.func42 (by kernel_rfl) rfl #[.agg #[.slice X0 x0.length x0k, .int .i64 xT, .slice X2 x2.length x2k, .slice X3 x3.length x3k], .int .i64 1] rfl (by (try simp only [List.map_toArray, List.map_cons, List.map_nil]); first | done | rfl) ?_; (with_reducible refine (laws_markLoop.calls k lox hix _ _ _ x0 xT x2 x3 1 mk y0 y2 y3 w _ HB.out (by have h_ := AG.out; have g_ := GEa.out; omega) LX.out Am.out).mono ?_); rintro e w11 ⟨rfl, _, hb9, hk9⟩; refine ⟨_, rfl, ?_⟩; have aa := zK (hb9); have ab := zK (blk_kept BKa.out hk9 (by have h_ := AG.out; show ¬ (lox ≤ ga ∧ ga < hix); omega)); have af := zK (ri_kept LW.out hk9 (by have h_ := AG.out; omega)); have ag := zK (ri_kept LG.out hk9 (by have h_ := AG.out; omega)); clear HB BKa LW LG LX BKx hzBKa0 hzBKa1 hzBKa2 hzBKa3 hzBKx0 hzBKx1 hzBKx2 hzBKx3; have HB := aa; have BKa := ab; have LW := af; have LG := ag; clear aa ab af ag; clear hb9 hk9; obtain ⟨hzBKa0, hzBKa1, hzBKa2, hzBKa3⟩ := cells4 BKa.out)
  | ((with_reducible refine gate_callee (f := 41) rfl ?_); (try (refine gate_guard (by rfl) ?_; dsimp only)); refine goesL_ (some 40) rfl rfl Try.func41 (by kernel_rfl) rfl #[.slice G0 g0.length g0k, .slice S0 s0.length s0k] rfl (by (try simp only [List.map_toArray, List.map_cons, List.map_nil]); first | done | rfl) ?_; (with_reducible refine (laws_eqIntS.calls k _ _ g0 _ _ s0 true _ (ri_rd LG.out).2.2 (ri_rd LG.out).2.1 (ri_rd LW.out).2.2 (ri_rd LW.out).2.1 A1.out).mono ?_); rintro e w12 ⟨rfl, hd_⟩; refine ⟨_, rfl, ?_⟩; have hb := hd_.below; clear hd_; have aa := zK (below_step HB.out hb); have ab := zK (blk_below BKa.out hb); have af := zK (ri_later LW.out hb); have ag := zK (ri_later LG.out hb); clear HB BKa LW LG hzBKa0 hzBKa1 hzBKa2 hzBKa3; have HB := aa; have BKa := ab; have LW := af; have LG := ag; clear aa ab af ag; clear hb; obtain ⟨hzBKa0, hzBKa1, hzBKa2, hzBKa3⟩ := cells4 BKa.out)
  | ((with_reducible refine gate_callee (f := 43) rfl ?_); refine goesL_ (some 45) rfl rfl Try.func43 (by kernel_rfl) rfl #[.slice G0 g0.length g0k, .int .i64 1] rfl (by (try simp only [List.map_toArray, List.map_cons, List.map_nil]); first | done | rfl) ?_; (with_reducible refine (laws_markIntS.calls k (fun k_ => log ≤ k_ ∧ k_ < hig) _ g0 1 hk h0 w _ HB.out (ri_R LG.out) Ah.out).mono ?_); rintro e w13 ⟨rfl, ho9_, hb9, hk9⟩; refine ⟨_, rfl, ?_⟩; have hLn_ : RowIn w.heap.size log hig w13 (.slice G0 g0.length g0k) h0 := ⟨Nat.le_trans LG.out.1 hk9.1, Kd.R_reok rfl ho9_ (fun k_ e_ => (ri_R LG.out).1 k_ e_)⟩; clear ho9_ LG; have aa := zK (hb9); have ab := zK (blk_kept BKa.out hk9 (by have h_ := AG.out; show ¬ (log ≤ ga ∧ ga < hig); omega)); have af := zK (ri_kept LW.out hk9 (by have h_ := AG.out; omega)); have m0_ := zK (hLn_); clear HB BKa LW hzBKa0 hzBKa1 hzBKa2 hzBKa3; have HB := aa; have BKa := ab; have LW := af; have LG := m0_; clear aa ab af m0_; clear hb9 hk9 hLn_; obtain ⟨hzBKa0, hzBKa1, hzBKa2, hzBKa3⟩ := cells4 BKa.out)
  | ((with_reducible refine gate_callee (f := 45) rfl ?_); refine goesL_ (some 48) rfl rfl Try.func45 (by kernel_rfl) rfl #[.slice G0 g0.length g0k, .int .i64 1] rfl (by (try simp only [List.map_toArray, List.map_cons, List.map_nil]); first | done | rfl) ?_; (with_reducible refine (laws_FnExactStuck.held k _ _ h0 _ (ri_rd LG.out).1 1 q _ (ri_rd LG.out).2.2 (ri_rd LG.out).2.1 Aq.out).mono ?_); rintro e w14 ⟨rfl, hd_⟩; refine ⟨_, rfl, ?_⟩; have hb := hd_.below; clear hd_; have aa := zK (below_step HB.out hb); have ab := zK (blk_below BKa.out hb); have af := zK (ri_later LW.out hb); have ag := zK (ri_later LG.out hb); clear HB BKa LW LG hzBKa0 hzBKa1 hzBKa2 hzBKa3; have HB := aa; have BKa := ab; have LW := af; have LG := ag; clear aa ab af ag; clear hb; obtain ⟨hzBKa0, hzBKa1, hzBKa2, hzBKa3⟩ := cells4 BKa.out)
  | ((with_reducible refine gate_callee (f := 32) rfl ?_); refine goesL_ (some 55) rfl rfl Try.func32 (by kernel_rfl) rfl #[.agg #[.slice ah ac.length ai, .int .i64 a0_1, .slice aj ad.length ak, .slice al ae.length am]] rfl (by (try simp only [List.map_toArray, List.map_cons, List.map_nil]); first | done | rfl) ?_; (with_reducible refine (laws_toLoop.calls2 k _ _ ac a0_1 _ _ ad _ _ ae x0 xT x2 x3 _ (Kd.C_below aw.out HB.out) ax.out (Kd.C_below ay.out HB.out) az.out (Kd.C_below aA.out HB.out) aB.out Ax.out).mono ?_); rintro e w15 ⟨aC, v2_, v3_, rfl, hL_, hb⟩; refine ⟨_, rfl, ?_⟩; obtain ⟨lot, hit, ⟨elo_, ehi_⟩, hN_⟩ := LoopAt.new hL_ HB.out.size; obtain ⟨T0, t0k, T2, t2k, T3, t3k, ao, au, av, _, _, _, _, _, _⟩ := hN_.reads; subst ao; subst au; subst av; have aa := zK (below_step HB.out hb); have ab := zK (blk_below BKa.out hb); have af := zK (ri_later LW.out hb); have ag := zK (ri_later LG.out hb); have m0_ := zK (hN_); clear HB BKa LW LG hzBKa0 hzBKa1 hzBKa2 hzBKa3; have HB := aa; have BKa := ab; have LW := af; have LG := ag; have LT := m0_; clear aa ab af ag m0_; clear hb hN_ elo_ ehi_; clear hL_; obtain ⟨hzBKa0, hzBKa1, hzBKa2, hzBKa3⟩ := cells4 BKa.out)
  | ((with_reducible refine gate_callee (f := 29) rfl ?_); refine goesL_ (some 56) rfl rfl Try.func29 (by kernel_rfl) rfl #[.agg #[.slice T0 x0.length t0k, .int .i64 xT, .slice T2 x2.length t2k, .slice T3 x3.length t3k]] rfl (by (try simp only [List.map_toArray, List.map_cons, List.map_nil]); first | done | rfl) ?_; (with_reducible refine (impl_Stuck.calls k _ _ x0 xT _ _ x2 _ _ x3 g0 _ LT.out.rd.2.1 LT.out.rd.1 LT.out.rd.2.2.2.1 LT.out.rd.2.2.1 LT.out.rd.2.2.2.2.2 LT.out.rd.2.2.2.2.1 Ag.out).mono ?_); rintro e w16 ⟨aC, rfl, hL_, hb⟩; refine ⟨_, rfl, ?_⟩; clear LT; obtain ⟨lou, hiu, ⟨elo_, ehi_⟩, hN_⟩ := ri_new hL_ HB.out.size; obtain ⟨U0, u0k, ao⟩ := Kd.R_slice hN_.2; subst ao; have aa := zK (below_step HB.out hb); have ab := zK (blk_below BKa.out hb); have af := zK (ri_later LW.out hb); have ag := zK (ri_later LG.out hb); have m0_ := zK (hN_); clear HB BKa LW LG hzBKa0 hzBKa1 hzBKa2 hzBKa3; have HB := aa; have BKa := ab; have LW := af; have LG := ag; have LU := m0_; clear aa ab af ag m0_; clear hb hN_ elo_ ehi_; clear hL_; obtain ⟨hzBKa0, hzBKa1, hzBKa2, hzBKa3⟩ := cells4 BKa.out)
  | ((with_reducible refine gate_callee (f := 41) rfl ?_); refine goesL_ (some 59) rfl rfl Try.func41 (by kernel_rfl) rfl #[.slice U0 g0.length u0k, .slice S0 s0.length s0k] rfl (by (try simp only [List.map_toArray, List.map_cons, List.map_nil]); first | done | rfl) ?_; (with_reducible refine (laws_eqIntS.calls k _ _ g0 _ _ s0 true _ (ri_rd LU.out).2.2 (ri_rd LU.out).2.1 (ri_rd LW.out).2.2 (ri_rd LW.out).2.1 A1.out).mono ?_); rintro e w17 ⟨rfl, hd_⟩; refine ⟨_, rfl, ?_⟩; have hb := hd_.below; clear hd_; have aa := zK (below_step HB.out hb); have ab := zK (blk_below BKa.out hb); have af := zK (ri_later LW.out hb); have ag := zK (ri_later LG.out hb); have an := zK (ri_later LU.out hb); clear HB BKa LW LG LU hzBKa0 hzBKa1 hzBKa2 hzBKa3; have HB := aa; have BKa := ab; have LW := af; have LG := ag; have LU := an; clear aa ab af ag an; clear hb; obtain ⟨hzBKa0, hzBKa1, hzBKa2, hzBKa3⟩ := cells4 BKa.out)
  | ((with_reducible refine gate_callee (f := 45) rfl ?_); refine goesL_ (some 63) rfl rfl Try.func45 (by kernel_rfl) rfl #[.slice G0 g0.length g0k, .int .i64 1] rfl (by (try simp only [List.map_toArray, List.map_cons, List.map_nil]); first | done | rfl) ?_; (with_reducible refine (laws_FnExactStuck.held k _ _ h0 _ (ri_rd LG.out).1 1 q _ (ri_rd LG.out).2.2 (ri_rd LG.out).2.1 Aq.out).mono ?_); rintro e w18 ⟨rfl, hd_⟩; refine ⟨_, rfl, ?_⟩; have hb := hd_.below; clear hd_; have aa := zK (below_step HB.out hb); have ab := zK (blk_below BKa.out hb); have af := zK (ri_later LW.out hb); have ag := zK (ri_later LG.out hb); have an := zK (ri_later LU.out hb); clear HB BKa LW LG LU hzBKa0 hzBKa1 hzBKa2 hzBKa3; have HB := aa; have BKa := ab; have LW := af; have LG := ag; have LU := an; clear aa ab af ag an; clear hb; obtain ⟨hzBKa0, hzBKa1, hzBKa2, hzBKa3⟩ := cells4 BKa.out)
  )
 go_ret
 exact ⟨rfl, HB.out⟩
end Go.Proofs.Ytmjhbdmicejppaa.Px
