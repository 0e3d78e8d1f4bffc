import Derived.Test.YtheckjlldkkceaaZqPx0
namespace Go.Proofs.Ytheckjlldkkceaa.Px
open Go.RowKit Go.Proofs.YtheckjlldkkceaaW.PrintWords Go.Proofs.YtheckjlldkkceaaW.PrintLast Go.Proofs.YtheckjlldkkceaaW.PrintMore
attribute [local go_sem] max2_int min2_int max_two min_two max_three min_three max_four min_four   
set_option linter.unusedVariables false
set_option linter.unusedSimpArgs false
def laws_kept.l0 : Nat → Int → Int → Int → List (List (S30)) → Option (Int)
 | 0, _, _, _, _ => none
 | k + 1, x3, x4, x119000, x119001 => if x4 < (x119001.length : Int) then (if 0 ≤ x4 then (laws_kept.l0 k (wrap64 (x3 + ((rd_L2 x119001 x4).length : Int))) (wrap64 (x4 + 1)) x119000 x119001) else (none)) else (some x3)
def laws_kept.f (k : Nat) (a0_0 : Int) (l0_1 : List (List (S30))) : Option (Int) := laws_kept.l0 k 0 0 a0_0 l0_1
set_option maxHeartbeats 8000000 in
set_option maxRecDepth 100000 in
theorem laws_kept.calls (k : Nat) (a0_0 : Int) (ah : Option Addr) (ai : Nat) (ab : List (List (S30))) (r : Int) (w : World) (al : Kd.C (Kd.slice 30 k30) w ah ab.length ab) (hc0_1 : ab.length ≤ ai) (h : laws_kept.f k a0_0 ab = some r) :
  Calls Try.prog 16 #[.agg #[.int .i64 a0_0, .slice ah ab.length ai]] w fun e w' => e = .returned (.int .i64 r) ∧ Below w.heap.size w w' := by
 have hu24 := Try.underlying24; have ao := zK al; have HC0_1 := zK hc0_1; clear al hc0_1
 have HB := zK (Below.refl w.heap.size w)
 have H : (laws_kept.l0 k 0 0 a0_0 ab) = some r := h
 clear h; have H' := zK H; clear H
 go_enter Try.func16, Try.ntmps16
 go_wp2_with (first | ((with_reducible refine gate_dst (N := 1) rfl ?_); refine box_event ?hg (N := 1) ?hd (cs := #[.int .i64 a0_0, .slice ah ab.length ai]) (t := 24) ?hr ?_; (case hd => rfl); (case hg => rfl); (case hr => first | (go_simp; done) | (go_simp; rfl)); intro ad hg w2 hbox hb; have n0_ := zK (below_step (zb HB) hb); have n1_ := zK (hbox); have n2_ := zK ((by rw [hg]; exact (below_size (zb HB)) : w.heap.size ≤ ad)); have n3_ := zK ((by rw [hg]; exact (below_size (zb HB)) : w.heap.size ≤ ad)); clear HB; have HB := n0_; have aa := n1_; have GW118 := n2_; have aj := n3_; clear n0_ n1_ n2_ n3_; clear hb hbox hg))
 go_loopg [3, 4] k (fun kq v3 v4 w' => ∃ (ak : Int) (ac : Int), v3 = .int .i64 ak ∧ v4 = .int .i64 ac ∧ Aside0 (laws_kept.l0 kq ak ac a0_0 ab = some r) ∧ Aside0 (kq ≤ k) ∧ Aside0 (w'.heap[ad]? = some (.cells #[.int .i64 a0_0, (.slice ah ab.length ai)] 24 (0, 0))) ∧ Aside0 (Below w.heap.size w w'))
 case atStart => exact ⟨(0), (0), (by first | rfl | (simp; done) | (simp [*]; done)), (by first | rfl | (simp; done) | (simp [*]; done)), H', ⟨Nat.le_refl _⟩, ⟨zk aa⟩, ⟨zb HB⟩⟩
 case round =>
  clear H'
  try clear c1
  try clear p2
  obtain ⟨ak, ac, rfl, rfl, HA, HK1, aa, HB⟩ := hrel
  cases gk with
  | zero => exact absurd HA.out (by simp [laws_kept.l0])
  | succ k1 =>
   have H := HA.out; clear HA
   simp only [laws_kept.l0] at H
   by_cases c3 : ac < (ab.length : Int)
   ·rw [if_pos c3] at H
    have c3b0 : decide (ac < (ab.length : Int)) = true := decide_eq_true c3
    clear c3
    by_cases c4 : 0 ≤ ac
    ·rw [if_pos c4] at H
     have c4b0 : decide (0 ≤ ac) = true := decide_eq_true c4
     clear c4; have H' := zK H; clear H
     have hcz5_0 : wr.cell? ⟨ad, 0, none⟩ = some (.int .i64 a0_0) := (blk_cell aa.out 0).trans rfl
     have hcz5_1 : wr.cell? ⟨ad, 1, none⟩ = some (.slice ah ab.length ai) := (blk_cell aa.out 1).trans rfl
     have hfz5_0 := blk_frozen aa.out 0; have hfz5_1 := blk_frozen aa.out 1
     have am : 0 ≤ (ac : Int) := zd
     have an : ac < (ab.length : Int) := zd
     obtain ⟨ad119, A119_0, c119_0, e119, ae, af, ag⟩ := at_L2 ao.out ac am an
     cases e119
     replace ae := (HB.out.cell (World.block_lt_of_cell? w _ ae)).trans ae
     have HR119_0 := zK ag; have HC119_0 := zK af; clear ag af; replace am := eq_true am; replace an := eq_true an
     go_wp2
     go_roundg k1
     case measure => have := HK1.out; omega
     case rel => exact ⟨(wrap64 (ak + ((rd_L2 ab ac).length : Int))), (wrap64 (ac + 1)), (by first | rfl | (simp; done) | (simp [*]; done)), (by first | rfl | (simp; done) | (simp [*]; done)), H', ⟨by have := HK1.out; omega⟩, ⟨zk aa⟩, ⟨zb HB⟩⟩
    ·rw [if_neg c4] at H
     exact absurd H (by simp)
   ·rw [if_neg c3] at H
    have c3b0 : decide (ac < (ab.length : Int)) = false := decide_eq_false c3
    clear c3; obtain rfl := Option.some.inj H
    have hcz6_0 : wr.cell? ⟨ad, 0, none⟩ = some (.int .i64 a0_0) := (blk_cell aa.out 0).trans rfl
    have hcz6_1 : wr.cell? ⟨ad, 1, none⟩ = some (.slice ah ab.length ai) := (blk_cell aa.out 1).trans rfl
    have hfz6_0 := blk_frozen aa.out 0; have hfz6_1 := blk_frozen aa.out 1
    go_wp2
    go_ret
    exact ⟨by first | rfl | (simp [errW_none, errW_some] <;> rfl) | (simp [*, errW_none, errW_some] <;> rfl), by repeat (first | (with_reducible first | exact HB.out | apply zB | apply zC | apply zE | refine zS ?_ aj.out) | exact HB.out)⟩
end Go.Proofs.Ytheckjlldkkceaa.Px
