import Derived.Test.YtheckjlldkkceaaZbPx0
namespace Go.Proofs.Ytheckjlldkkceaa.Px
open Go.RowKit Go.Proofs.YtheckjlldkkceaaW.PrintWords Go.Proofs.YtheckjlldkkceaaW.PrintLast Go.Proofs.YtheckjlldkkceaaW.PrintMore
attribute [local go_sem] max2_int min2_int max_two min_two max_three min_three max_four min_four   
set_option linter.unusedVariables false
set_option linter.unusedSimpArgs false
def laws_markKeptS.l0 : Nat → List (S30) → Int → Int → Option (Int × (List (S30)))
 | 0, _, _, _ => none
 | k + 1, x0, x1, x5 => if x5 < (x0.length : Int) then (if 0 ≤ x5 then ((some (x0.set (x5 : Int).toNat (⟨x1, (rd_T30 x0 x5).f1⟩ : S30) : List (S30))).bind fun y678 => (laws_markKeptS.l0 k (y678.set (x5 : Int).toNat (⟨(rd_T30 y678 x5).f0, wrap64 (x1 + 1)⟩ : S30)) (wrap64 ((wrap64 (x1 + 1)) + 1)) (wrap64 (x5 + 1)))) else (none)) else (some (x1, x0))
def laws_markKeptS.f (k : Nat) (l0 : List (S30)) (a1 : Int) : Option (Int × (List (S30))) := laws_markKeptS.l0 k l0 a1 0
set_option maxHeartbeats 8000000 in
set_option maxRecDepth 100000 in
theorem laws_markKeptS.calls (k : Nat) (P0_ : Nat → Prop) (u9000_ : Value) (l0 : List (S30)) (a1 : Int) (r1 : Int) (r2 : List (S30)) (w0 w : World) (hB : Below w0.heap.size w0 w) (ho0 : Kd.R k30 30 w w0.heap.size P0_ u9000_ l0) (h : laws_markKeptS.f k l0 a1 = some (r1, r2)) :
  Calls Try.prog 92 #[u9000_, .int .i64 a1] w fun e w' => e = .returned (.int .i64 r1) ∧ Kd.R k30 30 w' w0.heap.size (fun k_ => (P0_ k_ ∨ w.heap.size ≤ k_)) u9000_ r2 ∧ Below w0.heap.size w0 w' ∧ Kept w w' (fun k_ => P0_ k_) := by
 have HO0 := zK (show Kd.R k30 30 w w0.heap.size (fun k_ => (P0_ k_ ∨ w.heap.size ≤ k_)) u9000_ l0 from Kd.R_mono ho0 (fun k_ hk => (.inl hk)))
 have HK := zK (Kept.refl w (fun k_ => P0_ k_))
 have HW0 := zK hB.size; have HB := zK hB; clear hB
 have H : (laws_markKeptS.l0 k l0 a1 0) = some (r1, r2) := h
 clear h; have H' := zK H; clear H
 go_enter Try.func92, Try.ntmps92
 go_wp2
 go_loopg [1, 5] k (fun kq v1 v5 w' => ∃ (ab : List (S30)) (ad : Int) (aa : Int), v1 = .int .i64 ad ∧ v5 = .int .i64 aa ∧ Aside0 (laws_markKeptS.l0 kq ab ad aa = some (r1, r2)) ∧ Aside0 (kq ≤ k) ∧ Aside0 (Kd.R k30 30 w' w0.heap.size (fun k_ => (P0_ k_ ∨ w.heap.size ≤ k_)) u9000_ ab) ∧ Aside0 (Kept w w' (fun k_ => P0_ k_)) ∧ Aside0 (Below w0.heap.size w0 w'))
 case atStart => exact ⟨(l0), (a1), (0), (by first | rfl | (simp; done) | (simp [*]; done)), (by first | rfl | (simp; done) | (simp [*]; done)), H', ⟨Nat.le_refl _⟩, ⟨zR HO0⟩, ⟨by repeat (first | (with_reducible first | exact HK.out | apply Kept.alloc | apply Kept.drewN | apply Kept.drew) | exact HK.out)⟩, ⟨zb HB⟩⟩
 case round =>
  clear H'
  try clear p2
  obtain ⟨ab, ad, aa, rfl, rfl, HA, HK1, ac, HK, HB⟩ := hrel
  cases gk with
  | zero => exact absurd HA.out (by simp [laws_markKeptS.l0])
  | succ k1 =>
   have H := HA.out; clear HA
   simp only [laws_markKeptS.l0] at H
   by_cases c3 : aa < (ab.length : Int)
   ·rw [if_pos c3] at H
    have c3b0 : decide (aa < (ab.length : Int)) = true := decide_eq_true c3
    clear c3
    by_cases c4 : 0 ≤ aa
    ·rw [if_pos c4] at H
     have c4b0 : decide (0 ≤ aa) = true := decide_eq_true c4
     clear c4
     obtain ⟨ae, ag⟩ : ∃ y_ : List (S30), y_ = (ab.set (aa : Int).toNat (⟨ad, (rd_T30 ab aa).f1⟩ : S30)) := ⟨_, rfl⟩
     replace H : (laws_markKeptS.l0 k1 (ae.set (aa : Int).toNat (⟨(rd_T30 ae aa).f0, wrap64 (ad + 1)⟩ : S30)) (wrap64 ((wrap64 (ad + 1)) + 1)) (wrap64 (aa + 1))) = some (r1, r2) := by first | (rw [ag]; with_reducible exact H) | (have H2_ := (Option.bind_some _ _).symm.trans H; rw [ag]; with_reducible exact H2_) | (have H2_ := (Option.bind_some _ _).symm.trans H; with_reducible exact H2_) | with_reducible exact H | (rw [ag]; exact H) | exact H
     have Ny678 := zK ag; clear ag
     obtain ⟨al, ah⟩ : ∃ y_ : List (S30), y_ = (ae.set (aa : Int).toNat (⟨(rd_T30 ae aa).f0, wrap64 (ad + 1)⟩ : S30)) := ⟨_, rfl⟩
     replace H : (laws_markKeptS.l0 k1 al (wrap64 ((wrap64 (ad + 1)) + 1)) (wrap64 (aa + 1))) = some (r1, r2) := by first | (rw [ah]; with_reducible exact H) | (have H2_ := (Option.bind_some _ _).symm.trans H; rw [ah]; with_reducible exact H2_) | (have H2_ := (Option.bind_some _ _).symm.trans H; with_reducible exact H2_) | with_reducible exact H | (rw [ah]; exact H) | exact H
     have Ny679 := zK ah; clear ah; have H' := zK H; clear H
     obtain ⟨Ao7, co7, eo7⟩ := Kd.R_slice ac.out
     subst eo7
     have p5 : 0 ≤ (aa : Int) := of_decide_eq_true (by first | (with_reducible assumption) | assumption)
     have q5 : (aa : Int) < ((ab.length : Int) : Int) := of_decide_eq_true (by first | (with_reducible assumption) | assumption)
     obtain ⟨af, co5, eo5, gb5, gl5, cl5, HG5⟩ := Kd.R_form ac.out (by omega)
     (first | cases eo5 | (injection eo5 with ea_ en_ ec_; (first | subst ea_ | (injection ea_ with ea_; subst ea_)); subst ec_; clear en_))
     have GB5 := zK gb5; have GG5 := zK HG5; clear gb5 gl5 HG5
     have HMgo5 := zK (show (P0_ af ∨ w.heap.size ≤ af) from (ac.out.1 _ rfl))
     obtain ⟨ce5, hcl5, hM5, am, an⟩ := Kd.R_elem ac.out z30 (aa : Int) p5 q5
     obtain rfl := k30_openM hM5
     have hx5_0 : wr.cell? ⟨af, (aa : Int).toNat * 2, none⟩ = some (.int .i64 ((rd_T30 ab aa).f0)) := am 0 _ rfl
     have hx5_1 : wr.cell? ⟨af, (aa : Int).toNat * 2 + 1, none⟩ = some (.int .i64 ((rd_T30 ab aa).f1)) := am 1 _ rfl
     have hf5_0 : wr.frozen? ⟨af, (aa : Int).toNat * 2, none⟩ = false := an 0
     have hf5_1 : wr.frozen? ⟨af, (aa : Int).toNat * 2 + 1, none⟩ = false := an 1
     clear hcl5 am an; (try clear hM5)
     replace p5 := eq_true p5; replace q5 := eq_true q5
     have HX8 := zK (show Kd.R k30 30 wr w0.heap.size (fun k_ => (P0_ k_ ∨ w.heap.size ≤ k_)) (.slice (some ⟨af, 0, none⟩) ab.length co7) ab from (zR ac))
     obtain ⟨ce8, aw, hM8, ao, ax⟩ := Kd.R_elem HX8.out z30 (aa : Int) (of_decide_eq_true (by first | (with_reducible assumption) | assumption)) (by have h_ : (aa : Int) < ((ab.length : Int) : Int) := of_decide_eq_true (by first | (with_reducible assumption) | assumption); first | exact h_ | (have e_ := (Kd.R_reads' ac.out).1; omega) | simpa using h_)
     obtain rfl := k30_openM hM8
     have HP8 := Kd.R_seg HX8.out (aa : Int) (of_decide_eq_true (by first | (with_reducible assumption) | assumption)) (by have h_ : (aa : Int) < ((ab.length : Int) : Int) := of_decide_eq_true (by first | (with_reducible assumption) | assumption); first | exact h_ | (have e_ := (Kd.R_reads' ac.out).1; omega) | simpa using h_) (seg := [.int .i64 ad]) (j := 0) aw ao (show 1 ≤ 2 from by decide) (x' := (⟨ad, (rd_T30 ab aa).f1⟩ : S30)) (k30_mkM _ _ _ (⟨ad, (rd_T30 ab aa).f1⟩ : S30) ) (fun _ hk => hk)
     have ay := ao 0 _ rfl; (try simp only [show (k30).sz = 2 from rfl, Nat.mul_one, Nat.add_zero] at ay); have az := ax 0; (try simp only [show (k30).sz = 2 from rfl, Nat.mul_one, Nat.add_zero] at az)
     clear aw ao ax; (try clear hM8)
     go_wp2_with (first | ((with_reducible refine gate_store (t := 3) (p := 16) rfl ?_); refine store_event (t := 3) (p := 16) (v := ?vo_w9) (w1 := (wr.setCell ⟨af, (aa : Int).toNat * 2, none⟩ (.int .i64 ad))) ?hg ?ho ?hn ?hr ?_; (case ho => rfl); (case hg => rfl); (case hn => rfl); (case hr => first | (go_simp; done) | (go_simp; rfl)); intro w9 hw; have hg : wr.grownBy w9 (some af) := (by rw [hw]; exact HP8.2); have hp_ : Kd.R k30 30 w9 w0.heap.size (fun k_ => (P0_ k_ ∨ w.heap.size ≤ k_)) (.slice (some ⟨af, 0, none⟩) ab.length co7) ae := (by rw [hw, Ny678.out]; exact HP8.1); clear HP8; have aA := zK (hp_); have aB := zK ((by rw [hw]; exact zS (HB.out) GB5.out : Below w0.heap.size w0 w9)); have aC := zK (Kept.of_grown (S := (fun k_ => P0_ k_)) hg (by repeat (first | (with_reducible first | exact HK.out | apply Kept.alloc | apply Kept.drewN | apply Kept.drew) | exact HK.out)) (fun k_ e_ => (ac.out.1 k_ e_))); clear ac; clear HB; clear HK; have ac := aA; have HB := aB; have HK := aC; clear aA aB aC; clear hg hw hp_; have p6 : 0 ≤ (aa : Int) := of_decide_eq_true (by first | (with_reducible assumption) | assumption); have q6 : (aa : Int) < ((ab.length : Int) : Int) := of_decide_eq_true (by first | (with_reducible assumption) | assumption); obtain ⟨ce6, hcl6, hM6, ap, aq⟩ := Kd.R_elem ac.out z30 (aa : Int) p6 q6; obtain rfl := k30_openM hM6; have hx6_0 : w9.cell? ⟨af, (aa : Int).toNat * 2, none⟩ = some (.int .i64 ((rd_T30 ae aa).f0)) := ap 0 _ rfl; have hx6_1 : w9.cell? ⟨af, (aa : Int).toNat * 2 + 1, none⟩ = some (.int .i64 ((rd_T30 ae aa).f1)) := ap 1 _ rfl; have hf6_0 : w9.frozen? ⟨af, (aa : Int).toNat * 2, none⟩ = false := aq 0; have hf6_1 : w9.frozen? ⟨af, (aa : Int).toNat * 2 + 1, none⟩ = false := aq 1; clear hcl6 ap aq; (try clear hM6); replace p6 := eq_true p6; replace q6 := eq_true q6; have aD := zK (show Kd.R k30 30 w9 w0.heap.size (fun k_ => (P0_ k_ ∨ w.heap.size ≤ k_)) (.slice (some ⟨af, 0, none⟩) ab.length co7) ae from (zR ac)); obtain ⟨ce10, aj, aE, ai, ak⟩ := Kd.R_elem aD.out z30 (aa : Int) (of_decide_eq_true (by first | (with_reducible assumption) | assumption)) (by have h_ : (aa : Int) < ((ab.length : Int) : Int) := of_decide_eq_true (by first | (with_reducible assumption) | assumption); first | exact h_ | (have e_ := (Kd.R_reads' ac.out).1; omega) | simpa using h_); obtain rfl := k30_openM aE; have ar := Kd.R_seg aD.out (aa : Int) (of_decide_eq_true (by first | (with_reducible assumption) | assumption)) (by have h_ : (aa : Int) < ((ab.length : Int) : Int) := of_decide_eq_true (by first | (with_reducible assumption) | assumption); first | exact h_ | (have e_ := (Kd.R_reads' ac.out).1; omega) | simpa using h_) (seg := [.int .i64 (wrap64 (ad + 1))]) (j := 1) aj ai (show 2 ≤ 2 from by decide) (x' := (⟨(rd_T30 ae aa).f0, wrap64 (ad + 1)⟩ : S30)) (k30_mkM _ _ _ (⟨(rd_T30 ae aa).f0, wrap64 (ad + 1)⟩ : S30) ) (fun _ hk => hk); have au := ai 1 _ rfl; (try simp only [show (k30).sz = 2 from rfl, Nat.mul_one, Nat.add_zero] at au); have av := ak 1; (try simp only [show (k30).sz = 2 from rfl, Nat.mul_one, Nat.add_zero] at av); clear aj ai ak; (try clear aE)) | ((with_reducible refine gate_store (t := 3) (p := 23) rfl ?_); refine store_event (t := 3) (p := 23) (v := ?vo_w11) (w1 := (w9.setCell ⟨af, (aa : Int).toNat * 2 + 1, none⟩ (.int .i64 (wrap64 (ad + 1))))) ?hg ?ho ?hn ?hr ?_; (case ho => rfl); (case hg => rfl); (case hn => rfl); (case hr => first | (go_simp; done) | (go_simp; rfl)); intro w11 hw; have hg : w9.grownBy w11 (some af) := (by rw [hw]; exact ar.2); have hp_ : Kd.R k30 30 w11 w0.heap.size (fun k_ => (P0_ k_ ∨ w.heap.size ≤ k_)) (.slice (some ⟨af, 0, none⟩) ab.length co7) al := (by rw [hw, Ny679.out]; exact ar.1); clear ar; have aA := zK (hp_); have aB := zK ((by rw [hw]; exact zS (HB.out) GB5.out : Below w0.heap.size w0 w11)); have aC := zK (Kept.of_grown (S := (fun k_ => P0_ k_)) hg (by repeat (first | (with_reducible first | exact HK.out | apply Kept.alloc | apply Kept.drewN | apply Kept.drew) | exact HK.out)) (fun k_ e_ => (ac.out.1 k_ e_))); clear ac; clear HB; clear HK; have ac := aA; have HB := aB; have HK := aC; clear aA aB aC; clear hg hw hp_))
     go_roundg k1
     case measure => have := HK1.out; omega
     case rel => exact ⟨(al), (wrap64 ((wrap64 (ad + 1)) + 1)), (wrap64 (aa + 1)), (by first | rfl | (simp; done) | (simp [*]; done)), (by first | rfl | (simp; done) | (simp [*]; done)), H', ⟨by have := HK1.out; omega⟩, ⟨zR ac⟩, ⟨by repeat (first | (with_reducible first | exact HK.out | apply Kept.alloc | apply Kept.drewN | apply Kept.drew) | exact HK.out)⟩, ⟨zb HB⟩⟩
    ·rw [if_neg c4] at H
     exact absurd H (by simp)
   ·rw [if_neg c3] at H
    have c3b0 : decide (aa < (ab.length : Int)) = false := decide_eq_false c3
    clear c3
    simp only [Option.some.injEq, Prod.mk.injEq] at H
    obtain ⟨rfl, rfl⟩ := H
    obtain ⟨Ao12, co12, eo12⟩ := Kd.R_slice ac.out
    subst eo12
    go_wp2
    go_ret
    exact ⟨by first | rfl | (simp [errW_none, errW_some] <;> rfl) | (simp [*, errW_none, errW_some] <;> rfl), by (with_reducible repeat (first | apply Kd.R_alloc | apply Kd.R_drewN | apply Kd.R_drew)); exact ac.out, by repeat (first | (with_reducible first | exact HB.out | apply zB | apply zC | apply zE) | exact HB.out), by repeat (first | (with_reducible first | exact HK.out | apply Kept.alloc | apply Kept.drewN | apply Kept.drew) | exact HK.out)⟩
theorem marks_types {W : World} {L1 L2 : List Nat} {k : Nat} (h : ∃ q, q ∈ L1 ∧ ∃ cells, W.heap[k]? = some (.cells cells q (0, 0))) (g : ∃ q, q ∈ L2 ∧ ∃ cells, W.heap[k]? = some (.cells cells q (0, 0))) (hd : ∀ q, q ∈ L1 → q ∉ L2) : False := by
 obtain ⟨q, hq, cs, e1⟩ := h
 obtain ⟨q', hq', cs', e2⟩ := g
 rw [e1] at e2
 injection e2 with e2
 injection e2 with _ e3
 exact hd q hq (e3 ▸ hq')
theorem marks_blk {W W2 : World} {S : Nat → Prop} {L : List Nat} {base g : Nat} {o : Obj} (hb : W.heap[g]? = some o) (hk : Kept W W2 (fun k_ => S k_ ∧ base ≤ k_ ∧ k_ < W.heap.size ∧ ∃ q, q ∈ L ∧ ∃ cells, W.heap[k_]? = some (.cells cells q (0, 0)))) (hd : ∃ cs T, o = .cells cs T (0, 0) ∧ T ∉ L) : W2.heap[g]? = some o := by
 obtain ⟨cs, T, rfl, hT⟩ := hd
 refine blk_kept hb hk (fun hs => ?_)
 refine marks_types (L1 := [T]) ⟨T, List.mem_cons_self, cs, hb⟩ hs.2.2.2 (fun q hq => ?_)
 rw [List.mem_singleton.1 hq]
 exact hT
def laws_markKeptSS.l0 : Nat → List (List (S30)) → Int → Int → Option (Int × List (List (S30)))
 | 0, _, _, _ => none
 | k + 1, x0, x1, x5 => if x5 < (x0.length : Int) then (if 0 ≤ x5 then ((laws_markKeptS.f k (rd_L2 x0 x5) x1).bind fun bt => (laws_markKeptSS.l0 k (x0.set (x5 : Int).toNat bt.2) bt.1 (wrap64 (x5 + 1)))) else (none)) else (some (x1, x0))
def laws_markKeptSS.f (k : Nat) (l0 : List (List (S30))) (a1 : Int) : Option (Int × List (List (S30))) := laws_markKeptSS.l0 k l0 a1 0
set_option maxHeartbeats 8000000 in
set_option maxRecDepth 100000 in
theorem laws_markKeptSS.calls (k : Nat) (P0_ : Nat → Prop) (u0_ : Value) (l0 : List (List (S30))) (a1 : Int) (r1 : Int) (r2 : List (List (S30))) (w0 w : World) (hB : Below w0.heap.size w0 w) (ho0 : Kd.S (Kd.slice 30 k30) 28 w w0.heap.size P0_ u0_ l0) (h : laws_markKeptSS.f k l0 a1 = some (r1, r2)) :
  Calls Try.prog 72 #[u0_, .int .i64 a1] w fun e w' => e = .returned (.int .i64 r1) ∧ Kd.S (Kd.slice 30 k30) 28 w' w0.heap.size P0_ u0_ r2 ∧ Below w0.heap.size w0 w' ∧ Kept w w' (fun k_ => P0_ k_) := by
 have HO0 := zK ho0
 have HK := zK (Kept.refl w (fun k_ => P0_ k_))
 have HB := zK hB
 have H' := zK (show laws_markKeptSS.l0 k l0 a1 0 = some (r1, r2) from h)
 clear h hB ho0
 go_enter Try.func72, Try.ntmps72
 go_wp2
 go_loopg [1, 5] k (fun kq v1 v5 w' => ∃ (ab : List (List (S30))) (ad : Int) (aa : Int), v1 = .int .i64 ad ∧ v5 = .int .i64 aa ∧ Aside0 (laws_markKeptSS.l0 kq ab ad aa = some (r1, r2)) ∧ Aside0 (kq ≤ k) ∧ Aside0 (Kd.S (Kd.slice 30 k30) 28 w' w0.heap.size P0_ u0_ ab) ∧ Aside0 (Kept w w' (fun k_ => P0_ k_)) ∧ Aside0 (Below w0.heap.size w0 w'))
 case atStart => exact ⟨l0, a1, 0, rfl, rfl, H', ⟨Nat.le_refl _⟩, HO0, HK, HB⟩
 case round =>
  clear H'
  obtain ⟨ab, ad, aa, rfl, rfl, HA, HK1, ac, HK, HB⟩ := hrel
  cases gk with
  | zero => exact absurd HA.out (by simp [laws_markKeptSS.l0])
  | succ k1 =>
   have H := HA.out; clear HA
   simp only [laws_markKeptSS.l0] at H
   by_cases c3 : aa < (ab.length : Int)
   · rw [if_pos c3] at H
     have c3b0 : decide (aa < (ab.length : Int)) = true := decide_eq_true c3
     by_cases c4 : 0 ≤ aa
     · rw [if_pos c4] at H
       have c4b0 : decide (0 ≤ aa) = true := decide_eq_true c4
       replace H := Option.bind_eq_some_iff.mp H
       obtain ⟨⟨t1, t2⟩, A50, H⟩ := H
       have A5 := zK A50
       have H' := zK (show laws_markKeptSS.l0 k1 (ab.set (aa : Int).toNat t2) t1 (wrap64 (aa + 1)) = some (r1, r2) from H)
       clear A50 H
       obtain ⟨go5, co5, eo5, gb5, gl5, cl5, HG5⟩ := Kd.S_form ac.out (by omega)
       subst eo5; have HS5 := zK ac.out
       obtain ⟨ag, c5, hcl5, hM5, ah, ai, ae, hH5⟩ := Kd.S_elem HS5.out ([] : List S30) (aa : Int) c4 c3
       obtain ⟨ve5, rfl, hr5⟩ := hM5
       have af : wr.cell? ⟨go5, (aa : Int).toNat, none⟩ = some ve5 := by
         have h_ := ah 0 _ rfl
         rwa [show (Kd.slice 30 k30).sz = 1 from rfl, Nat.mul_one, Nat.add_zero] at h_
       have hx5_f : wr.frozen? ⟨go5, (aa : Int).toNat, none⟩ = false := by
         have h_ := ai 0
         rwa [show (Kd.slice 30 k30).sz = 1 from rfl, Nat.mul_one, Nat.add_zero] at h_
       clear ah ai hcl5
       obtain ⟨Ai5, ci5, ei5⟩ := Kd.R_slice hr5
       subst ei5
       have HR5 := zK (show Kd.R k30 30 wr w0.heap.size ag (.slice Ai5 (rd_L2 ab aa).length ci5) (rd_L2 ab aa) from hr5)
       have HH5 := zK hH5
       have hx5_1 : wr.cell? ⟨go5, (aa : Int).toNat, none⟩ = some (.slice Ai5 (rd_L2 ab aa).length ci5) := af
       have HOK5 := zK ae; clear hr5 hH5 af ae ac; have p5 := eq_true c4
       have q5 : (aa < ((ab.length : Nat) : Int)) = True := eq_true c3
       go_wp2_with (first | (go_at_call 92; refine (laws_markKeptS.calls k1 ag _ (rd_L2 ab aa) ad t1 t2 w0 _ HB.out HR5.out A5.out).mono ?_; rintro e w9 ⟨rfl, ho9, hb9, hk9⟩))
       have HB9 := zK hb9
       have HK9 := zK (Kept.then_ HK.out hk9 (fun k_ hk_ => .inl (HOK5.out k_ hk_).1))
       have HO9 := zK (Kd.H_back (Kd.H_kept HH5.out hk9 (fun _ _ hn_ => hn_)) (Kd.M_row (Kd.R_reok rfl ho9 (fun k_ e_ => HR5.out.1 k_ e_))) (fun _ hk_ => hk_))
       clear ho9 hb9 hk9 HK HB
       go_roundg k1
       case measure => have := HK1.out; omega
       case rel => exact ⟨_, t1, (wrap64 (aa + 1)), rfl, rfl, H', ⟨by have := HK1.out; omega⟩, HO9, HK9, HB9⟩
     · rw [if_neg c4] at H
       exact absurd H (by simp)
   · rw [if_neg c3] at H
     have c3b0 : decide (aa < (ab.length : Int)) = false := decide_eq_false c3
     simp only [Option.some.injEq, Prod.mk.injEq] at H
     obtain ⟨rfl, rfl⟩ := H
     obtain ⟨Ao12, co12, eo12⟩ := Kd.S_slice ac.out
     subst eo12
     go_wp2
     go_ret
     exact ⟨rfl, ac.out, HB.out, HK.out⟩
def laws_markStore.f (k : Nat) (a0_0 : Int) (l0_1 : List (List (S30))) (a1 : Int) : Option (Int × List (List (S30))) := laws_markKeptSS.f k l0_1 a1
set_option maxHeartbeats 8000000 in
set_option maxRecDepth 100000 in
theorem laws_markStore.calls (k : Nat) (P0_ : Nat → Prop) (u0_ : Value) (a0_0 : Int) (aa : List (List (S30))) (a1 : Int) (r1 : Int) (r2 : List (List (S30))) (w0 w : World) (hB : Below w0.heap.size w0 w) (ho0 : Kd.S (Kd.slice 30 k30) 28 w w0.heap.size P0_ u0_ aa) (h : laws_markStore.f k a0_0 aa a1 = some (r1, r2)) :
  Calls Try.prog 35 #[.agg #[.int .i64 a0_0, u0_], .int .i64 a1] w fun e w' => e = .returned (.int .i64 r1) ∧ Kd.S (Kd.slice 30 k30) 28 w' w0.heap.size P0_ u0_ r2 ∧ Below w0.heap.size w0 w' ∧ Kept w w' (fun k_ => P0_ k_) := by
 have hu24 := Try.underlying24
 obtain ⟨A0_1, c0_1, eo1⟩ := Kd.S_slice ho0
 subst eo1; have HO0 := zK ho0; have HB := zK hB
 have H := zK (show laws_markKeptSS.f k aa a1 = some (r1, r2) from h)
 clear h hB ho0
 go_enter Try.func35, Try.ntmps35
 go_wp2_with (first | (go_at_call 72; refine (laws_markKeptSS.calls k P0_ _ aa a1 r1 r2 w0 _ (by repeat (first | exact HB.out | apply zB | apply zC | apply zE)) (zT HO0) H.out).mono ?_; rintro e w9 ⟨rfl, ho9, hb9, hk9⟩))
 go_ret
 exact ⟨rfl, ho9, hb9, Kept.then_ (S2 := fun k_ => P0_ k_) (by repeat (first | exact Kept.refl _ _ | apply Kept.alloc | apply Kept.drewN | apply Kept.drew)) hk9 (fun _ hk_ => .inl hk_)⟩
def laws_heldKeptS.l0 : Nat → List (S30) → Int → Int → Option (Int)
 | 0, _, _, _ => none
 | k + 1, x0, x1, x5 => if x5 < (x0.length : Int) then (if 0 ≤ x5 then (if ((rd_T30 x0 x5).f0) = x1 then (if ((rd_T30 x0 x5).f1) = (wrap64 (x1 + 1)) then (laws_heldKeptS.l0 k x0 (wrap64 ((wrap64 (x1 + 1)) + 1)) (wrap64 (x5 + 1))) else (some (-1))) else (some (-1))) else (none)) else (some x1)
def laws_heldKeptS.f (k : Nat) (l0 : List (S30)) (a1 : Int) : Option (Int) := laws_heldKeptS.l0 k l0 a1 0
set_option maxHeartbeats 8000000 in
set_option maxRecDepth 100000 in
theorem laws_heldKeptS.calls (k : Nat) (A0 : Option Addr) (c0 : Nat) (l0 : List (S30)) (a1 : Int) (r : Int) (w : World) (hr0 : Kd.C k30 w A0 l0.length l0) (hc0 : l0.length ≤ c0) (h : laws_heldKeptS.f k l0 a1 = some r) :
  Calls Try.prog 93 #[.slice A0 l0.length c0, .int .i64 a1] w fun e w' => e = .returned (.int .i64 r) ∧ Drawn0 w w' := by
 have ao := zK hr0; have HC0 := zK hc0; clear hr0 hc0
 have H : (laws_heldKeptS.l0 k l0 a1 0) = some r := h
 clear h; have H' := zK H; clear H
 go_enter Try.func93, Try.ntmps93
 go_wp2
 go_loopg [1, 5] k (fun kq v1 v5 w' => ∃ (ab : Int) (aa : Int), v1 = .int .i64 ab ∧ v5 = .int .i64 aa ∧ Aside0 (laws_heldKeptS.l0 kq l0 ab aa = some r) ∧ Aside0 (kq ≤ k) ∧ Drawn0 w w')
 case atStart => exact ⟨(a1), (0), (by first | rfl | (simp; done) | (simp [*]; done)), (by first | rfl | (simp; done) | (simp [*]; done)), H', ⟨Nat.le_refl _⟩, by repeat (first | exact Drawn0.refl _ | apply Drawn0.step)⟩
 case round =>
  clear H'
  try clear p2
  obtain ⟨ab, aa, rfl, rfl, HA, HK1, ⟨m1, rfl⟩⟩ := hrel
  cases gk with
  | zero => exact absurd HA.out (by simp [laws_heldKeptS.l0])
  | succ k1 =>
   have H := HA.out; clear HA
   simp only [laws_heldKeptS.l0] at H
   by_cases c3 : aa < (l0.length : Int)
   ·rw [if_pos c3] at H
    have c3b0 : decide (aa < (l0.length : Int)) = true := decide_eq_true c3
    clear c3
    by_cases c4 : 0 ≤ aa
    ·rw [if_pos c4] at H
     have c4b0 : decide (0 ≤ aa) = true := decide_eq_true c4
     clear c4
     by_cases c5 : ((rd_T30 l0 aa).f0) = ab
     ·rw [if_pos c5] at H
      have c5b0 : (((rd_T30 l0 aa).f0) == ab) = true := beq_iff_eq.mpr c5
      have c5b1 : (((rd_T30 l0 aa).f0) != ab) = false := bne_eq_false_iff_eq.mpr c5
      clear c5
      by_cases c6 : ((rd_T30 l0 aa).f1) = (wrap64 (ab + 1))
      ·rw [if_pos c6] at H
       have c6b0 : (((rd_T30 l0 aa).f1) == (wrap64 (ab + 1))) = true := beq_iff_eq.mpr c6
       have c6b1 : (((rd_T30 l0 aa).f1) != (wrap64 (ab + 1))) = false := bne_eq_false_iff_eq.mpr c6
       clear c6; have H' := zK H; clear H
       have ac : 0 ≤ (aa : Int) := of_decide_eq_true (by first | (with_reducible assumption) | assumption)
       have ad : aa < (l0.length : Int) := of_decide_eq_true (by first | (with_reducible assumption) | assumption)
       obtain ⟨ag, aj, ah, ai⟩ := at_T30 ao.out aa ac ad
       cases aj
       replace ac := eq_true ac; replace ad := eq_true ad
       have ae : 0 ≤ (aa : Int) := of_decide_eq_true (by first | (with_reducible assumption) | assumption)
       have af : aa < (l0.length : Int) := of_decide_eq_true (by first | (with_reducible assumption) | assumption)
       obtain ⟨ak, an, al, am⟩ := at_T30 ao.out aa ae af
       obtain rfl : ag = ak := (by injection an)
       replace ae := eq_true ae; replace af := eq_true af
       go_wp2
       go_roundg k1
       case measure => have := HK1.out; omega
       case rel => exact ⟨(wrap64 ((wrap64 (ab + 1)) + 1)), (wrap64 (aa + 1)), (by first | rfl | (simp; done) | (simp [*]; done)), (by first | rfl | (simp; done) | (simp [*]; done)), H', ⟨by have := HK1.out; omega⟩, by repeat (first | exact Drawn0.refl _ | apply Drawn0.step)⟩
      ·rw [if_neg c6] at H
       have c6b0 : (((rd_T30 l0 aa).f1) == (wrap64 (ab + 1))) = false := beq_eq_false_iff_ne.mpr c6
       have c6b1 : (((rd_T30 l0 aa).f1) != (wrap64 (ab + 1))) = true := bne_iff_ne.mpr c6
       obtain rfl := Option.some.inj H
       have ac : 0 ≤ (aa : Int) := of_decide_eq_true (by first | (with_reducible assumption) | assumption)
       have ad : aa < (l0.length : Int) := of_decide_eq_true (by first | (with_reducible assumption) | assumption)
       obtain ⟨ag, aj, ah, ai⟩ := at_T30 ao.out aa ac ad
       cases aj
       replace ac := eq_true ac; replace ad := eq_true ad
       have ae : 0 ≤ (aa : Int) := of_decide_eq_true (by first | (with_reducible assumption) | assumption)
       have af : aa < (l0.length : Int) := of_decide_eq_true (by first | (with_reducible assumption) | assumption)
       obtain ⟨ak, an, al, am⟩ := at_T30 ao.out aa ae af
       obtain rfl : ag = ak := (by injection an)
       replace ae := eq_true ae; replace af := eq_true af
       go_wp2
       go_ret
       exact ⟨by first | rfl | (simp; done) | (simp [*]; done), by repeat (first | exact Drawn0.refl _ | apply Drawn0.step)⟩
     ·rw [if_neg c5] at H
      have c5b0 : (((rd_T30 l0 aa).f0) == ab) = false := beq_eq_false_iff_ne.mpr c5
      have c5b1 : (((rd_T30 l0 aa).f0) != ab) = true := bne_iff_ne.mpr c5
      obtain rfl := Option.some.inj H
      have ac : 0 ≤ (aa : Int) := of_decide_eq_true (by first | (with_reducible assumption) | assumption)
      have ad : aa < (l0.length : Int) := of_decide_eq_true (by first | (with_reducible assumption) | assumption)
      obtain ⟨ag, aj, ah, ai⟩ := at_T30 ao.out aa ac ad
      cases aj
      replace ac := eq_true ac; replace ad := eq_true ad
      go_wp2
      go_ret
      exact ⟨by first | rfl | (simp; done) | (simp [*]; done), by repeat (first | exact Drawn0.refl _ | apply Drawn0.step)⟩
    ·rw [if_neg c4] at H
     exact absurd H (by simp)
   ·rw [if_neg c3] at H
    have c3b0 : decide (aa < (l0.length : Int)) = false := decide_eq_false c3
    clear c3; obtain rfl := Option.some.inj H
    go_wp2
    go_ret
    exact ⟨by first | rfl | (simp; done) | (simp [*]; done), by repeat (first | exact Drawn0.refl _ | apply Drawn0.step)⟩
def laws_heldKeptSS.l0 : Nat → List (List (S30)) → Int → Int → Option (Int)
 | 0, _, _, _ => none
 | k + 1, x0, x1, x5 => if x5 < (x0.length : Int) then (if 0 ≤ x5 then ((laws_heldKeptS.f k (rd_L2 x0 x5) x1).bind fun t683 => (if t683 < 0 then (some (-1)) else (laws_heldKeptSS.l0 k x0 t683 (wrap64 (x5 + 1))))) else (none)) else (some x1)
def laws_heldKeptSS.f (k : Nat) (l0 : List (List (S30))) (a1 : Int) : Option (Int) := laws_heldKeptSS.l0 k l0 a1 0
set_option maxHeartbeats 8000000 in
set_option maxRecDepth 100000 in
theorem laws_heldKeptSS.calls (k : Nat) (A0 : Option Addr) (c0 : Nat) (l0 : List (List (S30))) (a1 : Int) (r : Int) (w : World) (hr0 : Kd.C (Kd.slice 30 k30) w A0 l0.length l0) (hc0 : l0.length ≤ c0) (h : laws_heldKeptSS.f k l0 a1 = some r) :
  Calls Try.prog 73 #[.slice A0 l0.length c0, .int .i64 a1] w fun e w' => e = .returned (.int .i64 r) ∧ Drawn0 w w' := by
 have HR0 := zK hr0; have HC0 := zK hc0; clear hr0 hc0
 have H : (laws_heldKeptSS.l0 k l0 a1 0) = some r := h
 clear h; have H' := zK H; clear H
 go_enter Try.func73, Try.ntmps73
 go_wp2
 go_loopg [1, 5] k (fun kq v1 v5 w' => ∃ (ag : Int) (aa : Int), v1 = .int .i64 ag ∧ v5 = .int .i64 aa ∧ Aside0 (laws_heldKeptSS.l0 kq l0 ag aa = some r) ∧ Aside0 (kq ≤ k) ∧ Drawn0 w w')
 case atStart => exact ⟨(a1), (0), (by first | rfl | (simp; done) | (simp [*]; done)), (by first | rfl | (simp; done) | (simp [*]; done)), H', ⟨Nat.le_refl _⟩, by repeat (first | exact Drawn0.refl _ | apply Drawn0.step)⟩
 case round =>
  clear H'
  try clear p2
  obtain ⟨ag, aa, rfl, rfl, HA, HK1, ⟨m1, rfl⟩⟩ := hrel
  cases gk with
  | zero => exact absurd HA.out (by simp [laws_heldKeptSS.l0])
  | succ k1 =>
   have H := HA.out; clear HA
   simp only [laws_heldKeptSS.l0] at H
   by_cases c3 : aa < (l0.length : Int)
   ·rw [if_pos c3] at H
    have c3b0 : decide (aa < (l0.length : Int)) = true := decide_eq_true c3
    clear c3
    by_cases c4 : 0 ≤ aa
    ·rw [if_pos c4] at H
     have c4b0 : decide (0 ≤ aa) = true := decide_eq_true c4
     clear c4; replace H := Option.bind_eq_some_iff.mp H
     obtain ⟨af, A50, H⟩ := H
     replace H : (if af < 0 then (some (-1)) else (laws_heldKeptSS.l0 k1 l0 af (wrap64 (aa + 1)))) = some r := H
     have A5 := zK A50; clear A50
     by_cases c6 : af < 0
     ·rw [if_pos c6] at H
      have c6b0 : decide (af < 0) = true := decide_eq_true c6
      clear c6; obtain rfl := Option.some.inj H
      have ah : 0 ≤ (aa : Int) := of_decide_eq_true (by first | (with_reducible assumption) | assumption)
      have ai : aa < (l0.length : Int) := of_decide_eq_true (by first | (with_reducible assumption) | assumption)
      obtain ⟨an, aj, ak, am, al, ab, ac⟩ := at_L2 HR0.out aa ah ai
      cases am
      have ad := zK ac; have ae := zK ab; clear ac ab; replace ah := eq_true ah; replace ai := eq_true ai
      go_wp2_with (first | ((with_reducible refine gate_callee (f := 93) rfl ?_); refine goesL_ (some 17) rfl rfl Try.func93 (by kernel_rfl) rfl #[.slice aj (rd_L2 l0 aa).length ak, .int .i64 ag] rfl (by (try simp only [List.map_toArray, List.map_cons, List.map_nil]); first | done | rfl | (simp only [List.length_drop, List.length_take]; rfl)) ?_; (with_reducible refine (laws_heldKeptS.calls k1 _ _ (rd_L2 l0 aa) ag af _ ?side1 ?side2 A5.out).mono ?_); (case side1 => repeat (first | exact ad.out | (with_reducible refine Kd.C_alloc ?_ _) | (with_reducible refine Kd.C_drewN ?_ _) | (with_reducible refine Kd.C_drew ?_))); (case side2 => exact ae.out); rintro e w' ⟨rfl, ⟨nd, rfl⟩⟩; refine ⟨_, rfl, ?_⟩))
      go_ret
      exact ⟨by first | rfl | (simp; done) | (simp [*]; done), by repeat (first | exact Drawn0.refl _ | apply Drawn0.step)⟩
     ·rw [if_neg c6] at H
      have c6b0 : decide (af < 0) = false := decide_eq_false c6
      clear c6; have H' := zK H; clear H
      have ah : 0 ≤ (aa : Int) := of_decide_eq_true (by first | (with_reducible assumption) | assumption)
      have ai : aa < (l0.length : Int) := of_decide_eq_true (by first | (with_reducible assumption) | assumption)
      obtain ⟨an, aj, ak, am, al, ab, ac⟩ := at_L2 HR0.out aa ah ai
      cases am
      have ad := zK ac; have ae := zK ab; clear ac ab; replace ah := eq_true ah; replace ai := eq_true ai
      go_wp2_with (first | ((with_reducible refine gate_callee (f := 93) rfl ?_); refine goesL_ (some 17) rfl rfl Try.func93 (by kernel_rfl) rfl #[.slice aj (rd_L2 l0 aa).length ak, .int .i64 ag] rfl (by (try simp only [List.map_toArray, List.map_cons, List.map_nil]); first | done | rfl | (simp only [List.length_drop, List.length_take]; rfl)) ?_; (with_reducible refine (laws_heldKeptS.calls k1 _ _ (rd_L2 l0 aa) ag af _ ?side1 ?side2 A5.out).mono ?_); (case side1 => repeat (first | exact ad.out | (with_reducible refine Kd.C_alloc ?_ _) | (with_reducible refine Kd.C_drewN ?_ _) | (with_reducible refine Kd.C_drew ?_))); (case side2 => exact ae.out); rintro e w' ⟨rfl, ⟨nd, rfl⟩⟩; refine ⟨_, rfl, ?_⟩))
      go_roundg k1
      case measure => have := HK1.out; omega
      case rel => exact ⟨(af), (wrap64 (aa + 1)), (by first | rfl | (simp; done) | (simp [*]; done)), (by first | rfl | (simp; done) | (simp [*]; done)), H', ⟨by have := HK1.out; omega⟩, by repeat (first | exact Drawn0.refl _ | apply Drawn0.step)⟩
    ·rw [if_neg c4] at H
     exact absurd H (by simp)
   ·rw [if_neg c3] at H
    have c3b0 : decide (aa < (l0.length : Int)) = false := decide_eq_false c3
    clear c3; obtain rfl := Option.some.inj H
    go_wp2
    go_ret
    exact ⟨by first | rfl | (simp; done) | (simp [*]; done), by repeat (first | exact Drawn0.refl _ | apply Drawn0.step)⟩
def laws_heldStore.f (k : Nat) (a0_0 : Int) (l0_1 : List (List (S30))) (a1 : Int) : Option (Int) := (laws_heldKeptSS.f k l0_1 a1).bind fun t685 => (if t685 < 0 then (some (-1)) else (some t685))
set_option maxHeartbeats 8000000 in
set_option maxRecDepth 100000 in
theorem laws_heldStore.calls (k : Nat) (a0_0 : Int) (ae : Option Addr) (af : Nat) (aa : List (List (S30))) (a1 : Int) (r : Int) (w : World) (ah : Kd.C (Kd.slice 30 k30) w ae aa.length aa) (hc0_1 : aa.length ≤ af) (h : laws_heldStore.f k a0_0 aa a1 = some r) :
  Calls Try.prog 36 #[.agg #[.int .i64 a0_0, .slice ae aa.length af], .int .i64 a1] w fun e w' => e = .returned (.int .i64 r) ∧ Below w.heap.size w w' := by
 have hu24 := Try.underlying24; have ai := zK ah; have aj := zK hc0_1; clear ah hc0_1
 have HB := zK (Below.refl w.heap.size w)
 have H : ((laws_heldKeptSS.f k aa a1).bind fun ad => (if ad < 0 then (some (-1)) else (some ad))) = some r := h
 clear h; replace H := Option.bind_eq_some_iff.mp H
 obtain ⟨ad, A30, H⟩ := H
 replace H : (if ad < 0 then (some (-1)) else (some ad)) = some r := H
 have A3 := zK A30; clear A30
 by_cases c4 : ad < 0
 ·rw [if_pos c4] at H
  have c4b0 : decide (ad < 0) = true := decide_eq_true c4
  clear c4; obtain rfl := Option.some.inj H
  go_enter Try.func36, Try.ntmps36
  go_wp2_with (first | ((with_reducible refine gate_dst (N := 2) rfl ?_); refine box_event ?hg (N := 2) ?hd (cs := #[.int .i64 a0_0, .slice ae aa.length af]) (t := 24) ?hr ?_; (case hd => rfl); (case hg => rfl); (case hr => first | (go_simp; done) | (go_simp; rfl)); intro ab hg w5 hbox hb; have ak := zK (below_step (zb HB) hb); have al := zK (hbox); have am := zK ((by rw [hg]; exact (below_size (zb HB)) : w.heap.size ≤ ab)); have an := zK ((by rw [hg]; exact (below_size (zb HB)) : w.heap.size ≤ ab)); clear HB; have HB := ak; have ac := al; have ao := am; have ag := an; clear ak al am an; clear hb hbox hg; have hcz6_0 : w5.cell? ⟨ab, 0, none⟩ = some (.int .i64 a0_0) := (blk_cell ac.out 0).trans rfl; have hcz6_1 : w5.cell? ⟨ab, 1, none⟩ = some (.slice ae aa.length af) := (blk_cell ac.out 1).trans rfl; have hfz6_0 := blk_frozen ac.out 0; have hfz6_1 := blk_frozen ac.out 1) | ((with_reducible refine gate_callee (f := 73) rfl ?_); refine goesL_ (some 8) rfl rfl Try.func73 (by kernel_rfl) rfl #[.slice ae aa.length af, .int .i64 a1] rfl (by (try simp only [List.map_toArray, List.map_cons, List.map_nil]); first | done | rfl | (simp only [List.length_drop, List.length_take]; rfl)) ?_; (with_reducible refine (laws_heldKeptSS.calls k _ _ aa a1 ad _ ?side1 ?side2 A3.out).mono ?_); (case side1 => repeat (first | exact (Kd.C_below ai.out HB.out) | (with_reducible refine Kd.C_alloc ?_ _) | (with_reducible refine Kd.C_drewN ?_ _) | (with_reducible refine Kd.C_drew ?_))); (case side2 => exact aj.out); rintro e w' ⟨rfl, ⟨nd, rfl⟩⟩; refine ⟨_, rfl, ?_⟩))
  go_ret
  exact ⟨by first | rfl | (simp [errW_none, errW_some] <;> rfl) | (simp [*, errW_none, errW_some] <;> rfl), by repeat (first | (with_reducible first | exact HB.out | apply zB | apply zC | apply zE | refine zS ?_ ag.out) | exact HB.out)⟩
 ·rw [if_neg c4] at H
  have c4b0 : decide (ad < 0) = false := decide_eq_false c4
  clear c4; obtain rfl := Option.some.inj H
  go_enter Try.func36, Try.ntmps36
  go_wp2_with (first | ((with_reducible refine gate_dst (N := 2) rfl ?_); refine box_event ?hg (N := 2) ?hd (cs := #[.int .i64 a0_0, .slice ae aa.length af]) (t := 24) ?hr ?_; (case hd => rfl); (case hg => rfl); (case hr => first | (go_simp; done) | (go_simp; rfl)); intro ab hg w7 hbox hb; have ak := zK (below_step (zb HB) hb); have al := zK (hbox); have am := zK ((by rw [hg]; exact (below_size (zb HB)) : w.heap.size ≤ ab)); have an := zK ((by rw [hg]; exact (below_size (zb HB)) : w.heap.size ≤ ab)); clear HB; have HB := ak; have ac := al; have ao := am; have ag := an; clear ak al am an; clear hb hbox hg; have hcz8_0 : w7.cell? ⟨ab, 0, none⟩ = some (.int .i64 a0_0) := (blk_cell ac.out 0).trans rfl; have hcz8_1 : w7.cell? ⟨ab, 1, none⟩ = some (.slice ae aa.length af) := (blk_cell ac.out 1).trans rfl; have hfz8_0 := blk_frozen ac.out 0; have hfz8_1 := blk_frozen ac.out 1) | ((with_reducible refine gate_callee (f := 73) rfl ?_); refine goesL_ (some 8) rfl rfl Try.func73 (by kernel_rfl) rfl #[.slice ae aa.length af, .int .i64 a1] rfl (by (try simp only [List.map_toArray, List.map_cons, List.map_nil]); first | done | rfl | (simp only [List.length_drop, List.length_take]; rfl)) ?_; (with_reducible refine (laws_heldKeptSS.calls k _ _ aa a1 ad _ ?side1 ?side2 A3.out).mono ?_); (case side1 => repeat (first | exact (Kd.C_below ai.out HB.out) | (with_reducible refine Kd.C_alloc ?_ _) | (with_reducible refine Kd.C_drewN ?_ _) | (with_reducible refine Kd.C_drew ?_))); (case side2 => exact aj.out); rintro e w' ⟨rfl, ⟨nd, rfl⟩⟩; refine ⟨_, rfl, ?_⟩))
  go_ret
  exact ⟨by first | rfl | (simp [errW_none, errW_some] <;> rfl) | (simp [*, errW_none, errW_some] <;> rfl), by repeat (first | (with_reducible first | exact HB.out | apply zB | apply zC | apply zE | refine zS ?_ ag.out) | exact HB.out)⟩
end Go.Proofs.Ytheckjlldkkceaa.Px
