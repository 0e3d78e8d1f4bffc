import Derived.Test.YtdmbfmfdijgdkaaZmStFnMissing
import Derived.Test.YtdmbfmfdijgdkaaZmMs
namespace Go.Proofs.Ytdmbfmfdijgdkaa.Pu
open Go.RowKit Go.Proofs.Ytdmbfmfdijgdkaa.Px Go.Proofs.YtdmbfmfdijgdkaaW.PrintWords Go.Proofs.YtdmbfmfdijgdkaaW.PrintLast
set_option linter.unusedVariables false

theorem FnMissing : laws_FnMissing.Pure := by
  intro b ⟨h1, h2, h3⟩
  by_cases hb : b.length ≤ 1048576
  · obtain ⟨l, s, now, hd, hl, hs⟩ := draw_missing_ev b hb
    have hml := missing_len l s now
    have hal := assign_len l s
    have j1 : Ev (fun k => laws_FnMissing.j1 k l s now (missing l s now) (!(exOk l && sgOk s))) true := by
      by_cases hv : exOk l = true ∧ sgOk s = true
      · have hm : missing l s now = gone now (assign l s) l := by unfold missing; rw [if_pos hv]
        have loop : ∀ (d i : Nat), i + d = l.length → Ev (fun k => laws_FnMissing.l0 k l now (missing l s now) (assign l s) ((gone now (assign l s) (l.take i)).length : Int) (i : Int)) true := by
          intro d
          induction d with
          | zero =>
            intro i hi
            have e : gone now (assign l s) (l.take i) = missing l s now := by rw [List.take_of_length_le (by omega), hm]
            rw [e]
            refine Ev.step (f := fun _ => some true) (fun k => ?_) (Ev.now _)
            simp only [laws_FnMissing.l0]
            rw [if_neg (by omega)]
            simp
          | succ d ih =>
            intro i hi
            have hlt : i < l.length := by omega
            have eg : l[i] = l.getD i z52 := by simp [hlt]
            have h := ih (i + 1) (by omega)
            have ht : gone now (assign l s) (l.take (i + 1)) = gone now (assign l s) (l.take i) ++ gone now (assign l s) [l.getD i z52] := by
              rw [← eg, List.take_succ_eq_append_getElem hlt]
              unfold gone
              rw [List.filter_append, List.map_append]
            have hall : missing l s now = gone now (assign l s) (l.take i) ++ (gone now (assign l s) [l.getD i z52] ++ gone now (assign l s) (l.drop (i + 1))) := by
              have e2 : l = l.take i ++ ([l.getD i z52] ++ l.drop (i + 1)) := by
                rw [← eg]
                have := (List.take_append_drop i l).symm
                rw [List.drop_eq_getElem_cons hlt] at this
                exact this
              have gapp : ∀ x y : List S52, gone now (assign l s) (x ++ y) = gone now (assign l s) x ++ gone now (assign l s) y := fun x y => by
                unfold gone
                rw [List.filter_append, List.map_append]
              rw [hm]
              exact (congrArg (gone now (assign l s)) e2).trans (by rw [gapp, gapp])
            have skip : gone now (assign l s) [l.getD i z52] = [] → Ev (fun k => laws_FnMissing.j3 k l now (missing l s now) (assign l s) ((gone now (assign l s) (l.take i)).length : Int) (i : Int) true) true := by
              intro h0
              rw [ht, h0, List.append_nil] at h
              refine Ev.step (fun k => ?_) h
              simp only [laws_FnMissing.j3]
              rw [if_pos trivial, wrap_in (x := (i : Int) + 1) (by omega) (by omega)]
              rfl
            have hhas := lhas_ev (assign l s) (l.getD i z52).f0 (by omega)
            by_cases c : (l.getD i z52).f2 ≥ now
            · refine Ev.step (fun k => ?_) (skip (by
                rw [gone_cons, if_neg (by unfold late; rw [decide_eq_false (by omega)]; simp)]
                rfl))
              simp only [laws_FnMissing.l0, rd52_getD]
              rw [if_pos (by omega), if_pos (by omega), if_pos c]
            · by_cases hin : (l.getD i z52).f0 ∈ assign l s
              · refine Ev.round ((Lt.of hhas).and (Lt.of (skip (by
                  rw [gone_cons, if_neg (by unfold late; rw [decide_eq_true hin]; simp)]
                  rfl)))) fun k ⟨e1, e2⟩ => ?_
                simp only [laws_FnMissing.l0, rd52_getD, e1, Option.bind_some]
                rw [if_pos (by omega), if_pos (by omega), if_neg c, decide_eq_true hin]
                exact e2
              · have h0 : gone now (assign l s) [l.getD i z52] = [(l.getD i z52).f0] := by
                  rw [gone_cons, if_pos (by unfold late; rw [decide_eq_true (by omega), decide_eq_false hin]; rfl)]
                  rfl
                rw [ht, h0] at h
                rw [h0] at hall
                have hlen : (gone now (assign l s) (l.take i)).length < (missing l s now).length := by
                  rw [hall]
                  simp
                have hrd : rd (missing l s now) ((gone now (assign l s) (l.take i)).length : Int) = (l.getD i z52).f0 := by
                  rw [hall]
                  simp only [rd, Int.toNat_natCast, List.getD_eq_getElem?_getD]
                  rw [List.getElem?_append_right (Nat.le_refl _), Nat.sub_self]
                  rfl
                have j3 : Ev (fun k => laws_FnMissing.j3 k l now (missing l s now) (assign l s) ((gone now (assign l s) (l.take i)).length : Int) (i : Int) false) true := by
                  refine Ev.step (fun k => ?_) h
                  simp only [laws_FnMissing.j3, rd52_getD, hrd]
                  rw [if_neg (by simp), if_neg (by omega), if_pos (by omega), if_pos (by omega), if_pos (by omega), if_pos (by omega), if_pos trivial, wrap_in (x := (i : Int) + 1) (by omega) (by omega), wrap_in (x := ((gone now (assign l s) (l.take i)).length : Int) + 1) (by omega) (by omega)]
                  simp
                refine Ev.round ((Lt.of hhas).and (Lt.of j3)) fun k ⟨e1, e2⟩ => ?_
                simp only [laws_FnMissing.l0, rd52_getD, e1, Option.bind_some]
                rw [if_pos (by omega), if_pos (by omega), if_neg c, decide_eq_false hin]
                exact e2
        have h0 := loop l.length 0 (by omega)
        refine Ev.round ((Lt.of (impl_as_ev l s (by omega) (by omega))).and (Lt.of h0)) fun k ⟨e1, e2⟩ => ?_
        simp only [laws_FnMissing.j1, hv.1, hv.2, e1, Option.bind_some]
        rw [if_neg (by simp)]
        exact e2
      · have hm : missing l s now = [] := by unfold missing; rw [if_neg hv]
        have ha : assign l s = [] := by unfold assign; rw [if_neg hv]
        have hf : (exOk l && sgOk s) = false := by
          cases h1 : exOk l with
          | false => rfl
          | true =>
            cases h2 : sgOk s with
            | false => rfl
            | true => exact absurd ⟨h1, h2⟩ hv
        refine Ev.round ((Lt.of (impl_as_ev l s (by omega) (by omega))).and (Lt.of (most_ev l s (by omega) (by omega) hv))) fun k ⟨e1, e2⟩ => ?_
        simp only [laws_FnMissing.j1, hf, hm, e1, ha, e2, Option.bind_some]
        simp
    have j0 : Ev (fun k => laws_FnMissing.j0 k l s now (missing l s now) false) true := by
      cases hx : exOk l with
      | true =>
        rw [hx, Bool.true_and] at j1
        refine Ev.round ((Lt.of (spec_ex_ev l)).and ((Lt.of (spec_sg_ev s)).and (Lt.of j1))) fun k ⟨e1, e2, e3⟩ => ?_
        simp only [laws_FnMissing.j0, e1, e2, hx, Option.bind_some]
        rw [if_neg (by simp), if_pos trivial]
        exact e3
      | false =>
        rw [hx, Bool.false_and, Bool.not_false] at j1
        refine Ev.round ((Lt.of (spec_ex_ev l)).and (Lt.of j1)) fun k ⟨e1, e3⟩ => ?_
        simp only [laws_FnMissing.j0, e1, hx, Option.bind_some]
        rw [if_neg (by simp), if_neg (by simp)]
        exact e3
    refine Lt.get ((Lt.of hd).and ((Lt.of (impl_ms_ev l s now (by omega) (by omega))).and ((Lt.of (spec_ms_ev l s now)).and ((Lt.of (sameI_ev (missing l s now) (by omega))).and ((Lt.of (impl_ex_ev l (by omega))).and ((Lt.of (spec_ex_ev l)).and ((Lt.of (impl_sg_ev s (by omega))).and ((Lt.of (spec_sg_ev s)).and (Lt.of j0))))))))) fun k ⟨e1, e2, e3, e4, e5, e6, e7, e8, e9⟩ => ?_
    simp only [laws_FnMissing.f, laws_big.f, e1, e2, e3, e4, e5, e6, e7, e8, Option.bind_some]
    rw [if_neg (by simp; omega), if_pos trivial, if_neg (by simp), show (sgOk s != sgOk s) = false by simp]
    exact e9
  · exact ⟨0, by simp only [laws_FnMissing.f, laws_big.f, Option.bind_some]; rw [if_pos (by simp; omega)]⟩

end Go.Proofs.Ytdmbfmfdijgdkaa.Pu
