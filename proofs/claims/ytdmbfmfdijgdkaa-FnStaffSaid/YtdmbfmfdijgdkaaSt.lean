/- How many are dropped: never more by one operator more; none with as many operators as images; the images that are served can be served alone. -/
import Derived.Test.YtdmbfmfdijgdkaaMo
import Derived.Test.YtdmbfmfdijgdkaaLf
import Derived.Test.YtdmbfmfdijgdkaaDi
namespace Go.Proofs.Ytdmbfmfdijgdkaa.Pu
open Go.RowKit Go.Proofs.Ytdmbfmfdijgdkaa.Px Go.Proofs.YtdmbfmfdijgdkaaW.PrintWords Go.Proofs.YtdmbfmfdijgdkaaW.PrintLast Go.Proofs.YtdmbfmfdijgdkaaW.PrintMore
set_option linter.unusedVariables false

/-- How many are free at t. -/
def cnt (f : List Int) (t : Int) : Nat := f.countP (fun x => decide (x ≤ t))
theorem getD_at (f : List Int) (i : Nat) (h : i < f.length) : f.getD i 0 = f[i] := by simp [h]
theorem cnt_set (f : List Int) (i : Nat) (h : i < f.length) (v t : Int) : (cnt (f.set i v) t : Int) = cnt f t - (if f.getD i 0 ≤ t then 1 else 0) + (if v ≤ t then 1 else 0) := by
  unfold cnt
  rw [List.countP_set h, getD_at f i h]
  have hpos : f[i] ≤ t → 0 < f.countP (fun x => decide (x ≤ t)) := fun hh => List.countP_pos_iff.2 ⟨f[i], List.getElem_mem h, by simpa using hh⟩
  by_cases a : f[i] ≤ t <;> by_cases b : v ≤ t <;> simp only [a, b, decide_true, decide_false, if_true, if_false, Bool.false_eq_true] <;> (try have := hpos a) <;> omega
theorem cnt_min (f : List Int) (h0 : 0 < f.length) (t : Int) : 0 < cnt f t ↔ f.getD (who f) 0 ≤ t := by
  obtain ⟨w0, w1, w2⟩ := who_ok f h0
  unfold cnt
  rw [List.countP_pos_iff]
  constructor
  · rintro ⟨x, hx, hxt⟩
    obtain ⟨j, hj, rfl⟩ := List.getElem_of_mem hx
    have := w1 j hj
    rw [getD_at f j hj] at this
    have h2 : f[j] ≤ t := by simpa using hxt
    omega
  · intro h
    refine ⟨f[who f], List.getElem_mem w0, ?_⟩
    rw [getD_at f _ w0] at h
    simpa using h
theorem bg_at (f : List Int) (x : S41) : x.f0 ≤ bg f x ∧ f.getD (who f) 0 ≤ bg f x ∧ (bg f x = x.f0 ∨ bg f x = f.getD (who f) 0) := by
  unfold bg mx
  split <;> omega
theorem negs_cons (x : Int) (r : List Int) : negs (x :: r) = negs r + (if x < 0 then 1 else 0) := by
  simp [negs, List.countP_cons]
theorem sv_more (w : Int) : ∀ (l : List S41) (f g : List Int), (∀ x ∈ l, inr x) → 0 < f.length → 0 < g.length → (∀ t, cnt f t ≤ cnt g t) → negs (sv w l f) = 0 → negs (sv w l g) = 0
  | [], f, g, _, _, _, _, _ => rfl
  | x :: r, f, g, hx, hf, hg, hc, hn => by
    obtain ⟨x0, x1, x2, x3⟩ := hx x (by simp)
    obtain ⟨a1, a2, a3⟩ := bg_at f x
    obtain ⟨b1, b2, b3⟩ := bg_at g x
    simp only [sv] at hn ⊢
    by_cases hd : bg f x > x.f0 + w
    · rw [if_pos hd, negs_cons, if_pos (by omega)] at hn
      omega
    · rw [if_neg hd, negs_cons, if_neg (by omega)] at hn
      have hm : g.getD (who g) 0 ≤ f.getD (who f) 0 := (cnt_min g hg _).1 (Nat.lt_of_lt_of_le ((cnt_min f hf _).2 (Int.le_refl _)) (hc _))
      have hb : bg g x ≤ bg f x := by omega
      rw [if_neg (by omega), negs_cons, if_neg (by omega)]
      have := sv_more w r (f.set (who f) (bg f x + x.f1)) (g.set (who g) (bg g x + x.f1)) (fun y hy => hx y (by simp [hy])) (by simpa using hf) (by simpa using hg) (fun t => by
        have c1 := cnt_set f (who f) (who_ok f hf).1 (bg f x + x.f1) t
        have c2 := cnt_set g (who g) (who_ok g hg).1 (bg g x + x.f1) t
        have c3 := hc t
        have m1 := cnt_min f hf t
        by_cases h1 : f.getD (who f) 0 ≤ t
        · rw [if_pos h1] at c1
          rw [if_pos (by omega)] at c2
          by_cases h2 : bg f x + x.f1 ≤ t
          · rw [if_pos h2] at c1
            rw [if_pos (by omega)] at c2
            omega
          · rw [if_neg h2] at c1
            have : 0 ≤ (if bg g x + x.f1 ≤ t then (1 : Int) else 0) := by split <;> omega
            omega
        · rw [if_neg h1, if_neg (by omega)] at c1
          have : ¬ 0 < cnt f t := fun h => h1 (m1.1 h)
          omega) (by omega)
      omega
theorem cnt_zeros (n : Nat) (t : Int) : cnt (List.replicate n 0) t = if 0 ≤ t then n else 0 := by
  unfold cnt
  rw [List.countP_replicate]
  by_cases h : 0 ≤ t <;> simp [h]
theorem dr_more (l : List S41) (w n : Int) (hn1 : 1 ≤ n) (hn2 : n + 1 ≤ 16) (h : dropped l w n = 0) : dropped l w (n + 1) = 0 := by
  unfold dropped at h ⊢
  by_cases hr : rt l w n = true
  · have hr2 : rt l w (n + 1) = true := by
      have := rt_in hr
      simp only [rt, Bool.and_eq_true, decide_eq_true_eq]
      exact ⟨⟨⟨⟨this.1, this.2.1⟩, this.2.2.1⟩, by omega⟩, hn2⟩
    rw [if_pos hr] at h
    rw [if_pos hr2]
    unfold serve at h ⊢
    rw [if_pos hr] at h
    rw [if_pos hr2]
    have := sv_more w l (List.replicate n.toNat 0) (List.replicate (n + 1).toNat 0) (imgs_in (rt_in hr).1).1 (by simp; omega) (by simp; omega) (fun t => by
      rw [cnt_zeros, cnt_zeros]
      split <;> omega) (by omega)
    omega
  · rw [if_neg hr] at h
    omega
theorem sv_free (w : Int) (hw : 0 ≤ w) : ∀ (l : List S41) (f : List Int), (∀ x ∈ l, inr x) → fin f → l.length ≤ cnt f 0 → 0 < f.length → negs (sv w l f) = 0
  | [], f, _, _, _, _ => rfl
  | x :: r, f, hx, hfin, hc, hf => by
    obtain ⟨x0, x1, x2, x3⟩ := hx x (by simp)
    obtain ⟨b0, b1, _⟩ := bg_in hfin (hx x (by simp))
    simp only [List.length_cons] at hc
    have hm := (cnt_min f hf 0).1 (by omega)
    have hm0 := (hfin (who f)).1
    have hb : bg f x = x.f0 := by
      have := bg_at f x
      omega
    simp only [sv]
    rw [if_neg (by omega), negs_cons, if_neg (by omega)]
    have c1 := cnt_set f (who f) (who_ok f hf).1 (bg f x + x.f1) 0
    rw [if_pos (by omega), if_neg (by omega)] at c1
    rw [sv_free w hw r _ (fun y hy => hx y (by simp [hy])) (fin_set hfin _ _ (by omega) (by omega)) (by omega) (by simpa using hf)]
theorem dr_enough (l : List S41) (w n : Int) (hr : rt l w n = true) (hl : (l.length : Int) ≤ n) : dropped l w n = 0 := by
  obtain ⟨r1, r2, r3, r4, r5⟩ := rt_in hr
  unfold dropped serve
  rw [if_pos hr, if_pos hr]
  have := sv_free w r2 l (List.replicate n.toNat 0) (imgs_in r1).1 (fin_zero _) (by rw [cnt_zeros]; simp; omega) (by simp; omega)
  omega
theorem least_ok (D : Int → Int) (hm : ∀ n, 1 ≤ n → n + 1 ≤ 16 → D n = 0 → D (n + 1) = 0) : ∀ (d : Nat) (n m : Int), n + d = 17 → 1 ≤ n → n ≤ m → m ≤ 16 → D m = 0 →
    n ≤ least D d n ∧ least D d n ≤ m ∧ ∀ j, n ≤ j → j ≤ 16 → (D j = 0 ↔ least D d n ≤ j)
  | 0, n, m, h1, h2, h3, h4, h5 => by omega
  | d + 1, n, m, h1, h2, h3, h4, h5 => by
    simp only [least]
    by_cases h : D n = 0
    · rw [if_pos h]
      refine ⟨by omega, h3, fun j hj1 hj2 => ⟨fun _ => hj1, fun _ => ?_⟩⟩
      have up : ∀ (e : Nat), n + e ≤ 16 → D (n + e) = 0 := by
        intro e
        induction e with
        | zero => intro _; simpa using h
        | succ e ih =>
          intro he
          have := hm (n + e) (by omega) (by omega) (ih (by omega))
          rw [show n + ((e + 1 : Nat) : Int) = n + e + 1 by omega]
          exact this
      have := up (j - n).toNat (by omega)
      rw [show n + ((j - n).toNat : Int) = j by omega] at this
      exact this
    · rw [if_neg h]
      have hne : n ≠ m := fun e => h (e ▸ h5)
      obtain ⟨a, b, c⟩ := least_ok D hm d (n + 1) m (by omega) (by omega) (by omega) h4 h5
      refine ⟨by omega, b, fun j hj1 hj2 => ?_⟩
      by_cases e : j = n
      · subst e
        exact ⟨fun hh => absurd hh h, fun hh => by omega⟩
      · exact c j (by omega) hj2
/-- The set of the images that are served, and these images. -/
def ks (w : Int) : List S41 → List Int → Nat
  | [], _ => 0
  | x :: r, f => if bg f x > x.f0 + w then 2 * ks w r f else 2 * ks w r (f.set (who f) (bg f x + x.f1)) + 1
def kl (w : Int) : List S41 → List Int → List S41
  | [], _ => []
  | x :: r, f => if bg f x > x.f0 + w then kl w r f else x :: kl w r (f.set (who f) (bg f x + x.f1))
theorem pick_half (s : Nat) : ∀ (l : List S41) (i : Nat), pick s (i + 1) l = pick (s / 2) i l
  | [], i => rfl
  | x :: r, i => by
    simp only [pick]
    rw [pick_half s r (i + 1), Nat.testBit_succ]
theorem ks_lt (w : Int) : ∀ (l : List S41) (f : List Int), ks w l f < 2 ^ l.length
  | [], f => by simp [ks]
  | x :: r, f => by
    simp only [ks, List.length_cons, Nat.pow_succ]
    split
    · have := ks_lt w r f; omega
    · have := ks_lt w r (f.set (who f) (bg f x + x.f1)); omega
theorem pick_ks (w : Int) : ∀ (l : List S41) (f : List Int), pick (ks w l f) 0 l = kl w l f
  | [], f => rfl
  | x :: r, f => by
    simp only [pick, ks, kl, pick_half]
    by_cases h : bg f x > x.f0 + w
    · rw [if_pos h, if_pos h]
      have e : (2 * ks w r f).testBit 0 = false := by simp
      rw [e, if_neg (by simp), show 2 * ks w r f / 2 = ks w r f by omega, pick_ks w r f]
    · rw [if_neg h, if_neg h]
      have e : (2 * ks w r (f.set (who f) (bg f x + x.f1)) + 1).testBit 0 = true := by simp
      rw [e, if_pos rfl, show (2 * ks w r (f.set (who f) (bg f x + x.f1)) + 1) / 2 = ks w r (f.set (who f) (bg f x + x.f1)) by omega, pick_ks w r _]
theorem kl_sub (w : Int) : ∀ (l : List S41) (f : List Int), (kl w l f).Sublist l
  | [], f => List.Sublist.refl _
  | x :: r, f => by
    simp only [kl]
    split
    · exact (kl_sub w r f).cons _
    · exact (kl_sub w r _).cons_cons _
theorem kl_negs (w : Int) : ∀ (l : List S41) (f : List Int), (∀ x ∈ l, inr x) → negs (sv w (kl w l f) f) = 0 ∧ (kl w l f).length + negs (sv w l f) = l.length
  | [], f, _ => ⟨rfl, rfl⟩
  | x :: r, f, hx => by
    obtain ⟨x0, x1, x2, x3⟩ := hx x (by simp)
    have hb := bg_at f x
    simp only [kl]
    by_cases h : bg f x > x.f0 + w
    · obtain ⟨a, b⟩ := kl_negs w r f (fun y hy => hx y (by simp [hy]))
      rw [if_pos h]
      refine ⟨a, ?_⟩
      simp only [sv]
      rw [if_pos h, negs_cons, if_pos (by omega), List.length_cons]
      omega
    · obtain ⟨a, b⟩ := kl_negs w r (f.set (who f) (bg f x + x.f1)) (fun y hy => hx y (by simp [hy]))
      rw [if_neg h]
      simp only [sv]
      rw [if_neg h, if_neg h, negs_cons, negs_cons, if_neg (by omega), List.length_cons, List.length_cons]
      exact ⟨by omega, by omega⟩
theorem best_ge (l : List S41) (w n : Int) : ∀ (d s : Nat) (b : Int), b ≤ best l w n d s b ∧ ∀ s', s ≤ s' → s' < s + d → dropped (pick s' 0 l) w n = 0 → ((pick s' 0 l).length : Int) ≤ best l w n d s b
  | 0, s, b => ⟨Int.le_refl _, fun s' h1 h2 => by omega⟩
  | d + 1, s, b => by
    simp only [best]
    obtain ⟨a, c⟩ := best_ge l w n d (s + 1) (if ((pick s 0 l).length : Int) > b ∧ dropped (pick s 0 l) w n = 0 then ((pick s 0 l).length : Int) else b)
    refine ⟨?_, fun s' h1 h2 h3 => ?_⟩
    · refine Int.le_trans ?_ a
      split <;> omega
    · by_cases e : s' = s
      · subst e
        refine Int.le_trans ?_ a
        by_cases hc : ((pick s' 0 l).length : Int) > b
        · rw [if_pos ⟨hc, h3⟩]
          exact Int.le_refl _
        · rw [if_neg (fun h => hc h.1)]
          omega
      · exact c s' (by omega) (by omega) h3
theorem most_ge (l : List S41) (w n : Int) (hr : rt l w n = true) (hl : l.length ≤ 10) : (l.length : Int) - dropped l w n ≤ mostServed l w n := by
  obtain ⟨r1, r2, r3, r4, r5⟩ := rt_in hr
  have hi := imgs_in r1
  unfold mostServed
  rw [if_pos ⟨hr, hl⟩]
  have hk := pick_ks w l (List.replicate n.toNat 0)
  obtain ⟨a, b⟩ := kl_negs w l (List.replicate n.toNat 0) hi.1
  have hsub := kl_sub w l (List.replicate n.toNat 0)
  have hok : imgsOk (kl w l (List.replicate n.toNat 0)) = true := imgs_of (fun x hx => hi.1 x (hsub.subset hx)) ((imgs_ord r1).sublist hsub) (Nat.le_trans hsub.length_le hi.2)
  have hr2 : rt (kl w l (List.replicate n.toNat 0)) w n = true := by
    simp only [rt, Bool.and_eq_true, decide_eq_true_eq]
    exact ⟨⟨⟨⟨hok, r2⟩, r3⟩, r4⟩, r5⟩
  have hd : dropped (pick (ks w l (List.replicate n.toNat 0)) 0 l) w n = 0 := by
    rw [hk]
    unfold dropped serve
    rw [if_pos hr2, if_pos hr2, a]
    rfl
  have := (best_ge l w n (2 ^ l.length) 0 0).2 (ks w l (List.replicate n.toNat 0)) (by omega) (by have := ks_lt w l (List.replicate n.toNat 0); omega) hd
  rw [hk] at this
  have hdr : dropped l w n = (negs (sv w l (List.replicate n.toNat 0)) : Int) := by
    unfold dropped serve
    rw [if_pos hr, if_pos hr]
  omega
end Go.Proofs.Ytdmbfmfdijgdkaa.Pu
