import Derived.Test.YtnfdefeafhepkaaQI46
import Derived.Test.YtnfdefeafhepkaaQI48
set_option linter.unusedVariables false
set_option linter.unusedSimpArgs false
namespace Go.Proofs.Ytnfdefeafhepkaa
open Go.RowKit Mem Wk
attribute [local irreducible] bfsN bfs fdT f1S f1G f1E
theorem sumTo_set {E : List Int} {i : Nat} {v e : Int} (he : E[i]? = some e) : ∀ n, n ≤ E.length → sumTo (E.set i v) n = sumTo E n + if i < n then v - e else 0
  | 0, _ => by simp [sumTo]
  | n + 1, hn => by
    have ih := sumTo_set (v := v) he n (by omega)
    rw [sumTo, sumTo, ih]
    by_cases h : i = n
    · subst h
      have e1 : (E.set i v).getD i 0 = v := by simp [List.getD, List.getElem?_set_self (show i < E.length by omega)]
      have e2 : E.getD i 0 = e := by simp [List.getD, he]
      rw [e1, e2, if_neg (by omega), if_pos (by omega)]; omega
    · have e1 : (E.set i v).getD n 0 = E.getD n 0 := by simp [List.getD, List.getElem?_set_ne h]
      rw [e1]
      by_cases h2 : i < n
      · rw [if_pos h2, if_pos (by omega)]; omega
      · rw [if_neg h2, if_neg (by omega)]; omega
theorem sumTo_snoc (E : List Int) (v : Int) : ∀ n, n ≤ E.length → sumTo (E ++ [v]) n = sumTo E n
  | 0, _ => rfl
  | n + 1, hn => by
    rw [sumTo, sumTo, sumTo_snoc E v n (by omega)]
    congr 1
    simp [List.getD, List.getElem?_append_left (show n < E.length by omega)]
theorem sumTo_rep (n m : Nat) : sumTo (List.replicate m 0) n = 0 := by
  induction n with
  | zero => rfl
  | succ n ih =>
    rw [sumTo, ih]
    by_cases h : n < m
    · simp [List.getD, List.getElem?_replicate, h]
    · simp [List.getD, List.getElem?_replicate, h]
structure GzI (p : Nat → Int) (L : List Gt) (s : Fd) : Prop where
  valid : validP s.p = true
  same : same2 p s.p
  le : ∀ j, s.p j ≤ p j
  sum : grs s.p + sumTo s.E L.length = grs p
  goat : ∀ (i : Nat) (g g0 : Gt) (e : Int), s.L[i]? = some g → L[i]? = some g0 → s.E[i]? = some e → goatOk s.p g = true ∧ ⟨g.x, g.y⟩ ∈ gtlL p g0 ∧ (g.u = g0.u ∧ g.v = g0.v ∧ g.rope = g0.rope ∧ g.eats = g0.eats ∧ g.likes = g0.likes) ∧ 0 ≤ e ∧ e ≤ g.eats
theorem GzI.step {p : Nat → Int} {L : List Gt} {s : Fd} {t i : Nat} (hv : validP p = true) (hg0 : ∀ g ∈ L, goatOk p g = true) (hf : FdOk L.length t s) (hpv : FdPv s) (h : GzI p L s) (hi : i < L.length) : GzI p L (fdStep i s) := by
  obtain ⟨c, hc⟩ := hpv
  obtain ⟨hW, hH, hW10, hH10⟩ := validP_dims hv
  have hgi : s.L[i]? = some (s.L[i]'(by rw [hf.lL]; exact hi)) := List.getElem?_eq_getElem _
  have hei : s.E[i]? = some (s.E[i]'(by rw [hf.lE]; exact hi)) := List.getElem?_eq_getElem _
  have hLi : L[i]? = some L[i] := List.getElem?_eq_getElem hi
  have hLm := hg0 _ (List.getElem_mem hi)
  generalize s.L[i]'(by rw [hf.lL]; exact hi) = g at *
  generalize s.E[i]'(by rw [hf.lE]; exact hi) = e at *
  generalize L[i] = g0 at *
  obtain ⟨e1, _⟩ := hf.step hc hgi hei
  obtain ⟨q1, q2, q3, q4, q5⟩ := h.goat i g g0 e hgi hLi hei
  have hgok := (hf.on i g hgi).1.ok
  have hb := bit1 (h := g.eats - e) h.valid q1 (by omega) hgok
  have ht := bitG_tail s.p g (g.eats - e)
  have hsm := h.same.trans hb.same
  have hl0 : p 0 ≤ 10 := by omega
  have hl1 : p 1 ≤ 10 := by omega
  have hg0c := (goatOk_parts.1 hLm).1
  rw [e1]
  refine ⟨hb.valid, hsm, fun j => Int.le_trans (hb.le j) (h.le j), ?_, fun k d d0 u hd hd0 hu => ?_⟩
  · simp only
    rw [sumTo_set hei _ (by rw [hf.lE]; exact Nat.le_refl _), if_pos hi]
    have := hb.sum
    have := h.sum
    omega
  · simp only at hd hu ⊢
    by_cases ek : i = k
    · subst ek
      rw [List.getElem?_set_self (by rw [hf.lL]; exact hi)] at hd
      rw [List.getElem?_set_self (by rw [hf.lE]; exact hi)] at hu
      injection hd with hd; subst hd
      injection hu with hu; subst hu
      rw [hLi] at hd0
      injection hd0 with hd0; subst hd0
      refine ⟨hb.gok, ?_, ⟨by rw [ht.1]; exact q3.1, by rw [ht.2.1]; exact q3.2.1, by rw [ht.2.2.1]; exact q3.2.2.1, by rw [ht.2.2.2.1]; exact q3.2.2.2.1, by rw [ht.2.2.2.2]; exact q3.2.2.2.2⟩, by have := hb.m0; omega, by rw [ht.2.2.2.1]; have := hb.mh; omega⟩
      have hcell := hb.cell
      rw [h.same.gtl] at hcell
      exact gtl_move hl0 hl1 hg0c q2 q3.1 q3.2.1 q3.2.2.1 hcell
    · rw [List.getElem?_set_ne ek] at hd hu
      obtain ⟨r1, r2, r3, r4⟩ := h.goat k d d0 u hd hd0 hu
      exact ⟨by rw [goatOk_low hb.same]; exact r1, r2, r3, r4⟩
theorem GzI.init {p : Nat → Int} {L : List Gt} (hv : validP p = true) (hg : ∀ g ∈ L, goatOk p g = true) : GzI p L ⟨p, L, List.replicate L.length 0⟩ := by
  obtain ⟨hW, hH, hW10, hH10⟩ := validP_dims hv
  refine ⟨hv, same2.refl p, fun j => Int.le_refl _, by simp only; rw [sumTo_rep]; omega, fun i g g0 e h1 h2 h3 => ?_⟩
  simp only at h1 h3
  rw [h1] at h2
  injection h2 with h2; subst h2
  have hgm := hg g (List.mem_of_getElem? h1)
  rw [List.getElem?_replicate] at h3
  split at h3
  · injection h3 with h3; subst h3
    exact ⟨hgm, own_cell (by omega) (by omega) hgm, ⟨rfl, rfl, rfl, rfl, rfl⟩, by omega, (rope_ge (goatOk_parts.1 hgm).2.2.1).2.1⟩
  · cases h3
theorem fdT_succ (n : Nat) (s : Fd) (t : Nat) : fdT n s (t + 1) = fdStep (t % n) (fdT n s t) := by rw [fdT]
theorem fdT_zero (n : Nat) (s : Fd) : fdT n s 0 = s := by rw [fdT]
theorem GzI.run {p : Nat → Int} {cs : Array Value} {L : List Gt} (hp : Pv p cs) (hv : validP p = true) (hg : ∀ g ∈ L, goatOk p g = true) (hok : FdOk L.length 0 ⟨p, L, List.replicate L.length 0⟩) (hn : 0 < L.length) : ∀ t, GzI p L (fdT L.length ⟨p, L, List.replicate L.length 0⟩ t)
  | 0 => by rw [fdT_zero]; exact GzI.init hv hg
  | t + 1 => by
    have h1 := fdT_ok hn hok ⟨cs, hp⟩ t
    rw [fdT_succ]
    exact (GzI.run hp hv hg hok hn t).step hv hg h1.1 h1.2 (Nat.mod_lt _ hn)
structure GzV (p : Nat → Int) (L : List Gt) : Prop where
  valid : validP p = true
  len : L.length ≤ 20
  pos : 0 < L.length
  ok : ∀ g ∈ L, goatOk p g = true ∧ g.ok
theorem GzV.validGt {p : Nat → Int} {L : List Gt} (h : GzV p L) : validGt p L = true := by
  unfold Go.Proofs.Ytnfdefeafhepkaa.validGt
  simp only [Bool.and_eq_true, decide_eq_true_eq, List.all_eq_true]
  exact ⟨h.valid, h.len, fun g hg => (h.ok g hg).1⟩
theorem GzV.fd {p : Nat → Int} {L : List Gt} (h : GzV p L) : FdOk L.length 0 ⟨p, L, List.replicate L.length 0⟩ := (validGt_fd (fun g hg => (h.ok g hg).2) h.validGt).2
theorem GzV.fed {p : Nat → Int} {cs : Array Value} {L : List Gt} (hp : Pv p cs) (h : GzV p L) : GzI p L (fedS p L) ∧ FdOk L.length (12 * L.length) (fedS p L) ∧ FdPv (fedS p L) := by
  rw [fedS_eq]
  have := fdT_ok h.pos h.fd ⟨cs, hp⟩ (12 * L.length)
  exact ⟨GzI.run hp h.valid (fun g hg => (h.ok g hg).1) h.fd h.pos _, this.1, this.2⟩
theorem GzI.vals {p : Nat → Int} {L : List Gt} {s : Fd} {t : Nat} (h : GzI p L s) (hf : FdOk L.length t s) (hv : GzV p L) : GzV s.p s.L := by
  refine ⟨h.valid, by rw [hf.lL]; exact hv.len, by rw [hf.lL]; exact hv.pos, fun g hg => ?_⟩
  obtain ⟨i, hi⟩ := List.getElem?_of_mem hg
  have hlt := (List.getElem?_eq_some_iff.1 hi).1
  have hlL : i < L.length := by rw [← hf.lL]; exact hlt
  have hlE : i < s.E.length := by rw [hf.lE]; exact hlL
  exact ⟨(h.goat i g L[i] s.E[i] hi (List.getElem?_eq_getElem hlL) (List.getElem?_eq_getElem hlE)).1, (hf.on i g hi).1.ok⟩
theorem GzV.next {p : Nat → Int} {cs : Array Value} {L : List Gt} (hp : Pv p cs) (h : GzV p L) : GzV (fedS p L).p (fedS p L).L := by
  obtain ⟨h1, h2, h3⟩ := h.fed hp
  exact h1.vals h2 h
theorem f1S_eq (p : Nat → Int) (g : Gt) (k : Nat) : f1S p g k = fdT 1 ⟨p, [g], List.replicate 1 0⟩ k := by unfold f1S; rfl
structure OneI (p : Nat → Int) (g : Gt) : Prop where
  valid : validP (f1S p g 12).p = true
  same : same2 p (f1S p g 12).p
  le : ∀ j, (f1S p g 12).p j ≤ p j
  sum : grs (f1S p g 12).p + f1E p g 12 = grs p
  gok : goatOk (f1S p g 12).p (f1G p g 12) = true
  cell : ⟨(f1G p g 12).x, (f1G p g 12).y⟩ ∈ gtlL p g
  rest : (f1G p g 12).u = g.u ∧ (f1G p g 12).v = g.v ∧ (f1G p g 12).rope = g.rope ∧ (f1G p g 12).eats = g.eats ∧ (f1G p g 12).likes = g.likes
  e0 : 0 ≤ f1E p g 12
  e1 : f1E p g 12 ≤ g.eats
  ok : (f1G p g 12).ok
theorem one_on {p : Nat → Int} {g : Gt} (hv : validP p = true) (hg : goatOk p g = true) (hs : g.ok) : GtOn p g ∧ 0 ≤ g.eats ∧ g.eats ≤ 100 := goatOk_on hs hv hg
theorem one_I {p : Nat → Int} {cs : Array Value} {g : Gt} (hp : Pv p cs) (hv : validP p = true) (hg : goatOk p g = true) (hs : g.ok) : OneI p g := by
  obtain ⟨hon, h0, h1⟩ := one_on hv hg hs
  obtain ⟨hf, hpv, hL, hE⟩ := f1_eq hp hon h0 h1 12
  have hI := GzI.run (L := [g]) hp hv (fun d hd => by rw [List.mem_singleton] at hd; subst hd; exact hg) (f1_ok hp hon h0 h1) (by simp) 12
  have e : fdT [g].length ⟨p, [g], List.replicate [g].length 0⟩ 12 = f1S p g 12 := (f1S_eq p g 12).symm
  rw [e] at hI
  have hgt := hI.goat 0 (f1G p g 12) g (f1E p g 12) (by rw [hL]; rfl) rfl (by rw [hE]; rfl)
  obtain ⟨q1, q2, q3, q4, q5⟩ := hgt
  refine ⟨hI.valid, hI.same, hI.le, ?_, q1, q2, q3, q4, by omega, (hf.on 0 _ (by rw [hL]; rfl)).1.ok⟩
  have := hI.sum
  have e2 : sumTo (f1S p g 12).E [g].length = f1E p g 12 := by
    rw [hE]; simp [sumTo, List.getD]
  rw [e2] at this
  exact this
structure TuI (p : Nat → Int) (L : List Gt) (k : Nat) (s : Fd) : Prop where
  valid : validP s.p = true
  same : same2 p s.p
  le : ∀ j, s.p j ≤ p j
  sum : grs s.p + sumTo s.E k = grs p
  goat : ∀ (i : Nat) (g g0 : Gt), s.L[i]? = some g → L[i]? = some g0 → goatOk p g = true ∧ g.ok ∧ ⟨g.x, g.y⟩ ∈ gtlL p g0
  eat : ∀ (i : Nat) (g0 : Gt) (e : Int), L[i]? = some g0 → s.E[i]? = some e → 0 ≤ e ∧ e ≤ g0.eats
theorem turI {p : Nat → Int} {cs : Array Value} {L : List Gt} (hp : Pv p cs) (h : GzV p L) : ∀ k, k ≤ L.length → TuI p L k (turN p L k)
  | 0, _ => by
    obtain ⟨hW, hH, hW10, hH10⟩ := validP_dims h.valid
    refine ⟨h.valid, same2.refl p, fun j => Int.le_refl _, by simp [turN, sumTo], fun i g g0 h1 h2 => ?_, fun i g0 e h1 h2 => by simp [turN] at h2⟩
    have h1' : L[i]? = some g := h1
    rw [h1'] at h2
    injection h2 with h2; subst h2
    have := h.ok g (List.mem_of_getElem? h1')
    exact ⟨this.1, this.2, own_cell (by omega) (by omega) this.1⟩
  | k + 1, hk => by
    have ih := turI hp h k (by omega)
    have hon := validGt_on (fun g hg => (h.ok g hg).2) h.validGt
    obtain ⟨c, hc⟩ := (turN_ok hp hon k (by omega)).pv
    have hT := turN_ok hp hon k (by omega)
    obtain ⟨g, hg, hgs, hgo, h0, h1, hst, hpx⟩ := tur_step hp hon (by omega) hc
    have hgm := h.ok g (List.mem_of_getElem? hg)
    have hgv : goatOk (turN p L k).p g = true := by rw [goatOk_low ih.same]; exact hgm.1
    have h1I := one_I hc ih.valid hgv hgm.2
    have hsm := ih.same.trans h1I.same
    rw [hst]
    refine ⟨h1I.valid, hsm, fun j => Int.le_trans (h1I.le j) (ih.le j), ?_, fun i d d0 hd hd0 => ?_, fun i d0 e hd0 he => ?_⟩
    · simp only
      rw [sumTo, sumTo_snoc _ _ _ (by rw [hT.lE]; exact Nat.le_refl _)]
      have e2 : ((turN p L k).E ++ [f1E (turN p L k).p g 12]).getD k 0 = f1E (turN p L k).p g 12 := by
        have : k = (turN p L k).E.length := hT.lE.symm
        simp [List.getD, List.getElem?_append_right (Nat.le_of_eq this.symm), hT.lE]
      rw [e2]
      have := h1I.sum
      have := ih.sum
      omega
    · simp only at hd
      by_cases ek : k = i
      · subst ek
        rw [List.getElem?_set_self (List.getElem?_eq_some_iff.1 hgs).1] at hd
        injection hd with hd; subst hd
        rw [hg] at hd0
        injection hd0 with hd0; subst hd0
        refine ⟨?_, h1I.ok, ?_⟩
        · rw [← goatOk_low hsm]; exact h1I.gok
        · have := h1I.cell
          rw [ih.same.gtl] at this
          exact this
      · rw [List.getElem?_set_ne ek] at hd
        exact ih.goat i d d0 hd hd0
    · simp only at he
      by_cases hik : i < k
      · rw [List.getElem?_append_left (by rw [hT.lE]; exact hik)] at he
        exact ih.eat i d0 e hd0 he
      · have hik2 : i = k := by
          have := (List.getElem?_eq_some_iff.1 he).1
          simp [hT.lE] at this
          omega
        subst hik2
        rw [hg] at hd0
        injection hd0 with hd0; subst hd0
        rw [List.getElem?_append_right (by rw [hT.lE]; exact Nat.le_refl _), hT.lE, Nat.sub_self] at he
        simp at he; subst he
        exact ⟨h1I.e0, h1I.e1⟩
theorem turI_vals {p : Nat → Int} {cs : Array Value} {L : List Gt} (hp : Pv p cs) (h : GzV p L) : GzV (turS p L).p (turS p L).L := by
  have hon := validGt_on (fun g hg => (h.ok g hg).2) h.validGt
  have hT := turN_ok hp hon L.length (Nat.le_refl _)
  have hI := turI hp h L.length (Nat.le_refl _)
  change GzV (turN p L L.length).p (turN p L L.length).L
  refine ⟨hI.valid, by rw [hT.lL]; exact h.len, by rw [hT.lL]; exact h.pos, fun g hg => ?_⟩
  obtain ⟨i, hi⟩ := List.getElem?_of_mem hg
  have hlL : i < L.length := by rw [← hT.lL]; exact (List.getElem?_eq_some_iff.1 hi).1
  have := hI.goat i g L[i] hi (List.getElem?_eq_getElem hlL)
  exact ⟨by rw [goatOk_low hI.same]; exact this.1, this.2.1⟩
theorem tur_first {p : Nat → Int} {cs : Array Value} {L : List Gt} {g : Gt} (hp : Pv p cs) (h : GzV p L) (hg : L[0]? = some g) : ∀ k, k < L.length → (turN p L (k + 1)).E[0]? = some (f1E p g 12)
  | 0, hk => by
    have e : L.getD 0 gtO = g := by simp [List.getD, hg]
    show ((turN p L 0).E ++ [f1E (turN p L 0).p (L.getD 0 gtO) 12])[0]? = _
    rw [e]; rfl
  | k + 1, hk => by
    have ih := tur_first hp h hg k (by omega)
    show ((turN p L (k + 1)).E ++ [f1E (turN p L (k + 1)).p (L.getD (k + 1) gtO) 12])[0]? = _
    rw [List.getElem?_append_left (List.getElem?_eq_some_iff.1 ih).1]
    exact ih
end Go.Proofs.Ytnfdefeafhepkaa
