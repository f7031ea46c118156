import Derived.Test.YtnafnhpajkhgkaaQY05
import Derived.Test.YtnafnhpajkhgkaaQY09
import Derived.Test.YtnafnhpajkhgkaaQY10
import Derived.Test.YtnafnhpajkhgkaaQY13
import Derived.Test.YtnafnhpajkhgkaaQY17
import Derived.Test.YtnafnhpajkhgkaaQY19
import Derived.Test.YtnafnhpajkhgkaaQY22
/- The least of the connected cells of a size; whether there are some. Plain, no condition. -/
namespace Go.Proofs.Ytnafnhpajkhgkaa
set_option linter.unusedVariables false
set_option linter.unusedSimpArgs false
attribute [local irreducible] stepsP bfsN bfs
/-! ## the least -/
def leX (f : List Sp → Int) (X Y : List Sp) : Prop := f X < f Y ∨ (f X = f Y ∧ leL X Y)
def bstG (f : List Sp → Int) (q : List Sp × Int) (X : List Sp) : List Sp × Int := if q.1 = [] ∨ f X < q.2 ∨ (f X = q.2 ∧ ahB X q.1 = true) then (X, f X) else q
def bstI (f : List Sp → Int) (q : List Sp × Int) (X : List Sp) : List Sp × Int := if q.2 < 0 ∨ f X < q.2 ∨ (f X = q.2 ∧ ahB X q.1 = true) then (X, f X) else q
theorem bst_prop {f : List Sp → Int} {k : Nat} {st : List Sp × Int → List Sp → List Sp × Int} {q0 : List Sp × Int} (h0 : ∀ X, st q0 X = (X, f X)) (h1 : ∀ b X, b.length = k → X.length = k → st (b, f b) X = if f X < f b ∨ (f X = f b ∧ ahB X b = true) then (X, f X) else (b, f b)) :
    ∀ (n : Nat) (C : List (List Sp)), C.length = n → (∀ X ∈ C, X.length = k) → C ≠ [] → ∃ b, C.foldl st q0 = (b, f b) ∧ b ∈ C ∧ ∀ Y ∈ C, leX f b Y
  | 0, C, hn, _, hne => absurd (List.length_eq_zero_iff.1 hn) hne
  | n + 1, C, hn, hk, hne => by
    obtain ⟨C', X, rfl⟩ : ∃ C' X, C = C' ++ [X] := ⟨C.dropLast, C.getLast hne, (List.dropLast_concat_getLast hne).symm⟩
    rw [List.foldl_append]
    have hX := hk X (by simp)
    by_cases hC : C' = []
    · subst hC
      exact ⟨X, h0 X, by simp, fun Y hY => by simp at hY; subst hY; exact .inr ⟨rfl, leL_refl _⟩⟩
    · obtain ⟨b, e, hb, hall⟩ := bst_prop h0 h1 n C' (by simpa using hn) (fun Y hY => hk Y (by simp [hY])) hC
      have hbk := hk b (by simp [hb])
      rw [e]
      show ∃ b_1, st (b, f b) X = _ ∧ _
      rw [h1 b X hbk hX]
      by_cases hc : f X < f b ∨ (f X = f b ∧ ahB X b = true)
      · rw [if_pos hc]
        refine ⟨X, rfl, by simp, fun Y hY => ?_⟩
        rcases List.mem_append.1 hY with hY | hY
        · have hYk := hk Y (by simp [hY])
          rcases hall Y hY with h | ⟨h, h'⟩
          · rcases hc with hc | ⟨hc, _⟩
            · exact .inl (by omega)
            · exact .inl (by omega)
          · rcases hc with hc | ⟨hc, hc'⟩
            · exact .inl (by omega)
            · exact .inr ⟨by omega, leL_trans (by omega) (by omega) (ahB_yes hc') h'⟩
        · rw [List.mem_singleton.1 hY]; exact .inr ⟨rfl, leL_refl _⟩
      · rw [if_neg hc]
        refine ⟨b, rfl, by simp [hb], fun Y hY => ?_⟩
        rcases List.mem_append.1 hY with hY | hY
        · exact hall Y hY
        · rw [List.mem_singleton.1 hY]
          by_cases he : f X = f b
          · refine .inr ⟨he.symm, ahB_no (by omega) ?_⟩
            cases hh : ahB X b
            · rfl
            · exact absurd (.inr ⟨he, hh⟩) hc
          · exact .inl (by omega)
theorem leX_anti {f : List Sp → Int} {X Y : List Sp} (h : X.length = Y.length) (h1 : leX f X Y) (h2 : leX f Y X) : X = Y := by
  rcases h1 with h1 | ⟨h1, h1'⟩
  · rcases h2 with h2 | ⟨h2, _⟩ <;> omega
  · rcases h2 with h2 | ⟨h2, h2'⟩
    · omega
    · exact leL_anti h h1' h2'
/-- both find the same, whatever the order and however often -/
theorem bst_same {f : List Sp → Int} {k : Nat} (hf : ∀ X, 0 ≤ f X) (hk0 : 0 < k) {C D : List (List Sp)} (hC : ∀ X ∈ C, X.length = k) (h : ∀ X, X ∈ C ↔ X ∈ D) (hne : C ≠ []) : ∃ b, C.foldl (bstG f) ([], 0) = (b, f b) ∧ D.foldl (bstI f) ([], -1) = (b, f b) ∧ b ∈ C := by
  have hD : ∀ X ∈ D, X.length = k := fun X hX => hC X ((h X).2 hX)
  have hneD : D ≠ [] := by
    obtain ⟨X, hX⟩ := List.exists_mem_of_ne_nil _ hne
    intro e; rw [e] at h; have := (h X).1 hX; simp at this
  obtain ⟨b, e1, h1, h2⟩ := bst_prop (f := f) (k := k) (st := bstG f) (q0 := ([], 0)) (fun X => by unfold bstG; simp) (fun b X hb hX => by
    unfold bstG
    have : b ≠ [] := fun e => by subst e; simp at hb; omega
    simp only [this, false_or]) _ C rfl hC hne
  obtain ⟨c, e2, h3, h4⟩ := bst_prop (f := f) (k := k) (st := bstI f) (q0 := ([], -1)) (fun X => by unfold bstI; simp) (fun b X hb hX => by
    unfold bstI
    have : ¬ f b < 0 := by have := hf b; omega
    simp only [this, false_or]) _ D rfl hD hneD
  have e : b = c := leX_anti (by rw [hC b h1, hD c h3]) (h2 c ((h c).2 h3)) (h4 b ((h b).1 h1))
  subst e
  exact ⟨b, e1, e2, h1⟩

/-! ## whether there are some -/
section
variable {p : Nat → Int} {s : Sp}
theorem pasL_nd (p : Nat → Int) (f : Sp → Bool) : (pasL p f).Nodup := by
  have h : pasL p f = (allL (p 0).toNat (p 1).toNat).filter f := by
    unfold pasL allL
    rw [← cellL_all, cellL_filter]
    congr 1
  rw [h]
  exact ((allL_lt (p 0).toNat (p 1).toNat).filter f).imp fun {a b} h e => by subst e; exact ltS_ir _ h
theorem yard_iff (hv : validP p = true) (hs : cel p s) (c : Sp) : c ∈ yardL p s ↔ cel p c ∧ (stepsP p [s]).1 (ci c) ≠ 0 := by
  have hd : (p 0).toNat ≤ 10 ∧ (p 1).toNat ≤ 10 ∧ p 0 = ((p 0).toNat : Int) ∧ p 1 = ((p 1).toNat : Int) := by
    have hs : (1 ≤ p 0 ∧ p 0 ≤ 10) ∧ 1 ≤ p 1 ∧ p 1 ≤ 10 := by unfold validP inB at hv; simp at hv; omega
    omega
  have hR : ∀ c ∈ [s], inR c := fun c hc => by rw [List.mem_singleton.1 hc]; exact isC_range hs
  have hval := (stepsP_val p hR (ci c)).1
  have hval' : 0 ≤ (stepsP p [s]).1 (ci c) := hval
  unfold yardL
  constructor
  · intro h
    obtain ⟨h1, h2⟩ := pasL_isC (by omega) (by omega) h
    unfold yardF strD at h2
    rw [decide_eq_true_iff] at h2
    exact ⟨h1, by omega⟩
  · rintro ⟨h1, h2⟩
    have hc := h1
    unfold cel isC inB at hc
    simp at hc
    unfold pasL
    refine cellL_in ?_ ?_ ?_
    · unfold yardF strD; rw [decide_eq_true_iff]; omega
    · omega
    · omega
theorem gro_yard (hv : validP p = true) (hs : cel p s) {l : List Sp} (h : Gro p s l) : ∀ c ∈ l, c ∈ yardL p s := by
  have hR : ∀ c ∈ [s], inR c := fun c hc => by rw [List.mem_singleton.1 hc]; exact isC_range hs
  induction h with
  | one => intro c hc; rw [List.mem_singleton.1 hc]; exact (yard_iff hv hs s).2 ⟨hs, by rw [(steps_one hR (isC_range hs)).2 (by simp)]; decide⟩
  | add hg ha hc hn ih =>
    rename_i l a c
    intro d hd
    rcases List.mem_append.1 hd with hd | hd
    · exact ih d hd
    · rw [List.mem_singleton.1 hd]
      have h1 := (yard_iff hv hs a).1 (ih a ha)
      have h2 := (steps_mem (p := p) hR (isC_range h1.1)).2 h1.2
      have h3 := steps_closed (p := p) hR h2 hc
      have hcc := nbP_cel hc
      exact (yard_iff hv hs c).2 ⟨hcc, (steps_mem (p := p) hR (isC_range hcc)).1 h3⟩
theorem gro_out (hv : validP p = true) (hs : cel p s) {l : List Sp} (h : Gro p s l) : ∀ (n : Nat) (c : Sp), inR c → (stepsP p [s]).1 (ci c) ≤ (n : Int) → (stepsP p [s]).1 (ci c) ≠ 0 → c ∉ l → ∃ a d, a ∈ l ∧ d ∈ nbP p a ∧ d ∉ l
  | 0, c, hc, hn, h0, _ => by
    have hR : ∀ c ∈ [s], inR c := fun c hc => by rw [List.mem_singleton.1 hc]; exact isC_range hs
    have hval : 0 ≤ (stepsP p [s]).1 (ci c) := (stepsP_val p hR (ci c)).1
    omega
  | n + 1, c, hc, hn, h0, hcl => by
    have hR : ∀ c ∈ [s], inR c := fun c hc => by rw [List.mem_singleton.1 hc]; exact isC_range hs
    have hval : 0 ≤ (stepsP p [s]).1 (ci c) := (stepsP_val p hR (ci c)).1
    by_cases h1 : (stepsP p [s]).1 (ci c) = 1
    · have := (steps_one (p := p) hR hc).1 h1
      rw [List.mem_singleton] at this
      subst this; exact absurd h.mem_s hcl
    · obtain ⟨a, ha, hca, hD⟩ := steps_pre (p := p) hR hc (by omega)
      by_cases hal : a ∈ l
      · exact ⟨a, c, hal, hca, hcl⟩
      · have haR : inR a := by
          obtain ⟨m, hM⟩ := (steps_bm (p := p) hR).1
          rcases hM.pre a ha with h1 | ⟨t, _, h1, _⟩
          · exact hR a h1.1
          · exact nbP_ok p _ a h1
        have ha0 := (steps_mem (p := p) hR haR).1 ha
        exact gro_out hv hs h n a haR (by omega) ha0 hal
theorem gro_ex (hv : validP p = true) (hs : cel p s) : ∀ k, k + 1 ≤ (yardL p s).length → ∃ l, Gro p s l ∧ l.length = k + 1
  | 0, _ => ⟨[s], Gro.one, rfl⟩
  | k + 1, hk => by
    obtain ⟨l, hg, hl⟩ := gro_ex hv hs k (by omega)
    have hex : ∃ y ∈ yardL p s, y ∉ l := Classical.byContradiction fun q => by
      have hall : ∀ x ∈ yardL p s, x ∈ l := fun x hx => Classical.byContradiction fun q2 => q ⟨x, hx, q2⟩
      have hnd : (yardL p s).Nodup := pasL_nd p _
      have := sub_len hnd hall; omega
    obtain ⟨y, hy, hyl⟩ := hex
    obtain ⟨hyc, hy0⟩ := (yard_iff hv hs y).1 hy
    have hR : ∀ c ∈ [s], inR c := fun c hc => by rw [List.mem_singleton.1 hc]; exact isC_range hs
    obtain ⟨a, d, ha, hd, hdl⟩ := gro_out hv hs hg ((stepsP p [s]).1 (ci y)).toNat y (isC_range hyc) (by omega) hy0 hyl
    exact ⟨l ++ [d], Gro.add hg ha hd hdl, by simp [hl]⟩
theorem sets_ex (hv : validP p = true) (hs : cel p s) (k : Nat) : setsT p s k ≠ [] ↔ k + 1 ≤ (yardL p s).length := by
  constructor
  · intro h
    obtain ⟨X, hX⟩ := List.exists_mem_of_ne_nil _ h
    obtain ⟨l, hg, hl, _⟩ := (setsT_mem hs k X).1 hX
    rw [← hl]
    exact sub_len hg.nodup (gro_yard hv hs hg)
  · intro h e
    obtain ⟨l, hg, hl⟩ := gro_ex hv hs k h
    have := (setsT_mem hs k (ordL l)).2 ⟨l, hg, hl, rfl⟩
    rw [e] at this; simp at this
theorem setsT_len (hs : cel p s) {k : Nat} {X : List Sp} (h : X ∈ setsT p s k) : X.length = k + 1 := by
  obtain ⟨l, hg, hl, e⟩ := (setsT_mem hs k X).1 h
  rw [e, ordL_size (fun d hd => isC_range (hg.cels hs d hd)) hg.nodup, hl]
/-- what the reference lists, put in order, is what the program lists -/
theorem vis_sets (hs : cel p s) {k : Nat} {met : Nat → Bool} (hm : ∀ j, met j = decide (j = ci s)) (X : List Sp) : X ∈ (visN p (k + 1) [] [s] met).map ordL ↔ X ∈ setsT p s k := by
  rw [setsT_mem hs, List.mem_map]
  constructor
  · rintro ⟨l, hl, e⟩
    have := vis_snd (p := p) (s := s) (k + 1) [] [s] met (.inl ⟨rfl, rfl, by omega⟩) (by simp) (fun c hc => by simp at hc; subst hc; rw [hm]; simp) l hl
    exact ⟨l, this.1, by simpa using this.2, e.symm⟩
  · rintro ⟨l, hg, hl, e⟩
    obtain ⟨X', hX, hiff⟩ := vis_cpl hs hg (k + 1) [] [s] met (.inl ⟨rfl, rfl⟩) (by simp) (by simp) (by simp) (fun c hc h => by
      rw [hm, decide_eq_true_iff] at h
      have := ci_inj (isC_range (hg.cels hs c hc)) (isC_range hs) h
      exact .inr (by simp [this])) (by simpa using hl)
    exact ⟨X', hX, by rw [e]; exact ordL_congr hiff⟩
end
end Go.Proofs.Ytnafnhpajkhgkaa
/- Lists of cells, the reference's: their code, their mask. No condition but a length of at most 2^20. -/
namespace Go.Proofs.Ytnafnhpajkhgkaa
set_option linter.unusedVariables false
set_option linter.unusedSimpArgs false
open Go.RowKit Mem Wk
attribute [local irreducible] Calls Wk.S Wk.C Wk.E Wk.X Wk.T Wk.Y Wk.andV Wk.shrV Calm.wpLex CalmB.wpLex bfsN
theorem valid_leA {p : Nat → Int} (h : validP p = true) : p 0 ≤ 10 ∧ p 1 ≤ 10 := by
  unfold validP inB at h; simp at h; omega
theorem cellC_0 {p : Nat → Int} {l : List Sp} (h : cellC p l = 0) : validP p = true ∧ ∀ c ∈ l, isC (p 0) (p 1) c.x c.y = true := by
  unfold cellC at h
  split at h
  · split at h
    · cases h
    · rename_i h1 h2
      refine ⟨h1, fun c hc => ?_⟩
      simp only [List.any_eq_true, not_exists, not_and] at h2
      have := h2 c hc
      simpa using this
  · cases h
/-! the mask of a list -/
def mskF (l : List Sp) (j : Nat) : Bool := l.any fun s => decide (ci s = j)
theorem mskF_snoc (l : List Sp) {k : Nat} {c : Sp} (hk : l[k]? = some c) (j : Nat) : mskF (l.take (k + 1)) j = (mskF (l.take k) j || decide (ci c = j)) := by
  unfold mskF; rw [List.take_add_one, hk, List.any_append]; simp
theorem GB.mark {l : List Sp} {k : Nat} {c : Sp} {cs : Array Value} (h : GB (mskF (l.take k)) cs) (hk : l[k]? = some c) (hc : inR c) : GB (mskF (l.take (k + 1))) (cs.setIfInBounds (0 + c.y.toNat * 10 + c.x.toNat * 1) (.bool true)) := by
  have hci : ci c = 0 + c.y.toNat * 10 + c.x.toNat * 1 := by unfold ci; omega
  have hs := h.size
  have hlt : ci c < 100 := by have := hc; unfold inR at this; rw [hci]; omega
  rw [← hci]
  refine ⟨by simpa using hs, fun j hj => ?_⟩
  rw [mskF_snoc l hk j]
  by_cases e : ci c = j
  · subst e
    rw [Array.getElem?_setIfInBounds_self_of_lt (by omega)]; simp
  · rw [Array.getElem?_setIfInBounds_ne e, h.get j hj, decide_eq_false e, Bool.or_false]
set_option maxRecDepth 100000 in
set_option maxHeartbeats 800000 in
theorem l01Mask_any (l : List Sp) (T : TypeId) (gl cap : Nat) (cur : Array Value) (w : World) (hA : Ap 2 l.length cap cur (flS l)) (hg : w.heap[gl]? = some (.cells cur T (0, 0))) (hl : ∀ c ∈ l, inR c) :
    Calls Try.prog 56 #[.slice (some ⟨gl, 0, none⟩) l.length cap] w fun e w' => e = .returned (.agg (gbA (mskF l))) ∧ Below w.heap.size w w' := by
  have hmx := hA.max
  have hle := hA.le
  unfold maxLen at hmx
  refine enter1 Try.func56 rfl rfl rfl (Own.start w) ?_
  repeat' (first
    | (refine s_g ?_; first
      | (refine s_k 0 rfl ?_; refine s_val rfl rfl rfl (r_move rfl rfl) ?_)
      | (refine s_k 23 rfl ?_; first | refine s_val rfl rfl rfl (r_field tb rfl rfl rfl) ?_ | refine s_val rfl rfl rfl (r_fieldS tb rfl rfl rfl) ?_)
      | (refine s_k 8 rfl ?_; first | (refine' s_val rfl rfl rfl (r_ldv rfl rfl ?qm ?qv) ?_; (case qm => (exact zMm)); (case qv => (exact zLe))) | (refine' s_val rfl rfl rfl (r_ldo rfl rfl ?qw (by simp) ?qv) ?_; (case qw => assumption); (case qv => (exact zLe))))
      | (refine s_k 1 rfl ?_; refine s_val rfl rfl rfl (r_assign rfl rfl) ?_)
      | (refine s_k 13 rfl ?_; first | refine s_val rfl rfl rfl (r_lss rfl rfl rfl) ?_ | refine s_val rfl rfl rfl (r_add rfl rfl rfl (wrap_in (by simp only [lo, hi]; omega))) ?_)
      | (refine s_k 25 rfl ?_; first | refine s_val rfl rfl rfl (r_ixN tb rfl rfl rfl rfl (by omega)) ?_ | refine s_val rfl rfl rfl (r_ixA tb rfl rfl rfl rfl (by omega) (by omega)) ?_ | refine s_val rfl rfl rfl (r_ixO tb rfl rfl rfl rfl (by omega)) ?_)
      | (refine s_k 9 rfl ?_; (first | refine s_st1 tb rfl rfl rfl rfl rfl rfl rfl rfl ?_ | refine s_stA tb rfl rfl rfl rfl (by first | rfl | assumption | (apply Pv.size; assumption)) rfl rfl ?_); (first | refine' st0 ?qs ?_ | refine' st1 ?qs ?_ | refine' st2 ?qs ?_ | refine' st3 ?qs ?_ | refine' st4 ?qs ?_ | refine' st5 ?qs ?_ | refine' st6 ?qs ?_ | refine' st7 ?qs ?_ | refine' st8 ?qs ?_ | refine' st9 ?qs ?_ | refine' st10 ?qs ?_ | refine' st11 ?qs ?_); (case qs => (first | exact setB zFl_ok zFl_ok.size | exact zSet)))
      | (refine s_k 3 rfl ?_; refine s_allocA (t := 90) rfl zF1010 rfl rfl rfl fun blk => ?_)
      | (refine s_k 36 rfl ?_; refine s_val rfl rfl rfl (r_len tb rfl rfl rfl) ?_)
      | (refine s_k 5 rfl ?_; refine s_val rfl rfl rfl (r_build rfl rfl (fun w => bF1010 w)) ?_)
      | refine s_nil ?_)
    | (refine c_g ?_; first | refine c_seq ?_ | refine c_region ?_ | (refine c_gc ?_; first | refine c_cond1 rfl zTr ?_ | refine c_cond0 rfl zTr ?_ | refine z_condd1 rfl ?_ | refine z_condd0 rfl ?_ | refine z_conddn1 rfl ?_ | refine z_conddn0 rfl ?_ | refine c_condd rfl (fun hc => ?_) (fun hc => ?_) | refine c_conddn rfl (fun hc => ?_) (fun hc => ?_) | refine c_condn rfl (fun hc => ?_) (fun hc => ?_) | refine c_cond rfl (fun hc => ?_) (fun hc => ?_)) | refine c_block ?_ | refine c_skip ?_ | refine c_exit ?_ | refine c_ret ?_)
    | (refine e_g ?_; first | refine e_then ?_ | refine e_blkn ?_ | refine e_thenx ?_ | refine e_thenr ?_ | refine e_blkr ?_ | refine e_blkx ?_ | refine e_blky rfl ?_))
  rename_i b2
  refine c_loop (ι := Nat × Array Value) (fun i => l.length - i.1) (fun i => i.1 ≤ l.length ∧ GB (mskF (l.take i.1)) i.2) (fun i => [(4, .int .i64 (i.1 : Int)), (0, .slice (some ⟨gl, 0, none⟩) l.length cap), (3, .pointer (some ⟨blk, 0, none⟩)), (2, .pointer (some ⟨b2, 0, none⟩))]) (fun i => [(blk, 90, i.2), (b2, 90, zFl)]) (0, zFl) ⟨by simp, zFl_ok.congr (fun j hj => by simp [mskF])⟩ ?hs rfl ?_
  case hs => (repeat' (first | exact sub_nil | refine sub_cons rfl ?_))
  rintro ⟨k, c1⟩ ⟨hk, hq⟩
  simp only at hk hq ⊢
  have hqs := hq.size
  by_cases hlt : k < l.length
  · have hx : l[k]? = some l[k] := List.getElem?_eq_getElem hlt
    have hcr := hl _ (List.getElem_mem hlt)
    generalize l[k] = c at *
    have hxe := hA.cx hx
    have hye := hA.cy hx
    have hmk := hq.mark hx hcr
    have hrn : (0 ≤ c.x ∧ c.x < 10) ∧ 0 ≤ c.y ∧ c.y < 10 := ⟨⟨hcr.1, hcr.2.1⟩, hcr.2.2⟩
    repeat' (first
      | (refine s_g ?_; first
      | (refine s_k 0 rfl ?_; refine s_val rfl rfl rfl (r_move rfl rfl) ?_)
      | (refine s_k 23 rfl ?_; first | refine s_val rfl rfl rfl (r_field tb rfl rfl rfl) ?_ | refine s_val rfl rfl rfl (r_fieldS tb rfl rfl rfl) ?_)
      | (refine s_k 8 rfl ?_; first | refine s_val rfl rfl rfl (r_ldo rfl rfl hg (by simp) (ldv1 tb rfl hxe)) ?_ | refine s_val rfl rfl rfl (r_ldo rfl rfl hg (by simp) (ldv1 tb rfl hye)) ?_ | (refine' s_val rfl rfl rfl (r_ldv rfl rfl ?qm ?qv) ?_; (case qm => (exact zMm)); (case qv => (exact zLe))) | (refine' s_val rfl rfl rfl (r_ldo rfl rfl ?qw (by simp) ?qv) ?_; (case qw => assumption); (case qv => (exact zLe))))
      | (refine s_k 1 rfl ?_; refine s_val rfl rfl rfl (r_assign rfl rfl) ?_)
      | (refine s_k 13 rfl ?_; first | refine s_val rfl rfl rfl (r_lss rfl rfl rfl) ?_ | refine s_val rfl rfl rfl (r_add rfl rfl rfl (wrap_in (by simp only [lo, hi]; omega))) ?_)
      | (refine s_k 25 rfl ?_; first | refine s_val rfl rfl rfl (r_ixO tb rfl rfl rfl rfl hlt) ?_ | refine s_val rfl rfl rfl (r_ixN tb rfl rfl rfl rfl (by omega)) ?_ | refine s_val rfl rfl rfl (r_ixA tb rfl rfl rfl rfl (by omega) (by omega)) ?_ | refine s_val rfl rfl rfl (r_ixO tb rfl rfl rfl rfl (by omega)) ?_)
      | (refine s_k 9 rfl ?_; (first | refine s_st1 tb rfl rfl rfl rfl rfl rfl rfl rfl ?_ | refine s_stA tb rfl rfl rfl rfl (by first | rfl | assumption | (apply Pv.size; assumption)) rfl rfl ?_); (first | refine' st0 ?qs ?_ | refine' st1 ?qs ?_ | refine' st2 ?qs ?_ | refine' st3 ?qs ?_ | refine' st4 ?qs ?_ | refine' st5 ?qs ?_ | refine' st6 ?qs ?_ | refine' st7 ?qs ?_ | refine' st8 ?qs ?_ | refine' st9 ?qs ?_ | refine' st10 ?qs ?_ | refine' st11 ?qs ?_); (case qs => (first | exact set_one (by omega) rfl | exact zSet)); (first | (refine absA0 (GB (mskF (l.take (k + 1)))) hmk fun c3 hq3 => ?_) | skip))
      | (refine s_k 36 rfl ?_; refine s_val rfl rfl rfl (r_len tb rfl rfl rfl) ?_)
      | refine s_nil ?_)
      | (refine c_g ?_; first | refine c_seq ?_ | refine c_region ?_ | (refine c_gc ?_; first | refine c_cond1 rfl zTr ?_ | refine c_cond0 rfl zTr ?_ | refine z_condd1 rfl ?_ | refine z_condd0 rfl ?_ | refine z_conddn1 rfl ?_ | refine z_conddn0 rfl ?_ | refine c_condd rfl (fun hc => ?_) (fun hc => ?_) | refine c_conddn rfl (fun hc => ?_) (fun hc => ?_) | refine c_condn rfl (fun hc => ?_) (fun hc => ?_) | refine c_cond rfl (fun hc => ?_) (fun hc => ?_)) | refine c_block ?_ | refine c_skip ?_ | refine c_exit ?_ | refine c_ret ?_)
      | (refine e_g ?_; first | refine e_then ?_ | refine e_blkn ?_ | refine e_thenx ?_ | refine e_thenr ?_ | refine e_blkr ?_ | refine e_blkx ?_ | refine e_blky rfl ?_)
      | (refine x_g ?_; first
      | (refine x_k 0 rfl ?_; (refine x_val rfl rfl rfl (r_move rfl rfl) ?hp ?_; (case hp => exact rfl)))
      | (refine x_k 23 rfl ?_; first | (refine x_val rfl rfl rfl (r_field tb rfl rfl rfl) ?hp ?_; (case hp => exact rfl)) | (refine x_val rfl rfl rfl (r_fieldS tb rfl rfl rfl) ?hp ?_; (case hp => exact rfl)))
      | (refine x_k 8 rfl ?_; first | (refine x_val rfl rfl rfl (r_ldo rfl rfl hg (by simp) (ldv1 tb rfl hxe)) ?hp ?_; (case hp => exact rfl)) | (refine x_val rfl rfl rfl (r_ldo rfl rfl hg (by simp) (ldv1 tb rfl hye)) ?hp ?_; (case hp => exact rfl)) | (refine' x_val rfl rfl rfl (r_ldv rfl rfl ?qm ?qv) ?hp ?_; (case qm => (exact zMm)); (case qv => (exact zLe)); (case hp => exact rfl)) | (refine' x_val rfl rfl rfl (r_ldo rfl rfl ?qw (by simp) ?qv) ?hp ?_; (case qw => assumption); (case qv => (exact zLe)); (case hp => exact rfl)))
      | (refine x_k 1 rfl ?_; (refine x_val rfl rfl rfl (r_assign rfl rfl) ?hp ?_; (case hp => exact rfl)))
      | (refine x_k 13 rfl ?_; first | (refine x_val rfl rfl rfl (r_lss rfl rfl rfl) ?hp ?_; (case hp => exact rfl)) | (refine x_val rfl rfl rfl (r_add rfl rfl rfl (wrap_in (by simp only [lo, hi]; omega))) ?hp ?_; (case hp => exact rfl)))
      | (refine x_k 25 rfl ?_; first | (refine x_val rfl rfl rfl (r_ixO tb rfl rfl rfl rfl hlt) ?hp ?_; (case hp => exact rfl)) | (refine x_val rfl rfl rfl (r_ixN tb rfl rfl rfl rfl (by omega)) ?hp ?_; (case hp => exact rfl)) | (refine x_val rfl rfl rfl (r_ixA tb rfl rfl rfl rfl (by omega) (by omega)) ?hp ?_; (case hp => exact rfl)) | (refine x_val rfl rfl rfl (r_ixO tb rfl rfl rfl rfl (by omega)) ?hp ?_; (case hp => exact rfl)))
      | (refine x_k 9 rfl ?_; first | (refine' x_putA0 tb rfl rfl rfl rfl (by first | rfl | assumption | (apply Pv.size; assumption)) ?qs (by first | rfl | assumption | (apply Pv.size; assumption)) rfl rfl ?hp ?_; (case qs => (first | exact set_one (by omega) rfl | exact zSet)); (case hp => exact rfl)) | (refine' x_putA1 tb rfl rfl rfl rfl (by first | rfl | assumption | (apply Pv.size; assumption)) ?qs (by first | rfl | assumption | (apply Pv.size; assumption)) rfl rfl ?hp ?_; (case qs => (first | exact set_one (by omega) rfl | exact zSet)); (case hp => exact rfl)) | (refine' x_putA2 tb rfl rfl rfl rfl (by first | rfl | assumption | (apply Pv.size; assumption)) ?qs (by first | rfl | assumption | (apply Pv.size; assumption)) rfl rfl ?hp ?_; (case qs => (first | exact set_one (by omega) rfl | exact zSet)); (case hp => exact rfl)))
      | (refine x_k 36 rfl ?_; (refine x_val rfl rfl rfl (r_len tb rfl rfl rfl) ?hp ?_; (case hp => exact rfl)))
      | refine x_nil0 ?_
      | refine x_nil ?_)
      | (refine' c_drawXT (id := 5) 12 [(Sum.inl _ : Calm.Plan), (Sum.inl _ : Calm.Plan), (Sum.inl _ : Calm.Plan), (Sum.inl _ : Calm.Plan), (Sum.inl _ : Calm.Plan), (Sum.inl _ : Calm.Plan), (Sum.inl _ : Calm.Plan), (Sum.inl _ : Calm.Plan), (Sum.inl _ : Calm.Plan), (Sum.inl _ : Calm.Plan), (Sum.inl _ : Calm.Plan), (Sum.inl _ : Calm.Plan)] (by kernel_rfl) (by kernel_rfl) (by kernel_rfl) ?_)
      | refine e_tail ?_
      | (refine e_round (k + 1, c3) (by simp; omega) ⟨by simp; omega, hq3⟩ ?_ rfl; (repeat' (first | exact sub_nil | refine sub_cons rfl ?_))))
  · have hkl : k = l.length := by omega
    subst hkl
    rw [List.take_length] at hq
    have hfin := (gbA_ok (mskF l)).uniq hq
    rw [hfin]
    repeat' (first
      | (refine s_g ?_; first
      | (refine s_k 0 rfl ?_; refine s_val rfl rfl rfl (r_move rfl rfl) ?_)
      | (refine s_k 23 rfl ?_; first | refine s_val rfl rfl rfl (r_field tb rfl rfl rfl) ?_ | refine s_val rfl rfl rfl (r_fieldS tb rfl rfl rfl) ?_)
      | (refine s_k 8 rfl ?_; first | (refine' s_val rfl rfl rfl (r_ldv rfl rfl ?qm ?qv) ?_; (case qm => (exact zMm)); (case qv => (exact zLe))) | (refine' s_val rfl rfl rfl (r_ldo rfl rfl ?qw (by simp) ?qv) ?_; (case qw => assumption); (case qv => (exact zLe))))
      | (refine s_k 1 rfl ?_; refine s_val rfl rfl rfl (r_assign rfl rfl) ?_)
      | (refine s_k 13 rfl ?_; first | refine s_val rfl rfl rfl (r_lss rfl rfl rfl) ?_ | refine s_val rfl rfl rfl (r_add rfl rfl rfl (wrap_in (by simp only [lo, hi]; omega))) ?_)
      | (refine s_k 25 rfl ?_; first | refine s_val rfl rfl rfl (r_ixN tb rfl rfl rfl rfl (by omega)) ?_ | refine s_val rfl rfl rfl (r_ixA tb rfl rfl rfl rfl (by omega) (by omega)) ?_ | refine s_val rfl rfl rfl (r_ixO tb rfl rfl rfl rfl (by omega)) ?_)
      | (refine s_k 9 rfl ?_; (first | refine s_st1 tb rfl rfl rfl rfl rfl rfl rfl rfl ?_ | refine s_stA tb rfl rfl rfl rfl (by first | rfl | assumption | (apply Pv.size; assumption)) rfl rfl ?_); (first | refine' st0 ?qs ?_ | refine' st1 ?qs ?_ | refine' st2 ?qs ?_ | refine' st3 ?qs ?_ | refine' st4 ?qs ?_ | refine' st5 ?qs ?_ | refine' st6 ?qs ?_ | refine' st7 ?qs ?_ | refine' st8 ?qs ?_ | refine' st9 ?qs ?_ | refine' st10 ?qs ?_ | refine' st11 ?qs ?_); (case qs => (first | exact setB hq zFl_ok.size | exact zSet)))
      | (refine s_k 36 rfl ?_; refine s_val rfl rfl rfl (r_len tb rfl rfl rfl) ?_)
      | refine s_nil ?_)
      | (refine c_g ?_; first | refine c_seq ?_ | refine c_region ?_ | (refine c_gc ?_; first | refine c_cond1 rfl zTr ?_ | refine c_cond0 rfl zTr ?_ | refine z_condd1 rfl ?_ | refine z_condd0 rfl ?_ | refine z_conddn1 rfl ?_ | refine z_conddn0 rfl ?_ | refine c_condd rfl (fun hc => ?_) (fun hc => ?_) | refine c_conddn rfl (fun hc => ?_) (fun hc => ?_) | refine c_condn rfl (fun hc => ?_) (fun hc => ?_) | refine c_cond rfl (fun hc => ?_) (fun hc => ?_)) | refine c_block ?_ | refine c_skip ?_ | refine c_exit ?_ | refine c_ret ?_)
      | (refine e_g ?_; first | refine e_then ?_ | refine e_blkn ?_ | refine e_thenx ?_ | refine e_thenr ?_ | refine e_blkr ?_ | refine e_blkx ?_ | refine e_blky rfl ?_)
      | (refine e_ret1 (by simp) rfl (re_cell tb rfl m1 rfl hq.size) fun w hL => ⟨rfl, hL.toBelow⟩))
end Go.Proofs.Ytnafnhpajkhgkaa
/- A walk that is begun anew behind a call: what the callee has made is old memory then. No condition. -/
namespace Go.Proofs.Ytnafnhpajkhgkaa
set_option linter.unusedVariables false
set_option linter.unusedSimpArgs false
open Go.RowKit Mem Wk
namespace Wk
variable {P : Program} {n : Nat} {w0 w1 : World} {l : List (Nat × Value)} {L K : List (Nat × TypeId × Array Value)} {Q : Exit → Act → World → Prop} {ops : Array Oper} {o : Oper} {rest : List Oper} {d : Nat} {x : Operand} {v : Value} {O : List Nat}
/-- old blocks that are known -/
def Kw (w : World) (K : List (Nat × TypeId × Array Value)) : Prop := ∀ b ∈ K, w.heap[b.1]? = some (.cells b.2.2 b.2.1 (0, 0))
theorem Kw.nil (w : World) : Kw w [] := fun b hb => by cases hb
theorem Kw.base (hK : Kw w0 K) (hL : Kn [] w0 w1 L) : Kw w1 (L ++ K) := fun b hb => by
  rcases List.mem_append.1 hb with h | h
  · exact hL.has b h
  · exact Kn.old hL (hK b h) (by simp)
theorem Kw.at_ (hK : Kw w0 K) {g : Nat} {T : TypeId} {cs : Array Value} (hm : (g, T, cs) ∈ K) {w : World} (hL : Kn [] w0 w L) : w.heap[g]? = some (.cells cs T (0, 0)) := Kn.old hL (hK _ hm) (by simp)
end Wk
end Go.Proofs.Ytnafnhpajkhgkaa
