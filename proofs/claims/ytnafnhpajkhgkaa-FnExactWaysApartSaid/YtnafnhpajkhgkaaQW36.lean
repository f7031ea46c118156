import Derived.Test.YtnafnhpajkhgkaaQW14
import Derived.Test.YtnafnhpajkhgkaaQW21
import Derived.Test.YtnafnhpajkhgkaaQW23
import Derived.Test.YtnafnhpajkhgkaaQW24
import Derived.Test.YtnafnhpajkhgkaaQW25
import Derived.Test.YtnafnhpajkhgkaaQW30
/- A pasture whose cells come from those of another one. No condition. -/
namespace Go.Proofs.Ytnafnhpajkhgkaa
set_option linter.unusedVariables false
set_option linter.unusedSimpArgs false
open Go.RowKit Mem Wk
attribute [local irreducible] Calls Wk.S Wk.C Wk.E Wk.X Wk.T Wk.anV Wk.orV Wk.andV Wk.shlV Wk.shrV Calm.wpLex
/-- an empty pasture -/
def base (a b : Int) : Nat → Int := upd (upd (fun _ => 0) 0 a) 1 b
theorem putP_keep (q : Nat → Int) (x y : Int) (s on : Bool) {i : Nat} (h : i < 102) : putP q x y s on i = q i := by
  unfold putP; split <;> exact upd_ne _ _ (by omega)
end Go.Proofs.Ytnafnhpajkhgkaa
/- Ways: going along one closes the sides behind; the reference's steps. No condition but cells of a pasture of at most ten by ten. -/
namespace Go.Proofs.Ytnafnhpajkhgkaa
set_option linter.unusedVariables false
set_option linter.unusedSimpArgs false
open Go.RowKit Mem Wk
def stS (p : Nat → Int) (a b : Sp) : Nat → Int := putP p (btw a b).x (btw a b).y (btw a b).s true
/-- the pasture behind k steps of a way -/
def wayP (p : Nat → Int) (l : List Sp) : Nat → Nat → Int
  | 0 => p
  | k + 1 => match l[k]?, l[k + 1]? with
    | some a, some b => stS (wayP p l k) a b
    | _, _ => wayP p l k
def okB (p : Nat → Int) (a b : Sp) : Bool := (besL p a.x a.y 4).any fun s => eqSp b s
theorem wayP_0 (p : Nat → Int) (l : List Sp) : ∀ k, wayP p l k 0 = p 0
  | 0 => rfl
  | k + 1 => by
    have ih := wayP_0 p l k
    rw [wayP]
    rcases l[k]? with _ | a <;> rcases l[k + 1]? with _ | b
    · exact ih
    · exact ih
    · exact ih
    · show stS (wayP p l k) a b 0 = p 0
      unfold stS; rw [putP_keep _ _ _ _ _ (by omega)]; exact ih
theorem wayP_1 (p : Nat → Int) (l : List Sp) : ∀ k, wayP p l k 1 = p 1
  | 0 => rfl
  | k + 1 => by
    have ih := wayP_1 p l k
    rw [wayP]
    rcases l[k]? with _ | a <;> rcases l[k + 1]? with _ | b
    · exact ih
    · exact ih
    · exact ih
    · show stS (wayP p l k) a b 1 = p 1
      unfold stS; rw [putP_keep _ _ _ _ _ (by omega)]; exact ih
theorem wayP_succ {p : Nat → Int} {l : List Sp} {k : Nat} {a b : Sp} (ha : l[k]? = some a) (hb : l[k + 1]? = some b) : wayP p l (k + 1) = stS (wayP p l k) a b := by
  rw [wayP, ha, hb]
def sgB (p : Nat → Int) (a b : Sp) (j : Nat) : Bool := (List.range j).any fun s : Nat => canB p a.x a.y (s : Int) && eqSp b (nxt a (s : Int))
theorem okB_eq (p : Nat → Int) (a b : Sp) : okB p a b = sgB p a b 4 := by
  unfold okB besL sgB
  rw [List.any_map, List.any_filter]
  rfl
theorem okB_side {p : Nat → Int} {a b : Sp} (h : okB p a b = true) : ∃ s : Nat, s < 4 ∧ canB p a.x a.y (s : Int) = true ∧ b = nxt a (s : Int) := by
  rw [okB_eq] at h
  unfold sgB at h
  obtain ⟨s, hs, he⟩ := List.any_eq_true.1 h
  rw [Bool.and_eq_true] at he
  exact ⟨s, List.mem_range.1 hs, he.1, spot_of_eq he.2⟩
theorem btw_ok {p : Nat → Int} {a b : Sp} (h : okB p a b = true) (ha : inR a) : (0 ≤ (btw a b).x ∧ (btw a b).x < 10) ∧ 0 ≤ (btw a b).y ∧ (btw a b).y < 10 := by
  obtain ⟨s, hs, hc, rfl⟩ := okB_side h
  unfold canB at hc
  rw [Bool.and_eq_true] at hc
  rw [btw_nxt a s (by omega)]
  unfold inR at ha
  exact hd_range ⟨ha.1, ha.2.1⟩ ha.2.2 (isC_range hc.1)
attribute [local irreducible] Calls Wk.S Wk.C Wk.E Wk.X Wk.T Wk.anV Wk.orV Wk.andV Wk.shlV Wk.shrV Calm.wpLex
end Go.Proofs.Ytnafnhpajkhgkaa
/- The sides along a way: the program's. Cells of the grid, at most 2^20. -/
namespace Go.Proofs.Ytnafnhpajkhgkaa
set_option linter.unusedVariables false
set_option linter.unusedSimpArgs false
open Go.RowKit Mem Wk
attribute [local irreducible] Calls Wk.S Wk.C Wk.E Wk.X Wk.T Wk.anV Wk.orV Wk.andV Wk.shlV Wk.shrV Calm.wpLex
/-- the sides of the first m steps of a way -/
def aT (l : List Sp) : Nat → List Hd
  | 0 => []
  | m + 1 => aT l m ++ match l[m]?, l[m + 1]? with
    | some a, some b => alK a b 4
    | _, _ => []
theorem aT_succ {l : List Sp} {m : Nat} {a b : Sp} (ha : l[m]? = some a) (hb : l[m + 1]? = some b) : aT l (m + 1) = aT l m ++ alK a b 4 := by
  rw [aT, ha, hb]
theorem aT_len (l : List Sp) : ∀ m, (aT l m).length ≤ 4 * m
  | 0 => by simp [aT]
  | m + 1 => by
    have ih := aT_len l m
    rw [aT, List.length_append]
    split
    · rename_i a b _ _
      have := alK_len a b 4; omega
    · simp; omega
theorem isW_at {p : Nat → Int} : ∀ {l : List Sp} {m : Nat} {a b : Sp}, isW p l → l[m]? = some a → l[m + 1]? = some b → b ∈ nbP p a
  | [], m, a, b, h, _, _ => h.elim
  | [c], m, a, b, h, h1, h2 => by simp at h2
  | c :: d :: l, 0, a, b, h, h1, h2 => by
    simp at h1 h2; subst h1; subst h2; exact h.1
  | c :: d :: l, m + 1, a, b, h, h1, h2 => isW_at (l := d :: l) (m := m) h.2 (by simpa using h1) (by simpa using h2)
theorem nb_nxt {p : Nat → Int} {a b : Sp} (h : b ∈ nbP p a) : ∃ s : Nat, s < 4 ∧ canB p a.x a.y (s : Int) = true ∧ b = nxt a (s : Int) := by
  obtain ⟨s, hs, hc, e⟩ := besL_ex.1 h
  exact ⟨s, hs, hc, e⟩
theorem nb_side {p : Nat → Int} {a b : Sp} (h : b ∈ nbP p a) : alK a b 4 = [btw a b] := by
  obtain ⟨s, hs, _, rfl⟩ := nb_nxt h
  rw [alK_one a hs, btw_nxt a (s : Int) ⟨by omega, by omega⟩]
theorem foldP_app (p : Nat → Int) (l m : List Hd) (on : Bool) : foldP p (l ++ m) on = foldP (foldP p l on) m on := by unfold foldP; rw [List.foldl_append]
theorem aT_fold {p q : Nat → Int} {l : List Sp} (h : isW p l) : ∀ m, foldP q (aT l m) true = wayP q l m
  | 0 => rfl
  | m + 1 => by
    have ih := aT_fold (q := q) h m
    cases h1 : l[m]? with
    | none => rw [aT, wayP, h1, foldP_app]; exact ih
    | some a =>
      cases h2 : l[m + 1]? with
      | none => rw [aT, wayP, h1, h2, foldP_app]; exact ih
      | some b =>
        rw [aT_succ h1 h2, wayP_succ h1 h2, foldP_app, ih, nb_side (isW_at h h1 h2)]
        rfl
theorem aT_in {l : List Sp} {p : Nat → Int} (h : isW p l) (hl : ∀ c ∈ l, inR c) : ∀ m, InP (aT l m)
  | 0 => fun h hm => by cases hm
  | m + 1 => by
    have ih := aT_in h hl m
    intro d hd
    rw [aT] at hd
    rcases List.mem_append.1 hd with hd | hd
    · exact ih d hd
    · cases h1 : l[m]? with
      | none => rw [h1] at hd; cases hd
      | some a =>
        cases h2 : l[m + 1]? with
        | none => rw [h1, h2] at hd; cases hd
        | some b =>
          rw [h1, h2] at hd
          simp only at hd
          have hn := isW_at h h1 h2
          rw [nb_side hn, List.mem_singleton] at hd
          subst hd
          obtain ⟨s, hs, hc, e⟩ := nb_nxt hn
          have hok : okB p a b = true := by
            unfold okB
            rw [List.any_eq_true]
            exact ⟨b, hn, by unfold eqSp; simp⟩
          exact btw_ok hok (hl a (List.mem_of_getElem? h1))
set_option maxRecDepth 100000 in
set_option maxHeartbeats 1600000 in
theorem sidesAll_any (l : List Sp) (A : Option Addr) (cap : Nat) (w : World) (hS : SlA [] w 2 A (l.map Sp.cells)) (hn : l.length ≤ 1048576) (h0 : l ≠ []) (hl : ∀ c ∈ l, inR c) :
    Calls Try.prog 44 #[.slice A l.length cap] w (NewS 66 3 (flH (aT l (l.length - 1))) w) := by
  have hpos : 0 < l.length := List.length_pos_iff.2 h0
  refine enter1 Try.func44 rfl rfl rfl (Own.start w) ?_
  repeat' (first
    | (refine s_g ?_; first
      | (refine s_k 0 rfl ?_; refine s_val rfl rfl rfl (r_move rfl rfl) ?_)
      | (refine s_k 8 rfl ?_; first | (refine' s_val rfl rfl rfl (r_ldv rfl rfl ?qm ?qv) ?_; (case qm => (exact zMm)); (case qv => (exact zLe))) | (refine' s_val rfl rfl rfl (r_ldo rfl rfl ?qw (by simp) ?qv) ?_; (case qw => assumption); (case qv => (exact zLe))))
      | (refine s_k 1 rfl ?_; refine s_val rfl rfl rfl (r_assign rfl rfl) ?_)
      | (refine s_k 13 rfl ?_; first | refine s_val rfl rfl rfl (r_lss rfl rfl rfl) ?_ | refine s_val rfl rfl rfl (r_eql rfl rfl rfl) ?_ | refine s_val rfl rfl rfl (r_add rfl rfl rfl (wrap_in (by simp only [lo, hi]; omega))) ?_ | refine s_val rfl rfl rfl (r_sub rfl rfl rfl (wrap_in (by simp only [lo, hi]; omega))) ?_)
      | (refine s_k 25 rfl ?_; first | refine s_val rfl rfl rfl (r_ixN tb rfl rfl rfl rfl (by omega)) ?_ | refine s_val rfl rfl rfl (r_ixA tb rfl rfl rfl rfl (by omega) (by omega)) ?_ | refine s_val rfl rfl rfl (r_ixO tb rfl rfl rfl rfl (by omega)) ?_)
      | (refine s_k 36 rfl ?_; refine s_val rfl rfl rfl (r_len tb rfl rfl rfl) ?_)
      | (refine s_k 6 rfl ?_; refine s_bsl rfl rfl (fun w => slHurdle0 w) rfl rfl rfl fun blk => ?_)
      | refine s_nil ?_)
    | (refine c_g ?_; first | refine c_seq ?_ | refine c_region ?_ | (refine c_gc ?_; first | refine c_cond1 rfl zTr ?_ | refine c_cond0 rfl zTr ?_ | refine z_condd1 rfl ?_ | refine z_condd0 rfl ?_ | refine z_conddn1 rfl ?_ | refine z_conddn0 rfl ?_ | refine c_condd rfl (fun hc => ?_) (fun hc => ?_) | refine c_conddn rfl (fun hc => ?_) (fun hc => ?_) | refine c_condn rfl (fun hc => ?_) (fun hc => ?_) | refine c_cond rfl (fun hc => ?_) (fun hc => ?_)) | refine c_block ?_ | refine c_skip ?_ | refine c_exit ?_ | refine c_ret ?_)
    | (refine e_g ?_; first | refine e_then ?_ | refine e_blkn ?_ | refine e_thenx ?_ | refine e_thenr ?_ | refine e_blkr ?_ | refine e_blkx ?_ | refine e_blky rfl ?_))
  refine c_loop (ι := Nat × Nat × Nat × Array Value) (fun i => l.length - i.1) (fun i => i.1 + 1 ≤ l.length ∧ Ap 3 (aT l i.1).length i.2.2.1 i.2.2.2 (flH (aT l i.1))) (fun i => [(4, .int .i64 ((i.1 + 1 : Nat) : Int)), (3, .slice (some ⟨i.2.1, 0, none⟩) (aT l i.1).length i.2.2.1), (0, .slice A l.length cap)]) (fun i => [(i.2.1, 66, i.2.2.2)]) (0, blk, 0, #[]) ⟨by simp only; omega, Ap.nil 3⟩ ?hs rfl ?_
  case hs => (repeat' (first | exact sub_nil | refine sub_cons rfl ?_))
  rintro ⟨m, g, cap1, cur⟩ ⟨hm, hA⟩
  simp only at hm hA ⊢
  have hal := aT_len l m
  by_cases hlt : m + 1 < l.length
  · have hxa : l[m]? = some l[m] := List.getElem?_eq_getElem (by omega)
    have hxb : l[m + 1]? = some l[m + 1] := List.getElem?_eq_getElem hlt
    have haR := hl l[m] (List.getElem_mem (by omega))
    have hsu := aT_succ hxa hxb
    have hxa' : (l.map Sp.cells)[m]? = some l[m].cells := by simp [hxa]
    have hxb' : (l.map Sp.cells)[m + 1]? = some l[m + 1].cells := by simp [hxb]
    have hka : m < (l.map Sp.cells).length := by simp; omega
    have hkb : m + 1 < (l.map Sp.cells).length := by simpa using hlt
    have hj1 : IntKind.i64.wrap (((m + 1 : Nat) : Int) - 1) = (m : Int) := by rw [show ((m + 1 : Nat) : Int) - 1 = (m : Int) by omega]; exact wrap_in (by simp only [lo, hi]; omega)
    generalize l[m + 1] = b at *
    generalize l[m] = a at *
    unfold inR at haR
    repeat' (first
      | (refine s_g ?_; first
      | (refine s_k 0 rfl ?_; refine s_val rfl rfl rfl (r_move rfl rfl) ?_)
      | (refine s_k 8 rfl ?_; first | (refine' s_val rfl rfl rfl (r_ldv rfl rfl ?qm ?qv) ?_; (case qm => (exact zMm)); (case qv => (exact zLe))) | (refine' s_val rfl rfl rfl (r_ldo rfl rfl ?qw (by simp) ?qv) ?_; (case qw => assumption); (case qv => (exact zLe))))
      | (refine s_k 1 rfl ?_; refine s_val rfl rfl rfl (r_assign rfl rfl) ?_)
      | (refine s_k 13 rfl ?_; first | refine s_val rfl rfl rfl (r_lss rfl rfl rfl) ?_ | refine s_val rfl rfl rfl (r_eql rfl rfl rfl) ?_ | refine s_val rfl rfl rfl (r_add rfl rfl rfl (wrap_in (by simp only [lo, hi]; omega))) ?_ | refine s_val rfl rfl rfl (r_sub rfl rfl rfl (wrap_in (by simp only [lo, hi]; omega))) ?_)
      | (refine s_k 25 rfl ?_; first | refine s_val rfl rfl rfl (r_ixN tb rfl rfl rfl rfl (by omega)) ?_ | refine s_val rfl rfl rfl (r_ixA tb rfl rfl rfl rfl (by omega) (by omega)) ?_ | refine s_val rfl rfl rfl (r_ixO tb rfl rfl rfl rfl (by omega)) ?_)
      | (refine s_k 36 rfl ?_; refine s_val rfl rfl rfl (r_len tb rfl rfl rfl) ?_)
      | refine s_nil ?_)
      | (refine c_g ?_; first | refine c_seq ?_ | refine c_region ?_ | (refine c_gc ?_; first | refine c_cond1 rfl zTr ?_ | refine c_cond0 rfl zTr ?_ | refine z_condd1 rfl ?_ | refine z_condd0 rfl ?_ | refine z_conddn1 rfl ?_ | refine z_conddn0 rfl ?_ | refine c_condd rfl (fun hc => ?_) (fun hc => ?_) | refine c_conddn rfl (fun hc => ?_) (fun hc => ?_) | refine c_condn rfl (fun hc => ?_) (fun hc => ?_) | refine c_cond rfl (fun hc => ?_) (fun hc => ?_)) | refine c_block ?_ | refine c_skip ?_ | refine c_exit ?_ | refine c_ret ?_)
      | (refine e_g ?_; first | refine e_then ?_ | refine e_blkn ?_ | refine e_thenx ?_ | refine e_thenr ?_ | refine e_blkr ?_ | refine e_blkx ?_ | refine e_blky rfl ?_))
    refine c_loop (ι := Nat × Nat × Nat × Array Value) (fun i => 4 - i.1) (fun i => i.1 ≤ 4 ∧ Ap 3 (aT l m ++ alK a b i.1).length i.2.2.1 i.2.2.2 (flH (aT l m ++ alK a b i.1))) (fun i => [(13, .int .i64 (i.1 : Int)), (4, .int .i64 ((m + 1 : Nat) : Int)), (3, .slice (some ⟨i.2.1, 0, none⟩) (aT l m ++ alK a b i.1).length i.2.2.1), (0, .slice A l.length cap)]) (fun i => [(i.2.1, 66, i.2.2.2)]) (0, g, cap1, cur) ⟨by simp, by simpa [alK] using hA⟩ ?hs rfl ?_
    case hs => (simp only [show alK a b 0 = [] from rfl, List.append_nil]; repeat' (first | exact sub_nil | refine sub_cons rfl ?_))
    rintro ⟨k, g2, cap2, cur2⟩ ⟨hk, hA2⟩
    simp only at hk hA2 ⊢
    have hkl := alK_len a b k
    have hll : (aT l m ++ alK a b k).length ≤ 5000000 := by rw [List.length_append]; omega
    by_cases hlt4 : k < 4
    · have hev : (decide (nextX a.x (k : Int) = b.x) && decide (nextY a.y (k : Int) = b.y)) = eqSp (nxt a (k : Int)) b := rfl
      cases hq : eqSp (nxt a (k : Int)) b
      case' true => have hb1 := alK_yes hq
      case' false => have hb1 := alK_no hq
      all_goals
        rw [hq] at hev
        repeat' (first
          | (refine s_g ?_; first
      | (refine s_k 0 rfl ?_; refine s_val rfl rfl rfl (r_move rfl rfl) ?_)
      | (refine s_k 8 rfl ?_; first | refine s_val rfl rfl rfl (r_ldS (i := m) tb rfl hS rfl hxa' rfl) ?_ | refine s_val rfl rfl rfl (r_ldS (i := m + 1) tb rfl hS rfl hxb' rfl) ?_ | (refine' s_val rfl rfl rfl (r_ldv rfl rfl ?qm ?qv) ?_; (case qm => (exact zMm)); (case qv => (exact zLe))) | (refine' s_val rfl rfl rfl (r_ldo rfl rfl ?qw (by simp) ?qv) ?_; (case qw => assumption); (case qv => (exact zLe))))
      | (refine s_k 1 rfl ?_; refine s_val rfl rfl rfl (r_assign rfl rfl) ?_)
      | (refine s_k 13 rfl ?_; first | refine s_val rfl rfl rfl (r_eqSpC rfl rfl rfl hev) ?_ | refine s_val rfl rfl rfl (r_sub rfl rfl rfl hj1) ?_ | refine s_val rfl rfl rfl (r_lss rfl rfl rfl) ?_ | refine s_val rfl rfl rfl (r_eql rfl rfl rfl) ?_ | refine s_val rfl rfl rfl (r_add rfl rfl rfl (wrap_in (by simp only [lo, hi]; omega))) ?_ | refine s_val rfl rfl rfl (r_sub rfl rfl rfl (wrap_in (by simp only [lo, hi]; omega))) ?_)
      | (refine s_k 35 rfl ?_; first | (refine s_call Try.func79 (by kernel_rfl) rfl rfl rfl rfl rfl rfl (fun w hL => ahead_any _ _ _ _ (by omega) (by omega)) ?_) | (refine s_call Try.func86 (by kernel_rfl) rfl rfl rfl rfl rfl rfl (fun w hL => hurdleAt_any _ _ _ _ (by omega) (by omega)) ?_))
      | (refine s_k 25 rfl ?_; first | refine s_val rfl rfl rfl (r_ixS (i := m) tb rfl hS rfl rfl rfl (by simp) hka) ?_ | refine s_val rfl rfl rfl (r_ixS (i := m + 1) tb rfl hS rfl rfl rfl (by simp) hkb) ?_ | refine s_val rfl rfl rfl (r_ixN tb rfl rfl rfl rfl (by omega)) ?_ | refine s_val rfl rfl rfl (r_ixA tb rfl rfl rfl rfl (by omega) (by omega)) ?_ | refine s_val rfl rfl rfl (r_ixO tb rfl rfl rfl rfl (by omega)) ?_)
      | (refine s_k 36 rfl ?_; first | refine s_app0 hA2 rfl rfl rfl uHurdleS iHurdle rfl (by omega) (by simp) (by simp) rfl (by simp [Value.oneCell']) (by unfold maxLen; omega) (by omega) rfl rfl rfl fun g2 cap2 cur2 hA2 => ?_ | refine s_val rfl rfl rfl (r_len tb rfl rfl rfl) ?_)
      | (refine s_k 6 rfl ?_; refine s_bsl rfl rfl (fun w => slHurdle1 _ _ _ w) rfl rfl rfl fun blk => ?_)
      | refine s_nil ?_)
          | (refine c_g ?_; first | refine c_seq ?_ | refine c_region ?_ | (refine c_gc ?_; first | refine c_cond1 rfl zTr ?_ | refine c_cond0 rfl zTr ?_ | refine z_condd1 rfl ?_ | refine z_condd0 rfl ?_ | refine z_conddn1 rfl ?_ | refine z_conddn0 rfl ?_ | refine c_condd rfl (fun hc => ?_) (fun hc => ?_) | refine c_conddn rfl (fun hc => ?_) (fun hc => ?_) | refine c_condn rfl (fun hc => ?_) (fun hc => ?_) | refine c_cond rfl (fun hc => ?_) (fun hc => ?_)) | refine c_block ?_ | refine c_skip ?_ | refine c_exit ?_ | refine c_ret ?_)
          | (refine e_g ?_; first | refine e_then ?_ | refine e_blkn ?_ | refine e_thenx ?_ | refine e_thenr ?_ | refine e_blkr ?_ | refine e_blkx ?_ | refine e_blky rfl ?_)
          | (refine x_g ?_; first
      | (refine x_k 0 rfl ?_; (refine x_val rfl rfl rfl (r_move rfl rfl) ?hp ?_; (case hp => exact rfl)))
      | (refine x_k 8 rfl ?_; first | (refine x_val rfl rfl rfl (r_ldS (i := m) tb rfl hS rfl hxa' rfl) ?hp ?_; (case hp => exact rfl)) | (refine x_val rfl rfl rfl (r_ldS (i := m + 1) tb rfl hS rfl hxb' rfl) ?hp ?_; (case hp => exact rfl)) | (refine' x_val rfl rfl rfl (r_ldv rfl rfl ?qm ?qv) ?hp ?_; (case qm => (exact zMm)); (case qv => (exact zLe)); (case hp => exact rfl)) | (refine' x_val rfl rfl rfl (r_ldo rfl rfl ?qw (by simp) ?qv) ?hp ?_; (case qw => assumption); (case qv => (exact zLe)); (case hp => exact rfl)))
      | (refine x_k 1 rfl ?_; (refine x_val rfl rfl rfl (r_assign rfl rfl) ?hp ?_; (case hp => exact rfl)))
      | (refine x_k 13 rfl ?_; first | (refine x_val rfl rfl rfl (r_eqSpC rfl rfl rfl hev) ?hp ?_; (case hp => exact rfl)) | (refine x_val rfl rfl rfl (r_sub rfl rfl rfl hj1) ?hp ?_; (case hp => exact rfl)) | (refine x_val rfl rfl rfl (r_lss rfl rfl rfl) ?hp ?_; (case hp => exact rfl)) | (refine x_val rfl rfl rfl (r_eql rfl rfl rfl) ?hp ?_; (case hp => exact rfl)) | (refine x_val rfl rfl rfl (r_add rfl rfl rfl (wrap_in (by simp only [lo, hi]; omega))) ?hp ?_; (case hp => exact rfl)) | (refine x_val rfl rfl rfl (r_sub rfl rfl rfl (wrap_in (by simp only [lo, hi]; omega))) ?hp ?_; (case hp => exact rfl)))
      | (refine x_k 35 rfl ?_; first | (refine x_call Try.func79 (by kernel_rfl) rfl rfl rfl rfl rfl rfl (fun w hL => ahead_any _ _ _ _ (by omega) (by omega)) ?hp ?_; (case hp => exact rfl)) | (refine x_call Try.func86 (by kernel_rfl) rfl rfl rfl rfl rfl rfl (fun w hL => hurdleAt_any _ _ _ _ (by omega) (by omega)) ?hp ?_; (case hp => exact rfl)))
      | (refine x_k 25 rfl ?_; first | (refine x_val rfl rfl rfl (r_ixS (i := m) tb rfl hS rfl rfl rfl (by simp) hka) ?hp ?_; (case hp => exact rfl)) | (refine x_val rfl rfl rfl (r_ixS (i := m + 1) tb rfl hS rfl rfl rfl (by simp) hkb) ?hp ?_; (case hp => exact rfl)) | (refine x_val rfl rfl rfl (r_ixN tb rfl rfl rfl rfl (by omega)) ?hp ?_; (case hp => exact rfl)) | (refine x_val rfl rfl rfl (r_ixA tb rfl rfl rfl rfl (by omega) (by omega)) ?hp ?_; (case hp => exact rfl)) | (refine x_val rfl rfl rfl (r_ixO tb rfl rfl rfl rfl (by omega)) ?hp ?_; (case hp => exact rfl)))
      | (refine x_k 36 rfl ?_; (refine x_val rfl rfl rfl (r_len tb rfl rfl rfl) ?hp ?_; (case hp => exact rfl)))
      | refine x_nil0 ?_
      | refine x_nil ?_)
          | (refine' c_drawX (id := 8) [(Sum.inl _ : Calm.Plan), (Sum.inl _ : Calm.Plan), (Sum.inl _ : Calm.Plan), (Sum.inl _ : Calm.Plan), (Sum.inl _ : Calm.Plan), (Sum.inl _ : Calm.Plan), (Sum.inl _ : Calm.Plan), (Sum.inl _ : Calm.Plan), (Sum.inl _ : Calm.Plan), (Sum.inl _ : Calm.Plan), (Sum.inl _ : Calm.Plan), (Sum.inl _ : Calm.Plan)] (by kernel_rfl) (by kernel_rfl) (by kernel_rfl) ?_)
          | refine e_round (k + 1, g2, cap2, cur2) (by simp; omega) ⟨by simp; omega, ?_⟩ ?hs rfl)
        all_goals first
          | (case hs => simp only; rw [hb1]; (repeat' (first | exact sub_nil | refine sub_cons rfl ?_ | refine sub_cons' rfl (by simp [Nat.add_assoc]) ?_)); done)
          | (simp only; rw [hb1]; first | exact hA2 | (rw [← List.append_assoc, flH_snoc]; simpa [Hd.cells, hdAt, Nat.add_assoc] using hA2))
    · obtain rfl : k = 4 := by omega
      rw [← hsu] at hA2 ⊢
      repeat' (first
        | (refine s_g ?_; first
      | (refine s_k 0 rfl ?_; refine s_val rfl rfl rfl (r_move rfl rfl) ?_)
      | (refine s_k 8 rfl ?_; first | (refine' s_val rfl rfl rfl (r_ldv rfl rfl ?qm ?qv) ?_; (case qm => (exact zMm)); (case qv => (exact zLe))) | (refine' s_val rfl rfl rfl (r_ldo rfl rfl ?qw (by simp) ?qv) ?_; (case qw => assumption); (case qv => (exact zLe))))
      | (refine s_k 1 rfl ?_; refine s_val rfl rfl rfl (r_assign rfl rfl) ?_)
      | (refine s_k 13 rfl ?_; first | refine s_val rfl rfl rfl (r_lss rfl rfl rfl) ?_ | refine s_val rfl rfl rfl (r_eql rfl rfl rfl) ?_ | refine s_val rfl rfl rfl (r_add rfl rfl rfl (wrap_in (by simp only [lo, hi]; omega))) ?_ | refine s_val rfl rfl rfl (r_sub rfl rfl rfl (wrap_in (by simp only [lo, hi]; omega))) ?_)
      | (refine s_k 25 rfl ?_; first | refine s_val rfl rfl rfl (r_ixN tb rfl rfl rfl rfl (by omega)) ?_ | refine s_val rfl rfl rfl (r_ixA tb rfl rfl rfl rfl (by omega) (by omega)) ?_ | refine s_val rfl rfl rfl (r_ixO tb rfl rfl rfl rfl (by omega)) ?_)
      | (refine s_k 36 rfl ?_; refine s_val rfl rfl rfl (r_len tb rfl rfl rfl) ?_)
      | refine s_nil ?_)
        | (refine c_g ?_; first | refine c_seq ?_ | refine c_region ?_ | (refine c_gc ?_; first | refine c_cond1 rfl zTr ?_ | refine c_cond0 rfl zTr ?_ | refine z_condd1 rfl ?_ | refine z_condd0 rfl ?_ | refine z_conddn1 rfl ?_ | refine z_conddn0 rfl ?_ | refine c_condd rfl (fun hc => ?_) (fun hc => ?_) | refine c_conddn rfl (fun hc => ?_) (fun hc => ?_) | refine c_condn rfl (fun hc => ?_) (fun hc => ?_) | refine c_cond rfl (fun hc => ?_) (fun hc => ?_)) | refine c_block ?_ | refine c_skip ?_ | refine c_exit ?_ | refine c_ret ?_)
        | (refine e_g ?_; first | refine e_then ?_ | refine e_blkn ?_ | refine e_thenx ?_ | refine e_thenr ?_ | refine e_blkr ?_ | refine e_blkx ?_ | refine e_blky rfl ?_)
        | (refine e_round (m + 1, g2, cap2, cur2) (by simp; omega) ⟨by simp; omega, hA2⟩ ?_ rfl; (repeat' (first | exact sub_nil | refine sub_cons rfl ?_))))
  · obtain rfl : m = l.length - 1 := by omega
    repeat' (first
      | (refine s_g ?_; first
      | (refine s_k 0 rfl ?_; refine s_val rfl rfl rfl (r_move rfl rfl) ?_)
      | (refine s_k 8 rfl ?_; first | (refine' s_val rfl rfl rfl (r_ldv rfl rfl ?qm ?qv) ?_; (case qm => (exact zMm)); (case qv => (exact zLe))) | (refine' s_val rfl rfl rfl (r_ldo rfl rfl ?qw (by simp) ?qv) ?_; (case qw => assumption); (case qv => (exact zLe))))
      | (refine s_k 1 rfl ?_; refine s_val rfl rfl rfl (r_assign rfl rfl) ?_)
      | (refine s_k 13 rfl ?_; first | refine s_val rfl rfl rfl (r_lss rfl rfl rfl) ?_ | refine s_val rfl rfl rfl (r_eql rfl rfl rfl) ?_ | refine s_val rfl rfl rfl (r_add rfl rfl rfl (wrap_in (by simp only [lo, hi]; omega))) ?_ | refine s_val rfl rfl rfl (r_sub rfl rfl rfl (wrap_in (by simp only [lo, hi]; omega))) ?_)
      | (refine s_k 25 rfl ?_; first | refine s_val rfl rfl rfl (r_ixN tb rfl rfl rfl rfl (by omega)) ?_ | refine s_val rfl rfl rfl (r_ixA tb rfl rfl rfl rfl (by omega) (by omega)) ?_ | refine s_val rfl rfl rfl (r_ixO tb rfl rfl rfl rfl (by omega)) ?_)
      | (refine s_k 36 rfl ?_; refine s_val rfl rfl rfl (r_len tb rfl rfl rfl) ?_)
      | refine s_nil ?_)
      | (refine c_g ?_; first | refine c_seq ?_ | refine c_region ?_ | (refine c_gc ?_; first | refine c_cond1 rfl zTr ?_ | refine c_cond0 rfl zTr ?_ | refine z_condd1 rfl ?_ | refine z_condd0 rfl ?_ | refine z_conddn1 rfl ?_ | refine z_conddn0 rfl ?_ | refine c_condd rfl (fun hc => ?_) (fun hc => ?_) | refine c_conddn rfl (fun hc => ?_) (fun hc => ?_) | refine c_condn rfl (fun hc => ?_) (fun hc => ?_) | refine c_cond rfl (fun hc => ?_) (fun hc => ?_)) | refine c_block ?_ | refine c_skip ?_ | refine c_exit ?_ | refine c_ret ?_)
      | (refine e_g ?_; first | refine e_then ?_ | refine e_blkn ?_ | refine e_thenx ?_ | refine e_thenr ?_ | refine e_blkr ?_ | refine e_blkx ?_ | refine e_blky rfl ?_)
      | (refine e_ret1 (by simp) rfl (re_tmp rfl) fun w hL => NewS.of hA hL m0))
end Go.Proofs.Ytnafnhpajkhgkaa
/- Yards of a pasture and hurdles within one yard, plainly. No condition. -/
namespace Go.Proofs.Ytnafnhpajkhgkaa
set_option linter.unusedVariables false
set_option linter.unusedSimpArgs false
open Go.RowKit Mem Wk
open Classical
attribute [local irreducible] bfsN bfs
/-- the name of the last of the first n lists that holds the cell -/
noncomputable def nmK (Y : List (List Sp)) : Nat → Sp → Option Nat
  | 0, _ => none
  | i + 1, u => if u ∈ Y.getD i [] then some i else nmK Y i u
noncomputable def nmV (Y : List (List Sp)) (u : Sp) : Int := (((nmK Y Y.length u).getD 0 : Nat) : Int)
/-- the cell on the other side -/
def othP (h : Hd) : Sp := ⟨nextX h.x (sdOf h.s), nextY h.y (sdOf h.s)⟩
def atP (h : Hd) : Sp := ⟨h.x, h.y⟩
noncomputable def parts (Y : List (List Sp)) (h : Hd) : Bool := !decide (nmV Y (atP h) = nmV Y (othP h))
/-! bits of rows -/
theorem bvw2 (z : BitVec 16) : IntKind.u16.wrap ((z.toNat : Nat) : Int) = (z.toNat : Int) := by
  have := z.isLt
  exact wrap_in (by simp only [Wk.lo, Wk.hi]; omega)
theorem bvo2 (z : BitVec 16) : BitVec.ofInt 16 ((z.toNat : Nat) : Int) = z := by
  rw [BitVec.ofInt_natCast]; simp
theorem bitB_get (V : BitVec 16) {x : Nat} (hx : x < 10) : bitB ((V.toNat : Nat) : Int) (x : Int) = V.getLsbD x := by
  have e1 : shrV .u16 ((V.toNat : Nat) : Int) (x : Int) = (((V >>> x).toNat : Nat) : Int) := by
    unfold shrV
    have hm : min (x : Int).toNat IntKind.u16.bits = x := by simp [IntKind.bits]; omega
    rw [hm, BitVec.toNat_ushiftRight, Nat.shiftRight_eq_div_pow, Int.ofNat_fdiv]
    congr 1
  unfold bitB andV
  rw [e1]
  show decide (IntKind.u16.wrap (((BitVec.ofInt 16 (((V >>> x).toNat : Nat) : Int) &&& BitVec.ofInt 16 1).toNat : Nat) : Int) = 1) = _
  rw [bvw2, bvo2]
  have e2 : BitVec.ofInt 16 1 = 1#16 := rfl
  rw [e2, BitVec.toNat_and]
  have e3 : (V >>> x).toNat &&& (1#16).toNat = (V >>> x).toNat % 2 := by
    show (V >>> x).toNat &&& 1 = _
    rw [Nat.and_one_is_mod]
  rw [e3, BitVec.toNat_ushiftRight, Nat.shiftRight_eq_div_pow]
  show _ = V.toNat.testBit x
  rw [Nat.testBit_eq_decide_div_mod_eq]
  congr 1
  simp only [eq_iff_iff]
  omega
theorem shl_get : ∀ x j : Fin 10, (BitVec.ofInt 16 (shlV .u16 1 (x.val : Int))).getLsbD j.val = decide (x = j) := by decide +kernel
theorem rowV_off (V : BitVec 16) (x : Int) : rowV ((V.toNat : Nat) : Int) x false = (((V &&& ~~~BitVec.ofInt 16 (shlV .u16 1 x)).toNat : Nat) : Int) := by
  unfold rowV
  rw [if_neg (by simp)]
  show IntKind.u16.wrap (((BitVec.ofInt 16 ((V.toNat : Nat) : Int) &&& ~~~BitVec.ofInt 16 (shlV .u16 1 x)).toNat : Nat) : Int) = _
  rw [bvw2, bvo2]
theorem row_ex {v : Int} (h0 : 0 ≤ v) (h1 : v ≤ 65535) : ∃ V : BitVec 16, v = ((V.toNat : Nat) : Int) := ⟨BitVec.ofNat 16 v.toNat, by
  rw [BitVec.toNat_ofNat, Nat.mod_eq_of_lt (by omega)]; omega⟩
def rowsIn (q : Nat → Int) : Prop := ∀ i, 102 ≤ i → i < 122 → 0 ≤ q i ∧ q i ≤ 65535
def hdIn (h : Hd) : Prop := (0 ≤ h.x ∧ h.x < 10) ∧ 0 ≤ h.y ∧ h.y < 10
end Go.Proofs.Ytnafnhpajkhgkaa
