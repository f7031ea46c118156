import Derived.Test.YtnafnhpajkhgkaaQW09
import Derived.Test.YtnafnhpajkhgkaaQW16
import Derived.Test.YtnafnhpajkhgkaaQW17
/- Steps from some cells: the program's table. No condition. -/
namespace Go.Proofs.Ytnafnhpajkhgkaa
set_option linter.unusedVariables false
set_option linter.unusedSimpArgs false
open Go.RowKit Mem Wk
attribute [local irreducible] Calls Wk.S Wk.C Wk.E Wk.X Wk.T Wk.anV Wk.orV Wk.andV Wk.shlV Wk.shrV Calm.wpLex bfsN
section
variable {P : Program} {ops : Array Oper} {Q : Exit → Act → World → Prop} {n : Nat} {O : List Nat} {w0 : World} {rest : List Oper} {l : List (Nat × Value)} {L : List (Nat × TypeId × Array Value)} {b0 b1 b2 b3 b4 b5 : Nat × TypeId × Array Value} {g : Nat} {T : TypeId} {k : IntKind} {o : Int} {D : Nat → Int} {cs : Array Value}
theorem absG0 (hp : GI k o D cs) (h : ∀ cs', GI k o D cs' → S P ops Q n O w0 rest l ((g, T, cs') :: L)) : S P ops Q n O w0 rest l ((g, T, cs) :: L) := h cs hp
theorem absG1 (hp : GI k o D cs) (h : ∀ cs', GI k o D cs' → S P ops Q n O w0 rest l (b0 :: (g, T, cs') :: L)) : S P ops Q n O w0 rest l (b0 :: (g, T, cs) :: L) := h cs hp
theorem absG3 (hp : GI k o D cs) (h : ∀ cs', GI k o D cs' → S P ops Q n O w0 rest l (b0 :: b1 :: b2 :: (g, T, cs') :: L)) : S P ops Q n O w0 rest l (b0 :: b1 :: b2 :: (g, T, cs) :: L) := h cs hp
end
theorem setG {k : IntKind} {o : Int} {D : Nat → Int} {c cs : Array Value} (h : GI k o D cs) (hc : c.size = 100) : Wk.Set c 0 cs cs := set_whole (by rw [h.size, hc]) h.one
def zSt : Array Value := (List.replicate 100 (Value.int .i16 0)).toArray
theorem zSt_ok : GI .i16 1 (fun _ => 1) zSt := ⟨by kernel_rfl, fun j hj => by
  show (List.replicate 100 (Value.int .i16 0)).toArray[j]? = _
  rw [List.getElem?_toArray, List.getElem?_replicate, if_pos hj]; rfl⟩
theorem zStepsV : (Try.prog.info? 77).map (·.zero) = some (some (.agg zSt)) := by kernel_rfl
theorem bSteps (w : World) : (Instr.build 77 #[]).run Try.prog w = .ok (.agg zSt) w := by kernel_rfl
def fillD (n : Nat) : Nat → Int := fun j => if j < n then 0 else 1
theorem GI.fill {cs : Array Value} {x y : Nat} (h : GI .i16 1 (fillD (y * 10 + x)) cs) (hx : x < 10) (hy : y < 10) : GI .i16 1 (fillD (y * 10 + (x + 1))) (cs.setIfInBounds (0 + y * 10 + x * 1) (.int .i16 (-1))) := by
  have := h.set (i := 0 + y * 10 + x * 1) (by omega) 0
  rw [show (0 : Int) - 1 = -1 by rfl] at this
  refine GI.wrap this fun j hj => ?_
  unfold upd fillD
  by_cases e : j = 0 + y * 10 + x * 1
  · rw [if_pos e, if_pos (by omega)]
  · rw [if_neg e]
    by_cases e2 : j < y * 10 + x
    · rw [if_pos e2, if_pos (by omega)]
    · rw [if_neg e2, if_neg (by omega)]
theorem run_eqNil (t : TypeId) (a : Addr) (m c : Nat) (w : World) (e : TypeId) (ht : Try.prog.underlying t = some (.slice e)) : (Op.equal t (.slice (some a) m c) (.slice none 0 0)).run Try.prog w = .ok false w := by
  unfold Op.equal Op.maxDepth
  rw [show (10000 : Nat) = 9999 + 1 by rfl]
  unfold Op.equalIn
  simp [run_underlying ht]
theorem gd_eqNil (op : BinOp) (t : TypeId) (x y : Operand) (a b : Option Addr) (m c m' c' : Nat) (w : World) : (eqGuard op t x y (.slice a m c) (.slice b m' c')).run Try.prog w = .ok () w := by
  unfold eqGuard
  split <;> rfl
theorem r_eqNil {n : Nat} {O : List Nat} {w0 : World} {l : List (Nat × Value)} {L : List (Nat × TypeId × Array Value)} {o : Oper} {x y : Operand} {t t' m c : Nat} {a : Addr} {e : TypeId} (ho : o.op = .binOp .eql t x y t') (hx : ev l x = some (.slice (some a) m c)) (hy : ev l y = some (.slice none 0 0)) (ht : Try.prog.underlying t = some (.slice e)) : Rn Try.prog n O w0 l L o (.bool false) := fun ac w hF hL => by
  simp [execOp, ho, hF.eval hx, hF.eval hy, gd_eqNil, binOp, run_eqNil _ _ _ _ w e ht]
theorem flS_one (l : List Sp) : ∀ u ∈ flS l, u.oneCell' = true := by
  intro u hu
  unfold flS at hu
  obtain ⟨c, hc, hu⟩ := List.mem_flatten.1 hu
  obtain ⟨s, _, rfl⟩ := List.mem_map.1 hc
  simp [Sp.cells] at hu
  rcases hu with rfl | rfl <;> rfl
theorem Wk.Ap.cx {n cap : Nat} {cur : Array Value} {l : List Sp} (h : Ap 2 n cap cur (flS l)) {i : Nat} {s : Sp} (hi : l[i]? = some s) : cur[0 + i * 2 + 0]? = some (.int .i8 s.x) := by
  obtain ⟨h1, h2⟩ := h.spot hi
  have e : (cur.extract (0 + i * 2) (0 + i * 2 + 2))[0]? = some (.int .i8 s.x) := by rw [h2]; rfl
  rw [Array.getElem?_extract] at e
  split at e
  · exact e
  · cases e
theorem Wk.Ap.cy {n cap : Nat} {cur : Array Value} {l : List Sp} (h : Ap 2 n cap cur (flS l)) {i : Nat} {s : Sp} (hi : l[i]? = some s) : cur[0 + i * 2 + 1]? = some (.int .i8 s.y) := by
  obtain ⟨h1, h2⟩ := h.spot hi
  have e : (cur.extract (0 + i * 2) (0 + i * 2 + 2))[1]? = some (.int .i8 s.y) := by rw [h2]; rfl
  rw [Array.getElem?_extract] at e
  split at e
  · exact e
  · cases e
theorem Wk.Ap.cnt {n cap : Nat} {cur : Array Value} {l : List Sp} (h : Ap 2 n cap cur (flS l)) : n = l.length := by
  have h1 := h.len; rw [flS_len] at h1; omega
set_option maxRecDepth 100000 in
theorem clone_any (l : List Sp) (b off cap : Nat) (w : World) (hS : SlA [] w 2 (some ⟨b, off, none⟩) (l.map Sp.cells)) (hn : l.length ≤ 1048576) :
    Calls Try.prog 51 #[.slice (some ⟨b, off, none⟩) l.length cap] w (NewS 52 2 (flS l) w) := by
  refine enter1 Try.func51 rfl rfl rfl (Own.start w) ?_
  repeat' (first
    | (refine s_g ?_; first
      | (refine s_k 0 rfl ?_; refine s_val rfl rfl rfl (r_move rfl rfl) ?_)
      | (refine s_k 1 rfl ?_; refine s_val rfl rfl rfl (r_assign rfl rfl) ?_)
      | (refine s_k 13 rfl ?_; first | refine s_val rfl rfl rfl (r_eqNil rfl rfl rfl uSpotS) ?_ | refine s_val rfl rfl rfl (r_eql rfl rfl rfl) ?_)
      | (refine s_k 36 rfl ?_; refine s_appS (pre := []) (post := []) rfl uSpotS iSpot rfl (by omega) (Ap.nil 2) hS (by simp) rfl rfl (flS_one l) (by unfold maxLen; omega) (by omega) rfl rfl rfl fun g cap cur hA => ?_)
      | (refine s_k 6 rfl ?_; refine s_bsl rfl rfl (fun w => slSpot0 w) rfl rfl rfl fun blk => ?_)
      | refine s_nil ?_)
    | (refine c_g ?_; first | refine c_seq ?_ | refine c_region ?_ | (refine c_gc ?_; first | refine c_cond1 rfl zTr ?_ | refine c_cond0 rfl zTr ?_ | refine z_condd1 rfl ?_ | refine z_condd0 rfl ?_ | refine z_conddn1 rfl ?_ | refine z_conddn0 rfl ?_ | refine c_condd rfl (fun hc => ?_) (fun hc => ?_) | refine c_conddn rfl (fun hc => ?_) (fun hc => ?_) | refine c_condn rfl (fun hc => ?_) (fun hc => ?_) | refine c_cond rfl (fun hc => ?_) (fun hc => ?_)) | refine c_block ?_ | refine c_skip ?_ | refine c_exit ?_ | refine c_ret ?_)
    | (refine e_g ?_; first | refine e_then ?_ | refine e_blkn ?_ | refine e_thenx ?_ | refine e_thenr ?_ | refine e_blkr ?_ | refine e_blkx ?_ | refine e_blky rfl ?_)
    | (refine e_ret1 (by simp) rfl (re_tmp rfl) fun w hL => NewS.of (by simpa [flS] using hA) hL m0))
set_option maxRecDepth 100000 in
set_option maxHeartbeats 1600000 in
theorem far_any (p : Nat → Int) (cs : Array Value) (l : List Sp) (b off cap : Nat) (w : World) (hp : Pv p cs) (hl : ∀ c ∈ l, inR c) (hn : l.length ≤ 1048576) (hS : SlA [] w 2 (some ⟨b, off, none⟩) (l.map Sp.cells)) :
    Calls Try.prog 40 #[.agg cs, .slice (some ⟨b, off, none⟩) l.length cap] w fun e w' => e = .returned (.agg (giA .i16 1 (stepsP p l).1)) ∧ Below w.heap.size w w' := by
  have hsz := hp.size
  have hbi := bi0 (nb := nbP p) hl
  have hnb := nbP_ok p
  refine enter2 Try.func40 rfl rfl rfl (Own.start w) ?_
  repeat' (first
    | (refine s_g ?_; first
      | (refine s_gd rfl ?_; first | refine s_gd1 rfl rfl zTr ?_ | refine s_gd0 rfl rfl rfl zTr ?_ | refine s_gd00 rfl rfl zTr ?_ | refine s_gp1 rfl rfl rfl (fun hc => ?_) (fun hc => ?_) | refine s_gp0 rfl rfl rfl (fun hc => ?_) (fun hc => ?_) | refine s_gnp1 rfl rfl rfl (fun hc => ?_) (fun hc => ?_) | refine s_gnp0 rfl rfl rfl (fun hc => ?_) (fun hc => ?_) | refine s_gb1 rfl rfl rfl (fun hc => ?_) (fun hc => ?_) | refine s_gb0 rfl rfl rfl (fun hc => ?_) (fun hc => ?_) | refine s_gnb1 rfl rfl rfl (fun hc => ?_) (fun hc => ?_) | refine s_gnb0 rfl rfl rfl (fun hc => ?_) (fun hc => ?_))
      | (refine s_k 0 rfl ?_; refine s_val rfl rfl rfl (r_move rfl rfl) ?_)
      | (refine s_k 23 rfl ?_; first | refine s_val rfl rfl rfl (r_field tb rfl rfl rfl) ?_ | refine s_val rfl rfl rfl (r_fieldS tb rfl rfl rfl) ?_)
      | (refine s_k 8 rfl ?_; first | (refine' s_val rfl rfl rfl (r_ldv rfl rfl ?qm ?qv) ?_; (case qm => (exact zMm)); (case qv => (exact zLe))) | (refine' s_val rfl rfl rfl (r_ldo rfl rfl ?qw (by simp) ?qv) ?_; (case qw => assumption); (case qv => (exact zLe))))
      | (refine s_k 1 rfl ?_; refine s_val rfl rfl rfl (r_assign rfl rfl) ?_)
      | (refine s_k 13 rfl ?_; first | refine s_val rfl rfl rfl (r_lss rfl rfl rfl) ?_ | refine s_val rfl rfl rfl (r_add rfl rfl rfl (wrap_in (by simp only [lo, hi]; omega))) ?_)
      | (refine s_k 2 rfl ?_; first | refine s_val rfl rfl rfl (r_pick1 rfl rfl zTr rfl) ?_ | refine s_val rfl rfl rfl (r_pick0 rfl rfl zTr rfl) ?_)
      | (refine s_k 25 rfl ?_; first | refine s_val rfl rfl rfl (r_ixN tb rfl rfl rfl rfl (by omega)) ?_ | refine s_val rfl rfl rfl (r_ixA tb rfl rfl rfl rfl (by omega) (by omega)) ?_ | refine s_val rfl rfl rfl (r_ixO tb rfl rfl rfl rfl (by omega)) ?_)
      | (refine s_k 4 rfl ?_; first | refine s_boxA rfl rfl rfl rfl rfl fun blk => ?_ | refine s_box1 rfl rfl rfl rfl rfl rfl fun blk => ?_)
      | (refine s_k 9 rfl ?_; (first | refine s_st1 tb rfl rfl rfl rfl rfl rfl rfl rfl ?_ | refine s_stA tb rfl rfl rfl rfl (by first | rfl | assumption | (apply Pv.size; assumption)) rfl rfl ?_); (first | refine' st0 ?qs ?_ | refine' st1 ?qs ?_ | refine' st2 ?qs ?_ | refine' st3 ?qs ?_ | refine' st4 ?qs ?_ | refine' st5 ?qs ?_ | refine' st6 ?qs ?_ | refine' st7 ?qs ?_ | refine' st8 ?qs ?_ | refine' st9 ?qs ?_ | refine' st10 ?qs ?_ | refine' st11 ?qs ?_); (case qs => (first | exact setG zSt_ok rfl | exact zSet)))
      | (refine s_k 3 rfl ?_; refine s_allocA (t := 77) rfl zStepsV rfl rfl rfl fun blk => ?_)
      | (refine s_k 36 rfl ?_; refine s_val rfl rfl rfl (r_len tb rfl rfl rfl) ?_)
      | (refine s_k 5 rfl ?_; refine s_val rfl rfl rfl (r_build rfl rfl (fun w => bSteps w)) ?_)
      | refine s_nil ?_)
    | (refine c_g ?_; first | refine c_seq ?_ | refine c_region ?_ | (refine c_gc ?_; first | refine c_cond1 rfl zTr ?_ | refine c_cond0 rfl zTr ?_ | refine z_condd1 rfl ?_ | refine z_condd0 rfl ?_ | refine z_conddn1 rfl ?_ | refine z_conddn0 rfl ?_ | refine c_condd rfl (fun hc => ?_) (fun hc => ?_) | refine c_conddn rfl (fun hc => ?_) (fun hc => ?_) | refine c_condn rfl (fun hc => ?_) (fun hc => ?_) | refine c_cond rfl (fun hc => ?_) (fun hc => ?_)) | refine c_block ?_ | refine c_skip ?_ | refine c_exit ?_ | refine c_ret ?_)
    | (refine e_g ?_; first | refine e_then ?_ | refine e_blkn ?_ | refine e_thenx ?_ | refine e_thenr ?_ | refine e_blkr ?_ | refine e_blkx ?_ | refine e_blky rfl ?_))
  rename_i b2 b4
  refine c_loop (ι := Nat × Array Value) (fun i => 10 - i.1) (fun i => i.1 ≤ 10 ∧ GI .i16 1 (fillD (i.1 * 10)) i.2) (fun i => [(15, .int .i64 (i.1 : Int)), (1, .slice (some ⟨b, off, none⟩) l.length cap), (2, .pointer (some ⟨b2, 0, none⟩)), (4, .pointer (some ⟨b4, 0, none⟩)), (5, .pointer (some ⟨blk, 0, none⟩))]) (fun i => [(blk, 77, i.2), (b4, 77, zSt), (b2, 32, cs)]) (0, zSt) ⟨by simp, zSt_ok.wrap (fun j _ => by simp [fillD])⟩ ?hs rfl ?_
  case hs => (repeat' (first | exact sub_nil | refine sub_cons rfl ?_))
  rintro ⟨y, c1⟩ ⟨hy, hq⟩
  simp only at hy hq ⊢
  by_cases hlt : y < 10
  · repeat' (first
      | (refine s_g ?_; first
      | (refine s_gd rfl ?_; first | refine s_gd1 rfl rfl zTr ?_ | refine s_gd0 rfl rfl rfl zTr ?_ | refine s_gd00 rfl rfl zTr ?_ | refine s_gp1 rfl rfl rfl (fun hc => ?_) (fun hc => ?_) | refine s_gp0 rfl rfl rfl (fun hc => ?_) (fun hc => ?_) | refine s_gnp1 rfl rfl rfl (fun hc => ?_) (fun hc => ?_) | refine s_gnp0 rfl rfl rfl (fun hc => ?_) (fun hc => ?_) | refine s_gb1 rfl rfl rfl (fun hc => ?_) (fun hc => ?_) | refine s_gb0 rfl rfl rfl (fun hc => ?_) (fun hc => ?_) | refine s_gnb1 rfl rfl rfl (fun hc => ?_) (fun hc => ?_) | refine s_gnb0 rfl rfl rfl (fun hc => ?_) (fun hc => ?_))
      | (refine s_k 0 rfl ?_; refine s_val rfl rfl rfl (r_move rfl rfl) ?_)
      | (refine s_k 23 rfl ?_; first | refine s_val rfl rfl rfl (r_field tb rfl rfl rfl) ?_ | refine s_val rfl rfl rfl (r_fieldS tb rfl rfl rfl) ?_)
      | (refine s_k 8 rfl ?_; first | (refine' s_val rfl rfl rfl (r_ldv rfl rfl ?qm ?qv) ?_; (case qm => (exact zMm)); (case qv => (exact zLe))) | (refine' s_val rfl rfl rfl (r_ldo rfl rfl ?qw (by simp) ?qv) ?_; (case qw => assumption); (case qv => (exact zLe))))
      | (refine s_k 1 rfl ?_; refine s_val rfl rfl rfl (r_assign rfl rfl) ?_)
      | (refine s_k 13 rfl ?_; first | refine s_val rfl rfl rfl (r_lss rfl rfl rfl) ?_ | refine s_val rfl rfl rfl (r_add rfl rfl rfl (wrap_in (by simp only [lo, hi]; omega))) ?_)
      | (refine s_k 2 rfl ?_; first | refine s_val rfl rfl rfl (r_pick1 rfl rfl zTr rfl) ?_ | refine s_val rfl rfl rfl (r_pick0 rfl rfl zTr rfl) ?_)
      | (refine s_k 25 rfl ?_; first | refine s_val rfl rfl rfl (r_ixN tb rfl rfl rfl rfl (by omega)) ?_ | refine s_val rfl rfl rfl (r_ixA tb rfl rfl rfl rfl (by omega) (by omega)) ?_ | refine s_val rfl rfl rfl (r_ixO tb rfl rfl rfl rfl (by omega)) ?_)
      | (refine s_k 4 rfl ?_; first | refine s_boxA rfl rfl rfl rfl rfl fun blk => ?_ | refine s_box1 rfl rfl rfl rfl rfl rfl fun blk => ?_)
      | (refine s_k 9 rfl ?_; (first | refine s_st1 tb rfl rfl rfl rfl rfl rfl rfl rfl ?_ | refine s_stA tb rfl rfl rfl rfl (by first | rfl | assumption | (apply Pv.size; assumption)) rfl rfl ?_); (first | refine' st0 ?qs ?_ | refine' st1 ?qs ?_ | refine' st2 ?qs ?_ | refine' st3 ?qs ?_ | refine' st4 ?qs ?_ | refine' st5 ?qs ?_ | refine' st6 ?qs ?_ | refine' st7 ?qs ?_ | refine' st8 ?qs ?_ | refine' st9 ?qs ?_ | refine' st10 ?qs ?_ | refine' st11 ?qs ?_); (case qs => (first | exact zSet)))
      | (refine s_k 36 rfl ?_; refine s_val rfl rfl rfl (r_len tb rfl rfl rfl) ?_)
      | refine s_nil ?_)
      | (refine c_g ?_; first | refine c_seq ?_ | refine c_region ?_ | (refine c_gc ?_; first | refine c_cond1 rfl zTr ?_ | refine c_cond0 rfl zTr ?_ | refine z_condd1 rfl ?_ | refine z_condd0 rfl ?_ | refine z_conddn1 rfl ?_ | refine z_conddn0 rfl ?_ | refine c_condd rfl (fun hc => ?_) (fun hc => ?_) | refine c_conddn rfl (fun hc => ?_) (fun hc => ?_) | refine c_condn rfl (fun hc => ?_) (fun hc => ?_) | refine c_cond rfl (fun hc => ?_) (fun hc => ?_)) | refine c_block ?_ | refine c_skip ?_ | refine c_exit ?_ | refine c_ret ?_)
      | (refine e_g ?_; first | refine e_then ?_ | refine e_blkn ?_ | refine e_thenx ?_ | refine e_thenr ?_ | refine e_blkr ?_ | refine e_blkx ?_ | refine e_blky rfl ?_))
    refine c_loop (ι := Nat × Array Value) (fun i => 10 - i.1) (fun i => i.1 ≤ 10 ∧ GI .i16 1 (fillD (y * 10 + i.1)) i.2) (fun i => [(18, .int .i64 (i.1 : Int)), (6, .int .i64 (y : Int)), (15, .int .i64 (y : Int)), (1, .slice (some ⟨b, off, none⟩) l.length cap), (2, .pointer (some ⟨b2, 0, none⟩)), (4, .pointer (some ⟨b4, 0, none⟩)), (5, .pointer (some ⟨blk, 0, none⟩))]) (fun i => [(blk, 77, i.2), (b4, 77, zSt), (b2, 32, cs)]) (0, c1) ⟨by simp, hq⟩ ?hs rfl ?_
    case hs => (repeat' (first | exact sub_nil | refine sub_cons rfl ?_))
    rintro ⟨x, c2⟩ ⟨hx, hq⟩
    simp only at hx hq ⊢
    have hqs := hq.size
    by_cases hltx : x < 10
    · repeat' (first
        | (refine s_g ?_; first
      | (refine s_gd rfl ?_; first | refine s_gd1 rfl rfl zTr ?_ | refine s_gd0 rfl rfl rfl zTr ?_ | refine s_gd00 rfl rfl zTr ?_ | refine s_gp1 rfl rfl rfl (fun hc => ?_) (fun hc => ?_) | refine s_gp0 rfl rfl rfl (fun hc => ?_) (fun hc => ?_) | refine s_gnp1 rfl rfl rfl (fun hc => ?_) (fun hc => ?_) | refine s_gnp0 rfl rfl rfl (fun hc => ?_) (fun hc => ?_) | refine s_gb1 rfl rfl rfl (fun hc => ?_) (fun hc => ?_) | refine s_gb0 rfl rfl rfl (fun hc => ?_) (fun hc => ?_) | refine s_gnb1 rfl rfl rfl (fun hc => ?_) (fun hc => ?_) | refine s_gnb0 rfl rfl rfl (fun hc => ?_) (fun hc => ?_))
      | (refine s_k 0 rfl ?_; refine s_val rfl rfl rfl (r_move rfl rfl) ?_)
      | (refine s_k 23 rfl ?_; first | refine s_val rfl rfl rfl (r_field tb rfl rfl rfl) ?_ | refine s_val rfl rfl rfl (r_fieldS tb rfl rfl rfl) ?_)
      | (refine s_k 8 rfl ?_; first | (refine' s_val rfl rfl rfl (r_ldv rfl rfl ?qm ?qv) ?_; (case qm => (exact zMm)); (case qv => (exact zLe))) | (refine' s_val rfl rfl rfl (r_ldo rfl rfl ?qw (by simp) ?qv) ?_; (case qw => assumption); (case qv => (exact zLe))))
      | (refine s_k 1 rfl ?_; refine s_val rfl rfl rfl (r_assign rfl rfl) ?_)
      | (refine s_k 13 rfl ?_; first | refine s_val rfl rfl rfl (r_lss rfl rfl rfl) ?_ | refine s_val rfl rfl rfl (r_add rfl rfl rfl (wrap_in (by simp only [lo, hi]; omega))) ?_)
      | (refine s_k 2 rfl ?_; first | refine s_val rfl rfl rfl (r_pick1 rfl rfl zTr rfl) ?_ | refine s_val rfl rfl rfl (r_pick0 rfl rfl zTr rfl) ?_)
      | (refine s_k 25 rfl ?_; first | refine s_val rfl rfl rfl (r_ixN tb rfl rfl rfl rfl (by omega)) ?_ | refine s_val rfl rfl rfl (r_ixA tb rfl rfl rfl rfl (by omega) (by omega)) ?_ | refine s_val rfl rfl rfl (r_ixO tb rfl rfl rfl rfl (by omega)) ?_)
      | (refine s_k 4 rfl ?_; first | refine s_boxA rfl rfl rfl rfl rfl fun blk => ?_ | refine s_box1 rfl rfl rfl rfl rfl rfl fun blk => ?_)
      | (refine s_k 9 rfl ?_; (first | refine s_st1 tb rfl rfl rfl rfl rfl rfl rfl rfl ?_ | refine s_stA tb rfl rfl rfl rfl (by first | rfl | assumption | (apply Pv.size; assumption)) rfl rfl ?_); (first | refine' st0 ?qs ?_ | refine' st1 ?qs ?_ | refine' st2 ?qs ?_ | refine' st3 ?qs ?_ | refine' st4 ?qs ?_ | refine' st5 ?qs ?_ | refine' st6 ?qs ?_ | refine' st7 ?qs ?_ | refine' st8 ?qs ?_ | refine' st9 ?qs ?_ | refine' st10 ?qs ?_ | refine' st11 ?qs ?_); (case qs => (first | exact set_one (by omega) rfl | exact zSet)); (first | (refine absG0 (GI.fill hq hltx hlt) fun c3 hq3 => ?_) | skip))
      | (refine s_k 36 rfl ?_; refine s_val rfl rfl rfl (r_len tb rfl rfl rfl) ?_)
      | refine s_nil ?_)
        | (refine c_g ?_; first | refine c_seq ?_ | refine c_region ?_ | (refine c_gc ?_; first | refine c_cond1 rfl zTr ?_ | refine c_cond0 rfl zTr ?_ | refine z_condd1 rfl ?_ | refine z_condd0 rfl ?_ | refine z_conddn1 rfl ?_ | refine z_conddn0 rfl ?_ | refine c_condd rfl (fun hc => ?_) (fun hc => ?_) | refine c_conddn rfl (fun hc => ?_) (fun hc => ?_) | refine c_condn rfl (fun hc => ?_) (fun hc => ?_) | refine c_cond rfl (fun hc => ?_) (fun hc => ?_)) | refine c_block ?_ | refine c_skip ?_ | refine c_exit ?_ | refine c_ret ?_)
        | (refine e_g ?_; first | refine e_then ?_ | refine e_blkn ?_ | refine e_thenx ?_ | refine e_thenr ?_ | refine e_blkr ?_ | refine e_blkx ?_ | refine e_blky rfl ?_)
        | (refine e_round (x + 1, c3) (by simp; omega) ⟨by simp; omega, hq3⟩ ?_ rfl; (repeat' (first | exact sub_nil | refine sub_cons rfl ?_))))
    · have hx10 : x = 10 := by omega
      subst hx10
      repeat' (first
        | (refine s_g ?_; first
      | (refine s_gd rfl ?_; first | refine s_gd1 rfl rfl zTr ?_ | refine s_gd0 rfl rfl rfl zTr ?_ | refine s_gd00 rfl rfl zTr ?_ | refine s_gp1 rfl rfl rfl (fun hc => ?_) (fun hc => ?_) | refine s_gp0 rfl rfl rfl (fun hc => ?_) (fun hc => ?_) | refine s_gnp1 rfl rfl rfl (fun hc => ?_) (fun hc => ?_) | refine s_gnp0 rfl rfl rfl (fun hc => ?_) (fun hc => ?_) | refine s_gb1 rfl rfl rfl (fun hc => ?_) (fun hc => ?_) | refine s_gb0 rfl rfl rfl (fun hc => ?_) (fun hc => ?_) | refine s_gnb1 rfl rfl rfl (fun hc => ?_) (fun hc => ?_) | refine s_gnb0 rfl rfl rfl (fun hc => ?_) (fun hc => ?_))
      | (refine s_k 0 rfl ?_; refine s_val rfl rfl rfl (r_move rfl rfl) ?_)
      | (refine s_k 23 rfl ?_; first | refine s_val rfl rfl rfl (r_field tb rfl rfl rfl) ?_ | refine s_val rfl rfl rfl (r_fieldS tb rfl rfl rfl) ?_)
      | (refine s_k 8 rfl ?_; first | (refine' s_val rfl rfl rfl (r_ldv rfl rfl ?qm ?qv) ?_; (case qm => (exact zMm)); (case qv => (exact zLe))) | (refine' s_val rfl rfl rfl (r_ldo rfl rfl ?qw (by simp) ?qv) ?_; (case qw => assumption); (case qv => (exact zLe))))
      | (refine s_k 1 rfl ?_; refine s_val rfl rfl rfl (r_assign rfl rfl) ?_)
      | (refine s_k 13 rfl ?_; first | refine s_val rfl rfl rfl (r_lss rfl rfl rfl) ?_ | refine s_val rfl rfl rfl (r_add rfl rfl rfl (wrap_in (by simp only [lo, hi]; omega))) ?_)
      | (refine s_k 2 rfl ?_; first | refine s_val rfl rfl rfl (r_pick1 rfl rfl zTr rfl) ?_ | refine s_val rfl rfl rfl (r_pick0 rfl rfl zTr rfl) ?_)
      | (refine s_k 25 rfl ?_; first | refine s_val rfl rfl rfl (r_ixN tb rfl rfl rfl rfl (by omega)) ?_ | refine s_val rfl rfl rfl (r_ixA tb rfl rfl rfl rfl (by omega) (by omega)) ?_ | refine s_val rfl rfl rfl (r_ixO tb rfl rfl rfl rfl (by omega)) ?_)
      | (refine s_k 4 rfl ?_; first | refine s_boxA rfl rfl rfl rfl rfl fun blk => ?_ | refine s_box1 rfl rfl rfl rfl rfl rfl fun blk => ?_)
      | (refine s_k 9 rfl ?_; (first | refine s_st1 tb rfl rfl rfl rfl rfl rfl rfl rfl ?_ | refine s_stA tb rfl rfl rfl rfl (by first | rfl | assumption | (apply Pv.size; assumption)) rfl rfl ?_); (first | refine' st0 ?qs ?_ | refine' st1 ?qs ?_ | refine' st2 ?qs ?_ | refine' st3 ?qs ?_ | refine' st4 ?qs ?_ | refine' st5 ?qs ?_ | refine' st6 ?qs ?_ | refine' st7 ?qs ?_ | refine' st8 ?qs ?_ | refine' st9 ?qs ?_ | refine' st10 ?qs ?_ | refine' st11 ?qs ?_); (case qs => (first | exact zSet)))
      | (refine s_k 36 rfl ?_; refine s_val rfl rfl rfl (r_len tb rfl rfl rfl) ?_)
      | refine s_nil ?_)
        | (refine c_g ?_; first | refine c_seq ?_ | refine c_region ?_ | (refine c_gc ?_; first | refine c_cond1 rfl zTr ?_ | refine c_cond0 rfl zTr ?_ | refine z_condd1 rfl ?_ | refine z_condd0 rfl ?_ | refine z_conddn1 rfl ?_ | refine z_conddn0 rfl ?_ | refine c_condd rfl (fun hc => ?_) (fun hc => ?_) | refine c_conddn rfl (fun hc => ?_) (fun hc => ?_) | refine c_condn rfl (fun hc => ?_) (fun hc => ?_) | refine c_cond rfl (fun hc => ?_) (fun hc => ?_)) | refine c_block ?_ | refine c_skip ?_ | refine c_exit ?_ | refine c_ret ?_)
        | (refine e_g ?_; first | refine e_then ?_ | refine e_blkn ?_ | refine e_thenx ?_ | refine e_thenr ?_ | refine e_blkr ?_ | refine e_blkx ?_ | refine e_blky rfl ?_)
        | (refine e_round (y + 1, c2) (by simp; omega) ⟨by simp; omega, by rw [Nat.succ_mul]; exact hq⟩ ?_ rfl; (repeat' (first | exact sub_nil | refine sub_cons rfl ?_))))
  · have hy10 : y = 10 := by omega
    subst hy10
    have hq0 : GI .i16 1 (tab1 (l.take 0)) c1 := hq.wrap fun j hj => by unfold fillD; rw [if_pos (by omega)]; rfl
    clear hq
    repeat' (first
      | (refine s_g ?_; first
      | (refine s_gd rfl ?_; first | refine s_gd1 rfl rfl zTr ?_ | refine s_gd0 rfl rfl rfl zTr ?_ | refine s_gd00 rfl rfl zTr ?_ | refine s_gp1 rfl rfl rfl (fun hc => ?_) (fun hc => ?_) | refine s_gp0 rfl rfl rfl (fun hc => ?_) (fun hc => ?_) | refine s_gnp1 rfl rfl rfl (fun hc => ?_) (fun hc => ?_) | refine s_gnp0 rfl rfl rfl (fun hc => ?_) (fun hc => ?_) | refine s_gb1 rfl rfl rfl (fun hc => ?_) (fun hc => ?_) | refine s_gb0 rfl rfl rfl (fun hc => ?_) (fun hc => ?_) | refine s_gnb1 rfl rfl rfl (fun hc => ?_) (fun hc => ?_) | refine s_gnb0 rfl rfl rfl (fun hc => ?_) (fun hc => ?_))
      | (refine s_k 0 rfl ?_; refine s_val rfl rfl rfl (r_move rfl rfl) ?_)
      | (refine s_k 23 rfl ?_; first | refine s_val rfl rfl rfl (r_field tb rfl rfl rfl) ?_ | refine s_val rfl rfl rfl (r_fieldS tb rfl rfl rfl) ?_)
      | (refine s_k 8 rfl ?_; first | (refine' s_val rfl rfl rfl (r_ldv rfl rfl ?qm ?qv) ?_; (case qm => (exact zMm)); (case qv => (exact zLe))) | (refine' s_val rfl rfl rfl (r_ldo rfl rfl ?qw (by simp) ?qv) ?_; (case qw => assumption); (case qv => (exact zLe))))
      | (refine s_k 1 rfl ?_; refine s_val rfl rfl rfl (r_assign rfl rfl) ?_)
      | (refine s_k 13 rfl ?_; first | refine s_val rfl rfl rfl (r_lss rfl rfl rfl) ?_ | refine s_val rfl rfl rfl (r_add rfl rfl rfl (wrap_in (by simp only [lo, hi]; omega))) ?_)
      | (refine s_k 2 rfl ?_; first | refine s_val rfl rfl rfl (r_pick1 rfl rfl zTr rfl) ?_ | refine s_val rfl rfl rfl (r_pick0 rfl rfl zTr rfl) ?_)
      | (refine s_k 25 rfl ?_; first | refine s_val rfl rfl rfl (r_ixN tb rfl rfl rfl rfl (by omega)) ?_ | refine s_val rfl rfl rfl (r_ixA tb rfl rfl rfl rfl (by omega) (by omega)) ?_ | refine s_val rfl rfl rfl (r_ixO tb rfl rfl rfl rfl (by omega)) ?_)
      | (refine s_k 4 rfl ?_; first | refine s_boxA rfl rfl rfl rfl rfl fun blk => ?_ | refine s_box1 rfl rfl rfl rfl rfl rfl fun blk => ?_)
      | (refine s_k 9 rfl ?_; (first | refine s_st1 tb rfl rfl rfl rfl rfl rfl rfl rfl ?_ | refine s_stA tb rfl rfl rfl rfl (by first | rfl | assumption | (apply Pv.size; assumption)) rfl rfl ?_); (first | refine' st0 ?qs ?_ | refine' st1 ?qs ?_ | refine' st2 ?qs ?_ | refine' st3 ?qs ?_ | refine' st4 ?qs ?_ | refine' st5 ?qs ?_ | refine' st6 ?qs ?_ | refine' st7 ?qs ?_ | refine' st8 ?qs ?_ | refine' st9 ?qs ?_ | refine' st10 ?qs ?_ | refine' st11 ?qs ?_); (case qs => (first | exact zSet)))
      | (refine s_k 36 rfl ?_; refine s_val rfl rfl rfl (r_len tb rfl rfl rfl) ?_)
      | refine s_nil ?_)
      | (refine c_g ?_; first | refine c_seq ?_ | refine c_region ?_ | (refine c_gc ?_; first | refine c_cond1 rfl zTr ?_ | refine c_cond0 rfl zTr ?_ | refine z_condd1 rfl ?_ | refine z_condd0 rfl ?_ | refine z_conddn1 rfl ?_ | refine z_conddn0 rfl ?_ | refine c_condd rfl (fun hc => ?_) (fun hc => ?_) | refine c_conddn rfl (fun hc => ?_) (fun hc => ?_) | refine c_condn rfl (fun hc => ?_) (fun hc => ?_) | refine c_cond rfl (fun hc => ?_) (fun hc => ?_)) | refine c_block ?_ | refine c_skip ?_ | refine c_exit ?_ | refine c_ret ?_)
      | (refine e_g ?_; first | refine e_then ?_ | refine e_blkn ?_ | refine e_thenx ?_ | refine e_thenr ?_ | refine e_blkr ?_ | refine e_blkx ?_ | refine e_blky rfl ?_))
    refine c_loop (ι := Nat × Array Value) (fun i => l.length - i.1) (fun i => i.1 ≤ l.length ∧ GI .i16 1 (tab1 (l.take i.1)) i.2) (fun i => [(29, .int .i64 (i.1 : Int)), (28, .int .i64 (l.length : Int)), (27, .slice (some ⟨b, off, none⟩) l.length cap), (1, .slice (some ⟨b, off, none⟩) l.length cap), (2, .pointer (some ⟨b2, 0, none⟩)), (4, .pointer (some ⟨b4, 0, none⟩)), (5, .pointer (some ⟨blk, 0, none⟩))]) (fun i => [(blk, 77, i.2), (b4, 77, zSt), (b2, 32, cs)]) (0, c1) ⟨by simp, hq0⟩ ?hs rfl ?_
    case hs => (repeat' (first | exact sub_nil | refine sub_cons rfl ?_))
    rintro ⟨i, c2⟩ ⟨hi1, hq⟩
    simp only at hi1 hq ⊢
    have hqs := hq.size
    by_cases hlt : i < l.length
    · have hx : l[i]? = some l[i] := List.getElem?_eq_getElem hlt
      have hr := hl _ (List.getElem_mem hlt)
      have hx' : (l.map Sp.cells)[i]? = some l[i].cells := by simp [hx]
      have hlt' : i < (l.map Sp.cells).length := by simpa using hlt
      have hts : tab1 (l.take (i + 1)) = upd (tab1 (l.take i)) (ci l[i]) 1 := by rw [List.take_add_one, hx]; exact tab1_snoc _ _
      generalize l[i] = s at *
      have hx10 : 0 ≤ s.x ∧ s.x < 10 := ⟨hr.1, hr.2.1⟩
      have hy10 : 0 ≤ s.y ∧ s.y < 10 := hr.2.2
      repeat' (first
        | (refine s_g ?_; first
      | (refine s_gd rfl ?_; first | refine s_gd1 rfl rfl zTr ?_ | refine s_gd0 rfl rfl rfl zTr ?_ | refine s_gd00 rfl rfl zTr ?_ | refine s_gp1 rfl rfl rfl (fun hc => ?_) (fun hc => ?_) | refine s_gp0 rfl rfl rfl (fun hc => ?_) (fun hc => ?_) | refine s_gnp1 rfl rfl rfl (fun hc => ?_) (fun hc => ?_) | refine s_gnp0 rfl rfl rfl (fun hc => ?_) (fun hc => ?_) | refine s_gb1 rfl rfl rfl (fun hc => ?_) (fun hc => ?_) | refine s_gb0 rfl rfl rfl (fun hc => ?_) (fun hc => ?_) | refine s_gnb1 rfl rfl rfl (fun hc => ?_) (fun hc => ?_) | refine s_gnb0 rfl rfl rfl (fun hc => ?_) (fun hc => ?_))
      | (refine s_k 0 rfl ?_; refine s_val rfl rfl rfl (r_move rfl rfl) ?_)
      | (refine s_k 23 rfl ?_; first | refine s_val rfl rfl rfl (r_field tb rfl rfl rfl) ?_ | refine s_val rfl rfl rfl (r_fieldS tb rfl rfl rfl) ?_)
      | (refine s_k 8 rfl ?_; first | refine s_val rfl rfl rfl (r_ldS tb rfl hS rfl hx' rfl) ?_ | (refine' s_val rfl rfl rfl (r_ldv rfl rfl ?qm ?qv) ?_; (case qm => (exact zMm)); (case qv => (exact zLe))) | (refine' s_val rfl rfl rfl (r_ldo rfl rfl ?qw (by simp) ?qv) ?_; (case qw => assumption); (case qv => (exact zLe))))
      | (refine s_k 1 rfl ?_; refine s_val rfl rfl rfl (r_assign rfl rfl) ?_)
      | (refine s_k 13 rfl ?_; first | refine s_val rfl rfl rfl (r_lss rfl rfl rfl) ?_ | refine s_val rfl rfl rfl (r_add rfl rfl rfl (wrap_in (by simp only [lo, hi]; omega))) ?_)
      | (refine s_k 2 rfl ?_; first | refine s_val rfl rfl rfl (r_pick1 rfl rfl zTr rfl) ?_ | refine s_val rfl rfl rfl (r_pick0 rfl rfl zTr rfl) ?_)
      | (refine s_k 25 rfl ?_; first | refine s_val rfl rfl rfl (r_ixS tb rfl hS rfl rfl rfl (by simp) hlt') ?_ | refine s_val rfl rfl rfl (r_ixN tb rfl rfl rfl rfl (by omega)) ?_ | refine s_val rfl rfl rfl (r_ixA tb rfl rfl rfl rfl (by omega) (by omega)) ?_ | refine s_val rfl rfl rfl (r_ixO tb rfl rfl rfl rfl (by omega)) ?_)
      | (refine s_k 4 rfl ?_; first | refine s_boxA rfl rfl rfl rfl rfl fun blk => ?_ | refine s_box1 rfl rfl rfl rfl rfl rfl fun blk => ?_)
      | (refine s_k 9 rfl ?_; (first | refine s_st1 tb rfl rfl rfl rfl rfl rfl rfl rfl ?_ | refine s_stA tb rfl rfl rfl rfl (by first | rfl | assumption | (apply Pv.size; assumption)) rfl rfl ?_); (first | refine' st0 ?qs ?_ | refine' st1 ?qs ?_ | refine' st2 ?qs ?_ | refine' st3 ?qs ?_ | refine' st4 ?qs ?_ | refine' st5 ?qs ?_ | refine' st6 ?qs ?_ | refine' st7 ?qs ?_ | refine' st8 ?qs ?_ | refine' st9 ?qs ?_ | refine' st10 ?qs ?_ | refine' st11 ?qs ?_); (case qs => (first | exact set_one (by omega) rfl | exact zSet)); (first | (refine absG1 (GI.setA hq hx10 hy10 (v := 1) (by omega)) fun c3 hq3 => ?_) | skip))
      | (refine s_k 3 rfl ?_; refine s_allocA (t := 52) rfl zImplSpot rfl rfl rfl fun blk => ?_)
      | (refine s_k 36 rfl ?_; refine s_val rfl rfl rfl (r_len tb rfl rfl rfl) ?_)
      | refine s_nil ?_)
        | (refine c_g ?_; first | refine c_seq ?_ | refine c_region ?_ | (refine c_gc ?_; first | refine c_cond1 rfl zTr ?_ | refine c_cond0 rfl zTr ?_ | refine z_condd1 rfl ?_ | refine z_condd0 rfl ?_ | refine z_conddn1 rfl ?_ | refine z_conddn0 rfl ?_ | refine c_condd rfl (fun hc => ?_) (fun hc => ?_) | refine c_conddn rfl (fun hc => ?_) (fun hc => ?_) | refine c_condn rfl (fun hc => ?_) (fun hc => ?_) | refine c_cond rfl (fun hc => ?_) (fun hc => ?_)) | refine c_block ?_ | refine c_skip ?_ | refine c_exit ?_ | refine c_ret ?_)
        | (refine e_g ?_; first | refine e_then ?_ | refine e_blkn ?_ | refine e_thenx ?_ | refine e_thenr ?_ | refine e_blkr ?_ | refine e_blkx ?_ | refine e_blky rfl ?_)
        | (refine x_g ?_; first
      | (refine x_gd rfl ?_; first | refine x_gd1 rfl rfl zTr ?_ | (refine x_gd0 rfl rfl rfl zTr ?hp ?_; (case hp => exact rfl)))
      | (refine x_k 0 rfl ?_; (refine x_val rfl rfl rfl (r_move rfl rfl) ?hp ?_; (case hp => exact rfl)))
      | (refine x_k 23 rfl ?_; first | (refine x_val rfl rfl rfl (r_field tb rfl rfl rfl) ?hp ?_; (case hp => exact rfl)) | (refine x_val rfl rfl rfl (r_fieldS tb rfl rfl rfl) ?hp ?_; (case hp => exact rfl)))
      | (refine x_k 8 rfl ?_; first | (refine x_val rfl rfl rfl (r_ldS tb rfl hS rfl hx' rfl) ?hp ?_; (case hp => exact rfl)) | (refine' x_val rfl rfl rfl (r_ldv rfl rfl ?qm ?qv) ?hp ?_; (case qm => (exact zMm)); (case qv => (exact zLe)); (case hp => exact rfl)) | (refine' x_val rfl rfl rfl (r_ldo rfl rfl ?qw (by simp) ?qv) ?hp ?_; (case qw => assumption); (case qv => (exact zLe)); (case hp => exact rfl)))
      | (refine x_k 1 rfl ?_; (refine x_val rfl rfl rfl (r_assign rfl rfl) ?hp ?_; (case hp => exact rfl)))
      | (refine x_k 13 rfl ?_; first | (refine x_val rfl rfl rfl (r_lss rfl rfl rfl) ?hp ?_; (case hp => exact rfl)) | (refine x_val rfl rfl rfl (r_add rfl rfl rfl (wrap_in (by simp only [lo, hi]; omega))) ?hp ?_; (case hp => exact rfl)))
      | (refine x_k 2 rfl ?_; first | (refine x_val rfl rfl rfl (r_pick1 rfl rfl zTr rfl) ?hp ?_; (case hp => exact rfl)) | (refine x_val rfl rfl rfl (r_pick0 rfl rfl zTr rfl) ?hp ?_; (case hp => exact rfl)))
      | (refine x_k 25 rfl ?_; first | (refine x_val rfl rfl rfl (r_ixS tb rfl hS rfl rfl rfl (by simp) hlt') ?hp ?_; (case hp => exact rfl)) | (refine x_val rfl rfl rfl (r_ixN tb rfl rfl rfl rfl (by omega)) ?hp ?_; (case hp => exact rfl)) | (refine x_val rfl rfl rfl (r_ixA tb rfl rfl rfl rfl (by omega) (by omega)) ?hp ?_; (case hp => exact rfl)) | (refine x_val rfl rfl rfl (r_ixO tb rfl rfl rfl rfl (by omega)) ?hp ?_; (case hp => exact rfl)))
      | (refine x_k 4 rfl ?_; (refine x_boxA rfl rfl rfl rfl rfl ?hp (fun blk => ?_); (case hp => exact rfl)))
      | (refine x_k 9 rfl ?_; first | (refine' x_putA0 tb rfl rfl rfl rfl (by first | rfl | assumption | (apply Pv.size; assumption)) ?qs (by first | rfl | assumption | (apply Pv.size; assumption)) rfl rfl ?hp ?_; (case qs => (first | exact set_one (by omega) rfl | exact zSet)); (case hp => exact rfl)) | (refine' x_putA1 tb rfl rfl rfl rfl (by first | rfl | assumption | (apply Pv.size; assumption)) ?qs (by first | rfl | assumption | (apply Pv.size; assumption)) rfl rfl ?hp ?_; (case qs => (first | exact set_one (by omega) rfl | exact zSet)); (case hp => exact rfl)) | (refine' x_putA2 tb rfl rfl rfl rfl (by first | rfl | assumption | (apply Pv.size; assumption)) ?qs (by first | rfl | assumption | (apply Pv.size; assumption)) rfl rfl ?hp ?_; (case qs => (first | exact set_one (by omega) rfl | exact zSet)); (case hp => exact rfl)))
      | (refine x_k 3 rfl ?_; (refine x_allocA (t := 52) rfl zImplSpot rfl rfl rfl ?hp (fun blk => ?_); (case hp => exact rfl)))
      | (refine x_k 36 rfl ?_; (refine x_val rfl rfl rfl (r_len tb rfl rfl rfl) ?hp ?_; (case hp => exact rfl)))
      | refine x_nil0 ?_
      | refine x_nil ?_)
        | (refine' c_drawXT (id := 14) 6 [(Sum.inl _ : Calm.Plan), (Sum.inl _ : Calm.Plan), (Sum.inl _ : Calm.Plan), (Sum.inl _ : Calm.Plan), (Sum.inl _ : Calm.Plan), (Sum.inl _ : Calm.Plan)] (by kernel_rfl) (by kernel_rfl) (by kernel_rfl) ?_)
        | refine e_tail ?_
        | (refine e_drop0 (e_round (i + 1, c3) (by simp; omega) ⟨by simp; omega, by rw [hts]; exact hq3⟩ ?_ rfl); (repeat' (first | exact sub_nil | refine sub_cons rfl ?_))))
    · have hil : i = l.length := by omega
      subst hil
      rw [List.take_length] at hq
      repeat' (first
        | (refine s_g ?_; first
      | (refine s_gd rfl ?_; first | refine s_gd1 rfl rfl zTr ?_ | refine s_gd0 rfl rfl rfl zTr ?_ | refine s_gd00 rfl rfl zTr ?_ | refine s_gp1 rfl rfl rfl (fun hc => ?_) (fun hc => ?_) | refine s_gp0 rfl rfl rfl (fun hc => ?_) (fun hc => ?_) | refine s_gnp1 rfl rfl rfl (fun hc => ?_) (fun hc => ?_) | refine s_gnp0 rfl rfl rfl (fun hc => ?_) (fun hc => ?_) | refine s_gb1 rfl rfl rfl (fun hc => ?_) (fun hc => ?_) | refine s_gb0 rfl rfl rfl (fun hc => ?_) (fun hc => ?_) | refine s_gnb1 rfl rfl rfl (fun hc => ?_) (fun hc => ?_) | refine s_gnb0 rfl rfl rfl (fun hc => ?_) (fun hc => ?_))
      | (refine s_k 0 rfl ?_; refine s_val rfl rfl rfl (r_move rfl rfl) ?_)
      | (refine s_k 23 rfl ?_; first | refine s_val rfl rfl rfl (r_field tb rfl rfl rfl) ?_ | refine s_val rfl rfl rfl (r_fieldS tb rfl rfl rfl) ?_)
      | (refine s_k 8 rfl ?_; first | (refine' s_val rfl rfl rfl (r_ldv rfl rfl ?qm ?qv) ?_; (case qm => (exact zMm)); (case qv => (exact zLe))) | (refine' s_val rfl rfl rfl (r_ldo rfl rfl ?qw (by simp) ?qv) ?_; (case qw => assumption); (case qv => (exact zLe))))
      | (refine s_k 1 rfl ?_; refine s_val rfl rfl rfl (r_assign rfl rfl) ?_)
      | (refine s_k 13 rfl ?_; first | refine s_val rfl rfl rfl (r_lss rfl rfl rfl) ?_ | refine s_val rfl rfl rfl (r_add rfl rfl rfl (wrap_in (by simp only [lo, hi]; omega))) ?_)
      | (refine s_k 35 rfl ?_; (refine s_callN Try.func51 (by kernel_rfl) rfl rfl rfl rfl rfl rfl (fun w hL => clone_any l b off cap w (hS.at_ hL) hn) fun g m cap cur hA => ?_))
      | (refine s_k 2 rfl ?_; first | refine s_val rfl rfl rfl (r_pick1 rfl rfl zTr rfl) ?_ | refine s_val rfl rfl rfl (r_pick0 rfl rfl zTr rfl) ?_)
      | (refine s_k 25 rfl ?_; first | refine s_val rfl rfl rfl (r_ixN tb rfl rfl rfl rfl (by omega)) ?_ | refine s_val rfl rfl rfl (r_ixA tb rfl rfl rfl rfl (by omega) (by omega)) ?_ | refine s_val rfl rfl rfl (r_ixO tb rfl rfl rfl rfl (by omega)) ?_)
      | (refine s_k 4 rfl ?_; first | refine s_boxA rfl rfl rfl rfl rfl fun blk => ?_ | refine s_box1 rfl rfl rfl rfl rfl rfl fun blk => ?_)
      | (refine s_k 9 rfl ?_; (first | refine s_st1 tb rfl rfl rfl rfl rfl rfl rfl rfl ?_ | refine s_stA tb rfl rfl rfl rfl (by first | rfl | assumption | (apply Pv.size; assumption)) rfl rfl ?_); (first | refine' st0 ?qs ?_ | refine' st1 ?qs ?_ | refine' st2 ?qs ?_ | refine' st3 ?qs ?_ | refine' st4 ?qs ?_ | refine' st5 ?qs ?_ | refine' st6 ?qs ?_ | refine' st7 ?qs ?_ | refine' st8 ?qs ?_ | refine' st9 ?qs ?_ | refine' st10 ?qs ?_ | refine' st11 ?qs ?_); (case qs => (first | exact zSet)))
      | (refine s_k 36 rfl ?_; refine s_val rfl rfl rfl (r_len tb rfl rfl rfl) ?_)
      | refine s_nil ?_)
        | (refine c_g ?_; first | refine c_seq ?_ | refine c_region ?_ | (refine c_gc ?_; first | refine c_cond1 rfl zTr ?_ | refine c_cond0 rfl zTr ?_ | refine z_condd1 rfl ?_ | refine z_condd0 rfl ?_ | refine z_conddn1 rfl ?_ | refine z_conddn0 rfl ?_ | refine c_condd rfl (fun hc => ?_) (fun hc => ?_) | refine c_conddn rfl (fun hc => ?_) (fun hc => ?_) | refine c_condn rfl (fun hc => ?_) (fun hc => ?_) | refine c_cond rfl (fun hc => ?_) (fun hc => ?_)) | refine c_block ?_ | refine c_skip ?_ | refine c_exit ?_ | refine c_ret ?_)
        | (refine e_g ?_; first | refine e_then ?_ | refine e_blkn ?_ | refine e_thenx ?_ | refine e_thenr ?_ | refine e_blkr ?_ | refine e_blkx ?_ | refine e_blky rfl ?_))
      revert blk; intro b5
      obtain rfl := hA.cnt
      refine c_loop (ι := Nat × Nat × Nat × Array Value × Array Value) (fun i => l.length + 100 - i.1) (fun i => i.1 ≤ (bfsN (nbP p) (tab1 l, l) i.1).2.length ∧ Ap 2 (bfsN (nbP p) (tab1 l, l) i.1).2.length i.2.2.1 i.2.2.2.1 (flS (bfsN (nbP p) (tab1 l, l) i.1).2) ∧ GI .i16 1 (bfsN (nbP p) (tab1 l, l) i.1).1 i.2.2.2.2) (fun i => [(10, .int .i64 (i.1 : Int)), (1, .slice (some ⟨i.2.1, 0, none⟩) (bfsN (nbP p) (tab1 l, l) i.1).2.length i.2.2.1), (2, .pointer (some ⟨b2, 0, none⟩)), (4, .pointer (some ⟨b4, 0, none⟩)), (5, .pointer (some ⟨b5, 0, none⟩))]) (fun i => [(i.2.1, 52, i.2.2.2.1), (b5, 77, i.2.2.2.2), (b4, 77, zSt), (b2, 32, cs)]) (0, _, _, _, c2) ⟨by simp, by unfold bfsN; exact hA, by unfold bfsN; exact hq⟩ ?hs rfl ?_
      case hs => exact sub_cons rfl (sub_cons' rfl (by unfold bfsN; rfl) (by repeat' (first | exact sub_nil | refine sub_cons rfl ?_)))
      rintro ⟨i, g, cap, cur, c3⟩ ⟨hil, hA, hq⟩
      simp only at hil hA hq ⊢
      have hB := BI.bfs hbi hnb i
      have hlen := hB.len
      by_cases hlt : i < (bfsN (nbP p) (tab1 l, l) i).2.length
      · have hx : (bfsN (nbP p) (tab1 l, l) i).2[i]? = some (bfsN (nbP p) (tab1 l, l) i).2[i] := List.getElem?_eq_getElem hlt
        have hst := bfsN_step hx
        have hmem := List.getElem_mem hlt
        generalize (bfsN (nbP p) (tab1 l, l) i).2[i] = s at *
        generalize hnx : bfsN (nbP p) (tab1 l, l) (i + 1) = Q1 at *
        generalize bfsN (nbP p) (tab1 l, l) i = Q at *
        have hspot := hA.spot hx
        have hr := hB.inr s hmem
        obtain ⟨x, y⟩ := s
        simp only at hspot
        have hx10 : 0 ≤ x ∧ x < 10 := ⟨hr.1, hr.2.1⟩
        have hy10 : 0 ≤ y ∧ y < 10 := hr.2.2
        repeat' (first
          | (refine s_g ?_; first
      | (refine s_gd rfl ?_; first | refine s_gd1 rfl rfl zTr ?_ | refine s_gd0 rfl rfl rfl zTr ?_ | refine s_gd00 rfl rfl zTr ?_ | refine s_gp1 rfl rfl rfl (fun hc => ?_) (fun hc => ?_) | refine s_gp0 rfl rfl rfl (fun hc => ?_) (fun hc => ?_) | refine s_gnp1 rfl rfl rfl (fun hc => ?_) (fun hc => ?_) | refine s_gnp0 rfl rfl rfl (fun hc => ?_) (fun hc => ?_) | refine s_gb1 rfl rfl rfl (fun hc => ?_) (fun hc => ?_) | refine s_gb0 rfl rfl rfl (fun hc => ?_) (fun hc => ?_) | refine s_gnb1 rfl rfl rfl (fun hc => ?_) (fun hc => ?_) | refine s_gnb0 rfl rfl rfl (fun hc => ?_) (fun hc => ?_))
      | (refine s_k 0 rfl ?_; refine s_val rfl rfl rfl (r_move rfl rfl) ?_)
      | (refine s_k 23 rfl ?_; first | refine s_val rfl rfl rfl (r_field tb rfl rfl rfl) ?_ | refine s_val rfl rfl rfl (r_fieldS tb rfl rfl rfl) ?_)
      | (refine s_k 8 rfl ?_; first | refine s_val rfl rfl rfl (r_ldN tb rfl rfl m0 rfl hspot.1 hspot.2) ?_ | (refine' s_val rfl rfl rfl (r_ldv rfl rfl ?qm ?qv) ?_; (case qm => (exact zMm)); (case qv => (exact zLe))) | (refine' s_val rfl rfl rfl (r_ldo rfl rfl ?qw (by simp) ?qv) ?_; (case qw => assumption); (case qv => (exact zLe))))
      | (refine s_k 1 rfl ?_; refine s_val rfl rfl rfl (r_assign rfl rfl) ?_)
      | (refine s_k 13 rfl ?_; first | refine s_val rfl rfl rfl (r_lss rfl rfl rfl) ?_ | refine s_val rfl rfl rfl (r_add rfl rfl rfl (wrap_in (by simp only [lo, hi]; omega))) ?_)
      | (refine s_k 2 rfl ?_; first | refine s_val rfl rfl rfl (r_pick1 rfl rfl zTr rfl) ?_ | refine s_val rfl rfl rfl (r_pick0 rfl rfl zTr rfl) ?_)
      | (refine s_k 25 rfl ?_; first | refine s_val rfl rfl rfl (r_ixO tb rfl rfl rfl rfl hlt) ?_ | refine s_val rfl rfl rfl (r_ixN tb rfl rfl rfl rfl (by omega)) ?_ | refine s_val rfl rfl rfl (r_ixA tb rfl rfl rfl rfl (by omega) (by omega)) ?_ | refine s_val rfl rfl rfl (r_ixO tb rfl rfl rfl rfl (by omega)) ?_)
      | (refine s_k 4 rfl ?_; first | refine s_boxA rfl rfl rfl rfl rfl fun blk => ?_ | refine s_box1 rfl rfl rfl rfl rfl rfl fun blk => ?_)
      | (refine s_k 9 rfl ?_; (first | refine s_st1 tb rfl rfl rfl rfl rfl rfl rfl rfl ?_ | refine s_stA tb rfl rfl rfl rfl (by first | rfl | assumption | (apply Pv.size; assumption)) rfl rfl ?_); (first | refine' st0 ?qs ?_ | refine' st1 ?qs ?_ | refine' st2 ?qs ?_ | refine' st3 ?qs ?_ | refine' st4 ?qs ?_ | refine' st5 ?qs ?_ | refine' st6 ?qs ?_ | refine' st7 ?qs ?_ | refine' st8 ?qs ?_ | refine' st9 ?qs ?_ | refine' st10 ?qs ?_ | refine' st11 ?qs ?_); (case qs => (first | exact zSet)))
      | (refine s_k 3 rfl ?_; refine s_allocA (t := 52) rfl zImplSpot rfl rfl rfl fun blk => ?_)
      | (refine s_k 36 rfl ?_; refine s_val rfl rfl rfl (r_len tb rfl rfl rfl) ?_)
      | refine s_nil ?_)
          | (refine c_g ?_; first | refine c_seq ?_ | refine c_region ?_ | (refine c_gc ?_; first | refine c_cond1 rfl zTr ?_ | refine c_cond0 rfl zTr ?_ | refine z_condd1 rfl ?_ | refine z_condd0 rfl ?_ | refine z_conddn1 rfl ?_ | refine z_conddn0 rfl ?_ | refine c_condd rfl (fun hc => ?_) (fun hc => ?_) | refine c_conddn rfl (fun hc => ?_) (fun hc => ?_) | refine c_condn rfl (fun hc => ?_) (fun hc => ?_) | refine c_cond rfl (fun hc => ?_) (fun hc => ?_)) | refine c_block ?_ | refine c_skip ?_ | refine c_exit ?_ | refine c_ret ?_)
          | (refine e_g ?_; first | refine e_then ?_ | refine e_blkn ?_ | refine e_thenx ?_ | refine e_thenr ?_ | refine e_blkr ?_ | refine e_blkx ?_ | refine e_blky rfl ?_))
        refine c_loop (ι := Nat × Nat × Nat × Array Value × Array Value) (fun k => 4 - k.1) (fun k => k.1 ≤ 4 ∧ Ap 2 ((besL p x y k.1).foldl (relC ⟨x, y⟩) Q).2.length k.2.2.1 k.2.2.2.1 (flS ((besL p x y k.1).foldl (relC ⟨x, y⟩) Q).2) ∧ GI .i16 1 ((besL p x y k.1).foldl (relC ⟨x, y⟩) Q).1 k.2.2.2.2) (fun k => [(52, .int .i64 (k.1 : Int)), (10, .int .i64 (i : Int)), (1, .slice (some ⟨k.2.1, 0, none⟩) ((besL p x y k.1).foldl (relC ⟨x, y⟩) Q).2.length k.2.2.1), (11, .pointer (some ⟨blk, 0, none⟩)), (2, .pointer (some ⟨b2, 0, none⟩)), (4, .pointer (some ⟨b4, 0, none⟩)), (5, .pointer (some ⟨b5, 0, none⟩))]) (fun k => [(blk, 52, #[.int .i8 x, .int .i8 y]), (k.2.1, 52, k.2.2.2.1), (b5, 77, k.2.2.2.2), (b4, 77, zSt), (b2, 32, cs)]) (0, g, cap, cur, c3) ⟨by simp, hA, hq⟩ ?hs rfl ?_
        case hs => (repeat' (first | exact sub_nil | refine sub_cons rfl ?_))
        rintro ⟨k, g, cap, cur, c3⟩ ⟨hk4, hA, hq⟩
        simp only at hk4 hA hq ⊢
        by_cases hk : k < 4
        · have hBk : BI (nbP p) l ((besL p x y k).foldl (relC ⟨x, y⟩) Q) := BI.fold _ _ hB hmem fun c hc => ⟨isC_range (besL_inR hc), besL_sub (by omega) hc⟩
          have hlen := hBk.len
          cases hcan : canB p x y (k : Int)
          case false =>
            have hb1 := besL_no hcan
            repeat' (first
              | (refine s_g ?_; first
      | (refine s_gd rfl ?_; first | refine s_gd1 rfl rfl zTr ?_ | refine s_gd0 rfl rfl rfl zTr ?_ | refine s_gd00 rfl rfl zTr ?_ | refine s_gp1 rfl rfl rfl (fun hc => ?_) (fun hc => ?_) | refine s_gp0 rfl rfl rfl (fun hc => ?_) (fun hc => ?_) | refine s_gnp1 rfl rfl rfl (fun hc => ?_) (fun hc => ?_) | refine s_gnp0 rfl rfl rfl (fun hc => ?_) (fun hc => ?_) | refine s_gb1 rfl rfl rfl (fun hc => ?_) (fun hc => ?_) | refine s_gb0 rfl rfl rfl (fun hc => ?_) (fun hc => ?_) | refine s_gnb1 rfl rfl rfl (fun hc => ?_) (fun hc => ?_) | refine s_gnb0 rfl rfl rfl (fun hc => ?_) (fun hc => ?_))
      | (refine s_k 0 rfl ?_; refine s_val rfl rfl rfl (r_move rfl rfl) ?_)
      | (refine s_k 23 rfl ?_; first | refine s_val rfl rfl rfl (r_field tb rfl rfl rfl) ?_ | refine s_val rfl rfl rfl (r_fieldS tb rfl rfl rfl) ?_)
      | (refine s_k 8 rfl ?_; first | (refine' s_val rfl rfl rfl (r_ldv rfl rfl ?qm ?qv) ?_; (case qm => (exact zMm)); (case qv => (exact zLe))) | (refine' s_val rfl rfl rfl (r_ldo rfl rfl ?qw (by simp) ?qv) ?_; (case qw => assumption); (case qv => (exact zLe))))
      | (refine s_k 1 rfl ?_; refine s_val rfl rfl rfl (r_assign rfl rfl) ?_)
      | (refine s_k 13 rfl ?_; first | refine s_val rfl rfl rfl (r_lss rfl rfl rfl) ?_ | refine s_val rfl rfl rfl (r_add rfl rfl rfl (wrap_in (by simp only [lo, hi]; omega))) ?_)
      | (refine s_k 35 rfl ?_; first | (refine s_call Try.func79 (by kernel_rfl) rfl rfl rfl rfl rfl rfl (fun w hL => ahead_any _ _ _ _ (by omega) (by omega)) ?_) | (refine s_call Try.func80 (by kernel_rfl) rfl rfl rfl rfl rfl rfl (fun w hL => canGo_any p cs _ _ _ _ hp hx10 hy10) ?_))
      | (refine s_k 2 rfl ?_; first | refine s_val rfl rfl rfl (r_pick1 rfl rfl zTr rfl) ?_ | refine s_val rfl rfl rfl (r_pick0 rfl rfl zTr rfl) ?_)
      | (refine s_k 25 rfl ?_; first | refine s_val rfl rfl rfl (r_ixN tb rfl rfl rfl rfl (by omega)) ?_ | refine s_val rfl rfl rfl (r_ixA tb rfl rfl rfl rfl (by omega) (by omega)) ?_ | refine s_val rfl rfl rfl (r_ixO tb rfl rfl rfl rfl (by omega)) ?_)
      | (refine s_k 4 rfl ?_; first | refine s_boxA rfl rfl rfl rfl rfl fun blk => ?_ | refine s_box1 rfl rfl rfl rfl rfl rfl fun blk => ?_)
      | (refine s_k 9 rfl ?_; (first | refine s_st1 tb rfl rfl rfl rfl rfl rfl rfl rfl ?_ | refine s_stA tb rfl rfl rfl rfl (by first | rfl | assumption | (apply Pv.size; assumption)) rfl rfl ?_); (first | refine' st0 ?qs ?_ | refine' st1 ?qs ?_ | refine' st2 ?qs ?_ | refine' st3 ?qs ?_ | refine' st4 ?qs ?_ | refine' st5 ?qs ?_ | refine' st6 ?qs ?_ | refine' st7 ?qs ?_ | refine' st8 ?qs ?_ | refine' st9 ?qs ?_ | refine' st10 ?qs ?_ | refine' st11 ?qs ?_); (case qs => (first | exact zSet)))
      | (refine s_k 3 rfl ?_; refine s_allocA (t := 52) rfl zImplSpot rfl rfl rfl fun blk => ?_)
      | (refine s_k 36 rfl ?_; refine s_val rfl rfl rfl (r_len tb rfl rfl rfl) ?_)
      | refine s_nil ?_)
              | (refine c_g ?_; first | refine c_seq ?_ | refine c_region ?_ | (refine c_gc ?_; first | refine c_cond1 rfl zTr ?_ | refine c_cond0 rfl zTr ?_ | refine z_condd1 rfl ?_ | refine z_condd0 rfl ?_ | refine z_conddn1 rfl ?_ | refine z_conddn0 rfl ?_ | refine c_condd rfl (fun hc => ?_) (fun hc => ?_) | refine c_conddn rfl (fun hc => ?_) (fun hc => ?_) | refine c_condn rfl (fun hc => ?_) (fun hc => ?_) | refine c_cond rfl (fun hc => ?_) (fun hc => ?_)) | refine c_block ?_ | refine c_skip ?_ | refine c_exit ?_ | refine c_ret ?_)
              | (refine e_g ?_; first | refine e_then ?_ | refine e_blkn ?_ | refine e_thenx ?_ | refine e_thenr ?_ | refine e_blkr ?_ | refine e_blkx ?_ | refine e_blky rfl ?_)
              | (refine x_g ?_; first
      | (refine x_gd rfl ?_; first | refine x_gd1 rfl rfl zTr ?_ | (refine x_gd0 rfl rfl rfl zTr ?hp ?_; (case hp => exact rfl)))
      | (refine x_k 0 rfl ?_; (refine x_val rfl rfl rfl (r_move rfl rfl) ?hp ?_; (case hp => exact rfl)))
      | (refine x_k 23 rfl ?_; first | (refine x_val rfl rfl rfl (r_field tb rfl rfl rfl) ?hp ?_; (case hp => exact rfl)) | (refine x_val rfl rfl rfl (r_fieldS tb rfl rfl rfl) ?hp ?_; (case hp => exact rfl)))
      | (refine x_k 8 rfl ?_; first | (refine' x_val rfl rfl rfl (r_ldv rfl rfl ?qm ?qv) ?hp ?_; (case qm => (exact zMm)); (case qv => (exact zLe)); (case hp => exact rfl)) | (refine' x_val rfl rfl rfl (r_ldo rfl rfl ?qw (by simp) ?qv) ?hp ?_; (case qw => assumption); (case qv => (exact zLe)); (case hp => exact rfl)))
      | (refine x_k 1 rfl ?_; (refine x_val rfl rfl rfl (r_assign rfl rfl) ?hp ?_; (case hp => exact rfl)))
      | (refine x_k 13 rfl ?_; first | (refine x_val rfl rfl rfl (r_lss rfl rfl rfl) ?hp ?_; (case hp => exact rfl)) | (refine x_val rfl rfl rfl (r_add rfl rfl rfl (wrap_in (by simp only [lo, hi]; omega))) ?hp ?_; (case hp => exact rfl)))
      | (refine x_k 35 rfl ?_; first | (refine x_call Try.func79 (by kernel_rfl) rfl rfl rfl rfl rfl rfl (fun w hL => ahead_any _ _ _ _ (by omega) (by omega)) ?hp ?_; (case hp => exact rfl)) | (refine x_call Try.func80 (by kernel_rfl) rfl rfl rfl rfl rfl rfl (fun w hL => canGo_any p cs _ _ _ _ hp hx10 hy10) ?hp ?_; (case hp => exact rfl)))
      | (refine x_k 2 rfl ?_; first | (refine x_val rfl rfl rfl (r_pick1 rfl rfl zTr rfl) ?hp ?_; (case hp => exact rfl)) | (refine x_val rfl rfl rfl (r_pick0 rfl rfl zTr rfl) ?hp ?_; (case hp => exact rfl)))
      | (refine x_k 25 rfl ?_; first | (refine x_val rfl rfl rfl (r_ixN tb rfl rfl rfl rfl (by omega)) ?hp ?_; (case hp => exact rfl)) | (refine x_val rfl rfl rfl (r_ixA tb rfl rfl rfl rfl (by omega) (by omega)) ?hp ?_; (case hp => exact rfl)) | (refine x_val rfl rfl rfl (r_ixO tb rfl rfl rfl rfl (by omega)) ?hp ?_; (case hp => exact rfl)))
      | (refine x_k 4 rfl ?_; (refine x_boxA rfl rfl rfl rfl rfl ?hp (fun blk => ?_); (case hp => exact rfl)))
      | (refine x_k 9 rfl ?_; first | (refine' x_putA0 tb rfl rfl rfl rfl (by first | rfl | assumption | (apply Pv.size; assumption)) ?qs (by first | rfl | assumption | (apply Pv.size; assumption)) rfl rfl ?hp ?_; (case qs => (first | exact zSet)); (case hp => exact rfl)) | (refine' x_putA1 tb rfl rfl rfl rfl (by first | rfl | assumption | (apply Pv.size; assumption)) ?qs (by first | rfl | assumption | (apply Pv.size; assumption)) rfl rfl ?hp ?_; (case qs => (first | exact zSet)); (case hp => exact rfl)) | (refine' x_putA2 tb rfl rfl rfl rfl (by first | rfl | assumption | (apply Pv.size; assumption)) ?qs (by first | rfl | assumption | (apply Pv.size; assumption)) rfl rfl ?hp ?_; (case qs => (first | exact zSet)); (case hp => exact rfl)))
      | (refine x_k 3 rfl ?_; (refine x_allocA (t := 52) rfl zImplSpot rfl rfl rfl ?hp (fun blk => ?_); (case hp => exact rfl)))
      | (refine x_k 36 rfl ?_; (refine x_val rfl rfl rfl (r_len tb rfl rfl rfl) ?hp ?_; (case hp => exact rfl)))
      | refine x_nil0 ?_
      | refine x_nil ?_)
              | (refine' c_drawX (id := 25) [(Sum.inl _ : Calm.Plan), (Sum.inl _ : Calm.Plan), (Sum.inl _ : Calm.Plan), (Sum.inl _ : Calm.Plan), (Sum.inl _ : Calm.Plan), (Sum.inl _ : Calm.Plan), (Sum.inl _ : Calm.Plan), (Sum.inl _ : Calm.Plan), (Sum.inl _ : Calm.Plan), (Sum.inl _ : Calm.Plan), (Sum.inl _ : Calm.Plan), (Sum.inl _ : Calm.Plan), (Sum.inl _ : Calm.Plan), (Sum.inl _ : Calm.Plan)] (by kernel_rfl) (by kernel_rfl) (by kernel_rfl) ?_)
              | (refine e_drop0 (e_round (k + 1, g, cap, cur, c3) (by simp; omega) ⟨by simp; omega, by rw [hb1]; exact hA, by rw [hb1]; exact hq⟩ ?_ rfl); exact sub_cons rfl (sub_cons rfl (sub_cons' rfl (by rw [hb1]) (by repeat' (first | exact sub_nil | refine sub_cons rfl ?_))))))
          case true =>
            have hb1 := besL_yes hcan
            have hf1 : (besL p x y (k + 1)).foldl (relC ⟨x, y⟩) Q = relC ⟨x, y⟩ ((besL p x y k).foldl (relC ⟨x, y⟩) Q) ⟨nextX x k, nextY y k⟩ := by rw [hb1, List.foldl_append]; rfl
            have hnx := besL_inR (p := p) (x := x) (y := y) (k := k + 1) (c := ⟨nextX x k, nextY y k⟩) (by rw [hb1]; simp)
            have hnr := isC_range hnx
            simp only at hnr
            have hnx10 : 0 ≤ nextX x (k : Int) ∧ nextX x (k : Int) < 10 := by omega
            have hny10 : 0 ≤ nextY y (k : Int) ∧ nextY y (k : Int) < 10 := by omega
            generalize (besL p x y k).foldl (relC ⟨x, y⟩) Q = R at *
            have hD := hBk.val (ci ⟨nextX x k, nextY y k⟩)
            have hDs := hBk.val (ci ⟨x, y⟩)
            have hqs := hq.size
            have hlc : 0 + (nextY y (k : Int)).toNat * 10 + (nextX x (k : Int)).toNat * 1 < 100 := by omega
            by_cases hz : R.1 (ci ⟨nextX x k, nextY y k⟩) = 0
            · have hrel : relC ⟨x, y⟩ R ⟨nextX x k, nextY y k⟩ = (upd R.1 (ci ⟨nextX x k, nextY y k⟩) (R.1 (ci ⟨x, y⟩) + 1), R.2 ++ [⟨nextX x k, nextY y k⟩]) := by unfold relC; rw [if_pos hz]
              rw [hrel] at hf1
              repeat' (first
                | (refine s_g ?_; first
      | (refine s_gd rfl ?_; first | refine s_gd1 rfl rfl zTr ?_ | refine s_gd0 rfl rfl rfl zTr ?_ | refine s_gd00 rfl rfl zTr ?_ | refine s_gp1 rfl rfl rfl (fun hc => ?_) (fun hc => ?_) | refine s_gp0 rfl rfl rfl (fun hc => ?_) (fun hc => ?_) | refine s_gnp1 rfl rfl rfl (fun hc => ?_) (fun hc => ?_) | refine s_gnp0 rfl rfl rfl (fun hc => ?_) (fun hc => ?_) | refine s_gb1 rfl rfl rfl (fun hc => ?_) (fun hc => ?_) | refine s_gb0 rfl rfl rfl (fun hc => ?_) (fun hc => ?_) | refine s_gnb1 rfl rfl rfl (fun hc => ?_) (fun hc => ?_) | refine s_gnb0 rfl rfl rfl (fun hc => ?_) (fun hc => ?_))
      | (refine s_k 0 rfl ?_; refine s_val rfl rfl rfl (r_move rfl rfl) ?_)
      | (refine s_k 23 rfl ?_; first | refine s_val rfl rfl rfl (r_field tb rfl rfl rfl) ?_ | refine s_val rfl rfl rfl (r_fieldS tb rfl rfl rfl) ?_)
      | (refine s_k 8 rfl ?_; first | (refine' s_val rfl rfl rfl (r_ldv rfl rfl ?qm ?qv) ?_; (case qm => (exact zMm)); (case qv => (first | exact ldvL tb rfl rfl | exact ldv1 tb rfl (by assumption) | exact ldv1 tb rfl (hq.at_ hnx10 hny10) | exact ldv1 tb rfl (hq.at_ hx10 hy10) | exact zLd))) | (refine' s_val rfl rfl rfl (r_ldo rfl rfl ?qw (by simp) ?qv) ?_; (case qw => assumption); (case qv => (first | exact ldvL tb rfl rfl | exact ldv1 tb rfl (by assumption) | exact ldv1 tb rfl (hq.at_ hnx10 hny10) | exact ldv1 tb rfl (hq.at_ hx10 hy10) | exact zLd))))
      | (refine s_k 1 rfl ?_; refine s_val rfl rfl rfl (r_assign rfl rfl) ?_)
      | (refine s_k 13 rfl ?_; first | refine s_val rfl rfl rfl (r_lss rfl rfl rfl) ?_ | refine s_val rfl rfl rfl (r_add rfl rfl rfl (wrap_in (by simp only [lo, hi]; omega))) ?_)
      | (refine s_k 35 rfl ?_; first | (refine s_call Try.func79 (by kernel_rfl) rfl rfl rfl rfl rfl rfl (fun w hL => ahead_any _ _ _ _ (by omega) (by omega)) ?_) | (refine s_call Try.func80 (by kernel_rfl) rfl rfl rfl rfl rfl rfl (fun w hL => canGo_any p cs _ _ _ _ hp hx10 hy10) ?_))
      | (refine s_k 2 rfl ?_; first | refine s_val rfl rfl rfl (r_pick1 rfl rfl zTr rfl) ?_ | refine s_val rfl rfl rfl (r_pick0 rfl rfl zTr rfl) ?_)
      | (refine s_k 25 rfl ?_; first | refine s_val rfl rfl rfl (r_ixN tb rfl rfl rfl rfl (by omega)) ?_ | refine s_val rfl rfl rfl (r_ixA tb rfl rfl rfl rfl (by omega) (by omega)) ?_ | refine s_val rfl rfl rfl (r_ixO tb rfl rfl rfl rfl (by omega)) ?_)
      | (refine s_k 4 rfl ?_; first | refine s_boxA rfl rfl rfl rfl rfl fun blk => ?_ | refine s_box1 rfl rfl rfl rfl rfl rfl fun blk => ?_)
      | (refine s_k 9 rfl ?_; (first | refine s_st1 tb rfl rfl rfl rfl rfl rfl rfl rfl ?_ | refine s_stA tb rfl rfl rfl rfl (by first | rfl | assumption | (apply Pv.size; assumption)) rfl rfl ?_); (first | refine' st0 ?qs ?_ | refine' st1 ?qs ?_ | refine' st2 ?qs ?_ | refine' st3 ?qs ?_ | refine' st4 ?qs ?_ | refine' st5 ?qs ?_ | refine' st6 ?qs ?_ | refine' st7 ?qs ?_ | refine' st8 ?qs ?_ | refine' st9 ?qs ?_ | refine' st10 ?qs ?_ | refine' st11 ?qs ?_); (case qs => (first | exact set_one (by omega) rfl | exact zSet)); (first | (refine absG3 (GI.setA hq hnx10 hny10 (v := R.1 (ci ⟨x, y⟩) + 1) (by omega)) fun c4 hq4 => ?_) | skip))
      | (refine s_k 3 rfl ?_; refine s_allocA (t := 52) rfl zImplSpot rfl rfl rfl fun blk => ?_)
      | (refine s_k 36 rfl ?_; first | refine s_app2 hA rfl rfl rfl uSpotS iSpot rfl (by omega) (by simp) (by simp) rfl (by simp [Value.oneCell']) (by unfold maxLen; omega) (by omega) rfl rfl rfl fun g cap cur hA => ?_ | refine s_val rfl rfl rfl (r_len tb rfl rfl rfl) ?_)
      | (refine s_k 6 rfl ?_; refine s_bsl rfl rfl (fun w => slSpot1 _ _ w) rfl rfl rfl fun blk => ?_)
      | refine s_nil ?_)
                | (refine c_g ?_; first | refine c_seq ?_ | refine c_region ?_ | (refine c_gc ?_; first | refine c_cond1 rfl zTr ?_ | refine c_cond0 rfl zTr ?_ | refine z_condd1 rfl ?_ | refine z_condd0 rfl ?_ | refine z_conddn1 rfl ?_ | refine z_conddn0 rfl ?_ | refine c_condd rfl (fun hc => ?_) (fun hc => ?_) | refine c_conddn rfl (fun hc => ?_) (fun hc => ?_) | refine c_condn rfl (fun hc => ?_) (fun hc => ?_) | refine c_cond rfl (fun hc => ?_) (fun hc => ?_)) | refine c_block ?_ | refine c_skip ?_ | refine c_exit ?_ | refine c_ret ?_)
                | (refine e_g ?_; first | refine e_then ?_ | refine e_blkn ?_ | refine e_thenx ?_ | refine e_thenr ?_ | refine e_blkr ?_ | refine e_blkx ?_ | refine e_blky rfl ?_)
                | (refine x_g ?_; first
      | (refine x_gd rfl ?_; first | refine x_gd1 rfl rfl zTr ?_ | (refine x_gd0 rfl rfl rfl zTr ?hp ?_; (case hp => exact rfl)))
      | (refine x_k 0 rfl ?_; (refine x_val rfl rfl rfl (r_move rfl rfl) ?hp ?_; (case hp => exact rfl)))
      | (refine x_k 23 rfl ?_; first | (refine x_val rfl rfl rfl (r_field tb rfl rfl rfl) ?hp ?_; (case hp => exact rfl)) | (refine x_val rfl rfl rfl (r_fieldS tb rfl rfl rfl) ?hp ?_; (case hp => exact rfl)))
      | (refine x_k 8 rfl ?_; first | (refine' x_val rfl rfl rfl (r_ldv rfl rfl ?qm ?qv) ?hp ?_; (case qm => (exact zMm)); (case qv => (first | exact ldvL tb rfl rfl | exact ldv1 tb rfl (by assumption) | exact ldv1 tb rfl (hq.at_ hnx10 hny10) | exact ldv1 tb rfl (hq.at_ hx10 hy10) | exact zLd)); (case hp => exact rfl)) | (refine' x_val rfl rfl rfl (r_ldo rfl rfl ?qw (by simp) ?qv) ?hp ?_; (case qw => assumption); (case qv => (first | exact ldvL tb rfl rfl | exact ldv1 tb rfl (by assumption) | exact ldv1 tb rfl (hq.at_ hnx10 hny10) | exact ldv1 tb rfl (hq.at_ hx10 hy10) | exact zLd)); (case hp => exact rfl)))
      | (refine x_k 1 rfl ?_; (refine x_val rfl rfl rfl (r_assign rfl rfl) ?hp ?_; (case hp => exact rfl)))
      | (refine x_k 13 rfl ?_; first | (refine x_val rfl rfl rfl (r_lss rfl rfl rfl) ?hp ?_; (case hp => exact rfl)) | (refine x_val rfl rfl rfl (r_add rfl rfl rfl (wrap_in (by simp only [lo, hi]; omega))) ?hp ?_; (case hp => exact rfl)))
      | (refine x_k 35 rfl ?_; first | (refine x_call Try.func79 (by kernel_rfl) rfl rfl rfl rfl rfl rfl (fun w hL => ahead_any _ _ _ _ (by omega) (by omega)) ?hp ?_; (case hp => exact rfl)) | (refine x_call Try.func80 (by kernel_rfl) rfl rfl rfl rfl rfl rfl (fun w hL => canGo_any p cs _ _ _ _ hp hx10 hy10) ?hp ?_; (case hp => exact rfl)))
      | (refine x_k 2 rfl ?_; first | (refine x_val rfl rfl rfl (r_pick1 rfl rfl zTr rfl) ?hp ?_; (case hp => exact rfl)) | (refine x_val rfl rfl rfl (r_pick0 rfl rfl zTr rfl) ?hp ?_; (case hp => exact rfl)))
      | (refine x_k 25 rfl ?_; first | (refine x_val rfl rfl rfl (r_ixN tb rfl rfl rfl rfl (by omega)) ?hp ?_; (case hp => exact rfl)) | (refine x_val rfl rfl rfl (r_ixA tb rfl rfl rfl rfl (by omega) (by omega)) ?hp ?_; (case hp => exact rfl)) | (refine x_val rfl rfl rfl (r_ixO tb rfl rfl rfl rfl (by omega)) ?hp ?_; (case hp => exact rfl)))
      | (refine x_k 4 rfl ?_; (refine x_boxA rfl rfl rfl rfl rfl ?hp (fun blk => ?_); (case hp => exact rfl)))
      | (refine x_k 9 rfl ?_; first | (refine' x_putA0 tb rfl rfl rfl rfl (by first | rfl | assumption | (apply Pv.size; assumption)) ?qs (by first | rfl | assumption | (apply Pv.size; assumption)) rfl rfl ?hp ?_; (case qs => (first | exact set_one (by omega) rfl | exact zSet)); (case hp => exact rfl)) | (refine' x_putA1 tb rfl rfl rfl rfl (by first | rfl | assumption | (apply Pv.size; assumption)) ?qs (by first | rfl | assumption | (apply Pv.size; assumption)) rfl rfl ?hp ?_; (case qs => (first | exact set_one (by omega) rfl | exact zSet)); (case hp => exact rfl)) | (refine' x_putA2 tb rfl rfl rfl rfl (by first | rfl | assumption | (apply Pv.size; assumption)) ?qs (by first | rfl | assumption | (apply Pv.size; assumption)) rfl rfl ?hp ?_; (case qs => (first | exact set_one (by omega) rfl | exact zSet)); (case hp => exact rfl)))
      | (refine x_k 3 rfl ?_; (refine x_allocA (t := 52) rfl zImplSpot rfl rfl rfl ?hp (fun blk => ?_); (case hp => exact rfl)))
      | (refine x_k 36 rfl ?_; (refine x_val rfl rfl rfl (r_len tb rfl rfl rfl) ?hp ?_; (case hp => exact rfl)))
      | refine x_nil0 ?_
      | refine x_nil ?_)
                | (refine' c_drawX (id := 25) [(Sum.inl _ : Calm.Plan), (Sum.inl _ : Calm.Plan), (Sum.inl _ : Calm.Plan), (Sum.inl _ : Calm.Plan), (Sum.inl _ : Calm.Plan), (Sum.inl _ : Calm.Plan), (Sum.inl _ : Calm.Plan), (Sum.inl _ : Calm.Plan), (Sum.inl _ : Calm.Plan), (Sum.inl _ : Calm.Plan), (Sum.inl _ : Calm.Plan), (Sum.inl _ : Calm.Plan), (Sum.inl _ : Calm.Plan), (Sum.inl _ : Calm.Plan)] (by kernel_rfl) (by kernel_rfl) (by kernel_rfl) ?_)
                | (refine' c_drawXT (id := 26) 14 [(Sum.inl _ : Calm.Plan), (Sum.inl _ : Calm.Plan), (Sum.inl _ : Calm.Plan), (Sum.inl _ : Calm.Plan), (Sum.inl _ : Calm.Plan), (Sum.inl _ : Calm.Plan), (Sum.inl _ : Calm.Plan), (Sum.inl _ : Calm.Plan), (Sum.inl _ : Calm.Plan), (Sum.inl _ : Calm.Plan), (Sum.inl _ : Calm.Plan), (Sum.inl _ : Calm.Plan), (Sum.inl _ : Calm.Plan), (Sum.inl _ : Calm.Plan)] (by kernel_rfl) (by kernel_rfl) (by kernel_rfl) ?_)
                | refine e_tail ?_
                | (refine e_drop0 (e_round (k + 1, g, cap, cur, c4) (by simp; omega) ⟨by simp; omega, ?_, by simp only; rw [hf1]; exact hq4⟩ ?_ rfl)))
              all_goals first
                | ((refine sub_cons rfl (sub_cons rfl (sub_cons' rfl (by simp only; rw [hf1]; simp) ?_)); (repeat' (first | exact sub_nil | refine sub_cons rfl ?_))); done)
                | ((try simp only); rw [hf1, flS_snoc]; simpa [Sp.cells] using hA)
            · have hrel : relC ⟨x, y⟩ R ⟨nextX x k, nextY y k⟩ = R := by unfold relC; rw [if_neg hz]
              rw [hrel] at hf1
              repeat' (first
                | (refine s_g ?_; first
      | (refine s_gd rfl ?_; first | refine s_gd1 rfl rfl zTr ?_ | refine s_gd0 rfl rfl rfl zTr ?_ | refine s_gd00 rfl rfl zTr ?_ | refine s_gp1 rfl rfl rfl (fun hc => ?_) (fun hc => ?_) | refine s_gp0 rfl rfl rfl (fun hc => ?_) (fun hc => ?_) | refine s_gnp1 rfl rfl rfl (fun hc => ?_) (fun hc => ?_) | refine s_gnp0 rfl rfl rfl (fun hc => ?_) (fun hc => ?_) | refine s_gb1 rfl rfl rfl (fun hc => ?_) (fun hc => ?_) | refine s_gb0 rfl rfl rfl (fun hc => ?_) (fun hc => ?_) | refine s_gnb1 rfl rfl rfl (fun hc => ?_) (fun hc => ?_) | refine s_gnb0 rfl rfl rfl (fun hc => ?_) (fun hc => ?_))
      | (refine s_k 0 rfl ?_; refine s_val rfl rfl rfl (r_move rfl rfl) ?_)
      | (refine s_k 23 rfl ?_; first | refine s_val rfl rfl rfl (r_field tb rfl rfl rfl) ?_ | refine s_val rfl rfl rfl (r_fieldS tb rfl rfl rfl) ?_)
      | (refine s_k 8 rfl ?_; first | (refine' s_val rfl rfl rfl (r_ldv rfl rfl ?qm ?qv) ?_; (case qm => (exact zMm)); (case qv => (first | exact ldvL tb rfl rfl | exact ldv1 tb rfl (by assumption) | exact ldv1 tb rfl (hq.at_ hnx10 hny10) | exact zLd))) | (refine' s_val rfl rfl rfl (r_ldo rfl rfl ?qw (by simp) ?qv) ?_; (case qw => assumption); (case qv => (first | exact ldvL tb rfl rfl | exact ldv1 tb rfl (by assumption) | exact ldv1 tb rfl (hq.at_ hnx10 hny10) | exact zLd))))
      | (refine s_k 1 rfl ?_; refine s_val rfl rfl rfl (r_assign rfl rfl) ?_)
      | (refine s_k 13 rfl ?_; first | refine s_val rfl rfl rfl (r_lss rfl rfl rfl) ?_ | refine s_val rfl rfl rfl (r_add rfl rfl rfl (wrap_in (by simp only [lo, hi]; omega))) ?_)
      | (refine s_k 35 rfl ?_; first | (refine s_call Try.func79 (by kernel_rfl) rfl rfl rfl rfl rfl rfl (fun w hL => ahead_any _ _ _ _ (by omega) (by omega)) ?_) | (refine s_call Try.func80 (by kernel_rfl) rfl rfl rfl rfl rfl rfl (fun w hL => canGo_any p cs _ _ _ _ hp hx10 hy10) ?_))
      | (refine s_k 2 rfl ?_; first | refine s_val rfl rfl rfl (r_pick1 rfl rfl zTr rfl) ?_ | refine s_val rfl rfl rfl (r_pick0 rfl rfl zTr rfl) ?_)
      | (refine s_k 25 rfl ?_; first | refine s_val rfl rfl rfl (r_ixN tb rfl rfl rfl rfl (by omega)) ?_ | refine s_val rfl rfl rfl (r_ixA tb rfl rfl rfl rfl (by omega) (by omega)) ?_ | refine s_val rfl rfl rfl (r_ixO tb rfl rfl rfl rfl (by omega)) ?_)
      | (refine s_k 4 rfl ?_; first | refine s_boxA rfl rfl rfl rfl rfl fun blk => ?_ | refine s_box1 rfl rfl rfl rfl rfl rfl fun blk => ?_)
      | (refine s_k 9 rfl ?_; (first | refine s_st1 tb rfl rfl rfl rfl rfl rfl rfl rfl ?_ | refine s_stA tb rfl rfl rfl rfl (by first | rfl | assumption | (apply Pv.size; assumption)) rfl rfl ?_); (first | refine' st0 ?qs ?_ | refine' st1 ?qs ?_ | refine' st2 ?qs ?_ | refine' st3 ?qs ?_ | refine' st4 ?qs ?_ | refine' st5 ?qs ?_ | refine' st6 ?qs ?_ | refine' st7 ?qs ?_ | refine' st8 ?qs ?_ | refine' st9 ?qs ?_ | refine' st10 ?qs ?_ | refine' st11 ?qs ?_); (case qs => (first | exact zSet)))
      | (refine s_k 3 rfl ?_; refine s_allocA (t := 52) rfl zImplSpot rfl rfl rfl fun blk => ?_)
      | (refine s_k 36 rfl ?_; refine s_val rfl rfl rfl (r_len tb rfl rfl rfl) ?_)
      | refine s_nil ?_)
                | (refine c_g ?_; first | refine c_seq ?_ | refine c_region ?_ | (refine c_gc ?_; first | refine c_cond1 rfl zTr ?_ | refine c_cond0 rfl zTr ?_ | refine z_condd1 rfl ?_ | refine z_condd0 rfl ?_ | refine z_conddn1 rfl ?_ | refine z_conddn0 rfl ?_ | refine c_condd rfl (fun hc => ?_) (fun hc => ?_) | refine c_conddn rfl (fun hc => ?_) (fun hc => ?_) | refine c_condn rfl (fun hc => ?_) (fun hc => ?_) | refine c_cond rfl (fun hc => ?_) (fun hc => ?_)) | refine c_block ?_ | refine c_skip ?_ | refine c_exit ?_ | refine c_ret ?_)
                | (refine e_g ?_; first | refine e_then ?_ | refine e_blkn ?_ | refine e_thenx ?_ | refine e_thenr ?_ | refine e_blkr ?_ | refine e_blkx ?_ | refine e_blky rfl ?_)
                | (refine x_g ?_; first
      | (refine x_gd rfl ?_; first | refine x_gd1 rfl rfl zTr ?_ | (refine x_gd0 rfl rfl rfl zTr ?hp ?_; (case hp => exact rfl)))
      | (refine x_k 0 rfl ?_; (refine x_val rfl rfl rfl (r_move rfl rfl) ?hp ?_; (case hp => exact rfl)))
      | (refine x_k 23 rfl ?_; first | (refine x_val rfl rfl rfl (r_field tb rfl rfl rfl) ?hp ?_; (case hp => exact rfl)) | (refine x_val rfl rfl rfl (r_fieldS tb rfl rfl rfl) ?hp ?_; (case hp => exact rfl)))
      | (refine x_k 8 rfl ?_; first | (refine' x_val rfl rfl rfl (r_ldv rfl rfl ?qm ?qv) ?hp ?_; (case qm => (exact zMm)); (case qv => (first | exact ldvL tb rfl rfl | exact ldv1 tb rfl (by assumption) | exact ldv1 tb rfl (hq.at_ hnx10 hny10) | exact zLd)); (case hp => exact rfl)) | (refine' x_val rfl rfl rfl (r_ldo rfl rfl ?qw (by simp) ?qv) ?hp ?_; (case qw => assumption); (case qv => (first | exact ldvL tb rfl rfl | exact ldv1 tb rfl (by assumption) | exact ldv1 tb rfl (hq.at_ hnx10 hny10) | exact zLd)); (case hp => exact rfl)))
      | (refine x_k 1 rfl ?_; (refine x_val rfl rfl rfl (r_assign rfl rfl) ?hp ?_; (case hp => exact rfl)))
      | (refine x_k 13 rfl ?_; first | (refine x_val rfl rfl rfl (r_lss rfl rfl rfl) ?hp ?_; (case hp => exact rfl)) | (refine x_val rfl rfl rfl (r_add rfl rfl rfl (wrap_in (by simp only [lo, hi]; omega))) ?hp ?_; (case hp => exact rfl)))
      | (refine x_k 35 rfl ?_; first | (refine x_call Try.func79 (by kernel_rfl) rfl rfl rfl rfl rfl rfl (fun w hL => ahead_any _ _ _ _ (by omega) (by omega)) ?hp ?_; (case hp => exact rfl)) | (refine x_call Try.func80 (by kernel_rfl) rfl rfl rfl rfl rfl rfl (fun w hL => canGo_any p cs _ _ _ _ hp hx10 hy10) ?hp ?_; (case hp => exact rfl)))
      | (refine x_k 2 rfl ?_; first | (refine x_val rfl rfl rfl (r_pick1 rfl rfl zTr rfl) ?hp ?_; (case hp => exact rfl)) | (refine x_val rfl rfl rfl (r_pick0 rfl rfl zTr rfl) ?hp ?_; (case hp => exact rfl)))
      | (refine x_k 25 rfl ?_; first | (refine x_val rfl rfl rfl (r_ixN tb rfl rfl rfl rfl (by omega)) ?hp ?_; (case hp => exact rfl)) | (refine x_val rfl rfl rfl (r_ixA tb rfl rfl rfl rfl (by omega) (by omega)) ?hp ?_; (case hp => exact rfl)) | (refine x_val rfl rfl rfl (r_ixO tb rfl rfl rfl rfl (by omega)) ?hp ?_; (case hp => exact rfl)))
      | (refine x_k 4 rfl ?_; (refine x_boxA rfl rfl rfl rfl rfl ?hp (fun blk => ?_); (case hp => exact rfl)))
      | (refine x_k 9 rfl ?_; first | (refine' x_putA0 tb rfl rfl rfl rfl (by first | rfl | assumption | (apply Pv.size; assumption)) ?qs (by first | rfl | assumption | (apply Pv.size; assumption)) rfl rfl ?hp ?_; (case qs => (first | exact zSet)); (case hp => exact rfl)) | (refine' x_putA1 tb rfl rfl rfl rfl (by first | rfl | assumption | (apply Pv.size; assumption)) ?qs (by first | rfl | assumption | (apply Pv.size; assumption)) rfl rfl ?hp ?_; (case qs => (first | exact zSet)); (case hp => exact rfl)) | (refine' x_putA2 tb rfl rfl rfl rfl (by first | rfl | assumption | (apply Pv.size; assumption)) ?qs (by first | rfl | assumption | (apply Pv.size; assumption)) rfl rfl ?hp ?_; (case qs => (first | exact zSet)); (case hp => exact rfl)))
      | (refine x_k 3 rfl ?_; (refine x_allocA (t := 52) rfl zImplSpot rfl rfl rfl ?hp (fun blk => ?_); (case hp => exact rfl)))
      | (refine x_k 36 rfl ?_; (refine x_val rfl rfl rfl (r_len tb rfl rfl rfl) ?hp ?_; (case hp => exact rfl)))
      | refine x_nil0 ?_
      | refine x_nil ?_)
                | (refine' c_drawX (id := 25) [(Sum.inl _ : Calm.Plan), (Sum.inl _ : Calm.Plan), (Sum.inl _ : Calm.Plan), (Sum.inl _ : Calm.Plan), (Sum.inl _ : Calm.Plan), (Sum.inl _ : Calm.Plan), (Sum.inl _ : Calm.Plan), (Sum.inl _ : Calm.Plan), (Sum.inl _ : Calm.Plan), (Sum.inl _ : Calm.Plan), (Sum.inl _ : Calm.Plan), (Sum.inl _ : Calm.Plan), (Sum.inl _ : Calm.Plan), (Sum.inl _ : Calm.Plan)] (by kernel_rfl) (by kernel_rfl) (by kernel_rfl) ?_)
                | (refine e_drop0 (e_round (k + 1, g, cap, cur, c3) (by simp; omega) ⟨by simp; omega, by simp only; rw [hf1]; exact hA, by simp only; rw [hf1]; exact hq⟩ ?_ rfl); exact sub_cons rfl (sub_cons rfl (sub_cons' rfl (by simp only; rw [hf1]) (by repeat' (first | exact sub_nil | refine sub_cons rfl ?_))))))
        · have hk4' : k = 4 := by omega
          subst hk4'
          unfold visit nbP at hst
          simp only at hst
          repeat' (first
            | (refine s_g ?_; first
      | (refine s_gd rfl ?_; first | refine s_gd1 rfl rfl zTr ?_ | refine s_gd0 rfl rfl rfl zTr ?_ | refine s_gd00 rfl rfl zTr ?_ | refine s_gp1 rfl rfl rfl (fun hc => ?_) (fun hc => ?_) | refine s_gp0 rfl rfl rfl (fun hc => ?_) (fun hc => ?_) | refine s_gnp1 rfl rfl rfl (fun hc => ?_) (fun hc => ?_) | refine s_gnp0 rfl rfl rfl (fun hc => ?_) (fun hc => ?_) | refine s_gb1 rfl rfl rfl (fun hc => ?_) (fun hc => ?_) | refine s_gb0 rfl rfl rfl (fun hc => ?_) (fun hc => ?_) | refine s_gnb1 rfl rfl rfl (fun hc => ?_) (fun hc => ?_) | refine s_gnb0 rfl rfl rfl (fun hc => ?_) (fun hc => ?_))
      | (refine s_k 0 rfl ?_; refine s_val rfl rfl rfl (r_move rfl rfl) ?_)
      | (refine s_k 23 rfl ?_; first | refine s_val rfl rfl rfl (r_field tb rfl rfl rfl) ?_ | refine s_val rfl rfl rfl (r_fieldS tb rfl rfl rfl) ?_)
      | (refine s_k 8 rfl ?_; first | (refine' s_val rfl rfl rfl (r_ldv rfl rfl ?qm ?qv) ?_; (case qm => (exact zMm)); (case qv => (exact zLe))) | (refine' s_val rfl rfl rfl (r_ldo rfl rfl ?qw (by simp) ?qv) ?_; (case qw => assumption); (case qv => (exact zLe))))
      | (refine s_k 1 rfl ?_; refine s_val rfl rfl rfl (r_assign rfl rfl) ?_)
      | (refine s_k 13 rfl ?_; first | refine s_val rfl rfl rfl (r_lss rfl rfl rfl) ?_ | refine s_val rfl rfl rfl (r_add rfl rfl rfl (wrap_in (by simp only [lo, hi]; omega))) ?_)
      | (refine s_k 2 rfl ?_; first | refine s_val rfl rfl rfl (r_pick1 rfl rfl zTr rfl) ?_ | refine s_val rfl rfl rfl (r_pick0 rfl rfl zTr rfl) ?_)
      | (refine s_k 25 rfl ?_; first | refine s_val rfl rfl rfl (r_ixN tb rfl rfl rfl rfl (by omega)) ?_ | refine s_val rfl rfl rfl (r_ixA tb rfl rfl rfl rfl (by omega) (by omega)) ?_ | refine s_val rfl rfl rfl (r_ixO tb rfl rfl rfl rfl (by omega)) ?_)
      | (refine s_k 4 rfl ?_; first | refine s_boxA rfl rfl rfl rfl rfl fun blk => ?_ | refine s_box1 rfl rfl rfl rfl rfl rfl fun blk => ?_)
      | (refine s_k 9 rfl ?_; (first | refine s_st1 tb rfl rfl rfl rfl rfl rfl rfl rfl ?_ | refine s_stA tb rfl rfl rfl rfl (by first | rfl | assumption | (apply Pv.size; assumption)) rfl rfl ?_); (first | refine' st0 ?qs ?_ | refine' st1 ?qs ?_ | refine' st2 ?qs ?_ | refine' st3 ?qs ?_ | refine' st4 ?qs ?_ | refine' st5 ?qs ?_ | refine' st6 ?qs ?_ | refine' st7 ?qs ?_ | refine' st8 ?qs ?_ | refine' st9 ?qs ?_ | refine' st10 ?qs ?_ | refine' st11 ?qs ?_); (case qs => (first | exact zSet)))
      | (refine s_k 36 rfl ?_; refine s_val rfl rfl rfl (r_len tb rfl rfl rfl) ?_)
      | refine s_nil ?_)
            | (refine c_g ?_; first | refine c_seq ?_ | refine c_region ?_ | (refine c_gc ?_; first | refine c_cond1 rfl zTr ?_ | refine c_cond0 rfl zTr ?_ | refine z_condd1 rfl ?_ | refine z_condd0 rfl ?_ | refine z_conddn1 rfl ?_ | refine z_conddn0 rfl ?_ | refine c_condd rfl (fun hc => ?_) (fun hc => ?_) | refine c_conddn rfl (fun hc => ?_) (fun hc => ?_) | refine c_condn rfl (fun hc => ?_) (fun hc => ?_) | refine c_cond rfl (fun hc => ?_) (fun hc => ?_)) | refine c_block ?_ | refine c_skip ?_ | refine c_exit ?_ | refine c_ret ?_)
            | (refine e_g ?_; first | refine e_then ?_ | refine e_blkn ?_ | refine e_thenx ?_ | refine e_thenr ?_ | refine e_blkr ?_ | refine e_blkx ?_ | refine e_blky rfl ?_)
            | (refine e_drop0 (e_round (i + 1, g, cap, cur, c3) (by simp; omega) ⟨?_, by simp only; rw [hnx, hst]; exact hA, by simp only; rw [hnx, hst]; exact hq⟩ ?_ rfl)))
          all_goals first
            | ((refine sub_cons rfl (sub_cons' rfl (by simp only; rw [hnx, hst]) ?_); (repeat' (first | exact sub_nil | refine sub_cons rfl ?_))); done)
            | (simp only; rw [hnx, hst]; have := fold_len (s := ⟨x, y⟩) (besL p x y 4) Q; omega)
      · have hend := bfs_stop hbi hnb (i := i) (by omega)
        have hfin : giA .i16 1 (stepsP p l).1 = c3 := by
          have h1 := giA_ok .i16 1 (stepsP p l).1
          unfold stepsP at h1 ⊢
          rw [hend] at h1 ⊢
          exact h1.uniq hq
        rw [hfin]
        have hqs := hq.size
        repeat' (first
          | (refine s_g ?_; first
      | (refine s_gd rfl ?_; first | refine s_gd1 rfl rfl zTr ?_ | refine s_gd0 rfl rfl rfl zTr ?_ | refine s_gd00 rfl rfl zTr ?_ | refine s_gp1 rfl rfl rfl (fun hc => ?_) (fun hc => ?_) | refine s_gp0 rfl rfl rfl (fun hc => ?_) (fun hc => ?_) | refine s_gnp1 rfl rfl rfl (fun hc => ?_) (fun hc => ?_) | refine s_gnp0 rfl rfl rfl (fun hc => ?_) (fun hc => ?_) | refine s_gb1 rfl rfl rfl (fun hc => ?_) (fun hc => ?_) | refine s_gb0 rfl rfl rfl (fun hc => ?_) (fun hc => ?_) | refine s_gnb1 rfl rfl rfl (fun hc => ?_) (fun hc => ?_) | refine s_gnb0 rfl rfl rfl (fun hc => ?_) (fun hc => ?_))
      | (refine s_k 0 rfl ?_; refine s_val rfl rfl rfl (r_move rfl rfl) ?_)
      | (refine s_k 23 rfl ?_; first | refine s_val rfl rfl rfl (r_field tb rfl rfl rfl) ?_ | refine s_val rfl rfl rfl (r_fieldS tb rfl rfl rfl) ?_)
      | (refine s_k 8 rfl ?_; first | (refine' s_val rfl rfl rfl (r_ldv rfl rfl ?qm ?qv) ?_; (case qm => (exact zMm)); (case qv => (exact zLe))) | (refine' s_val rfl rfl rfl (r_ldo rfl rfl ?qw (by simp) ?qv) ?_; (case qw => assumption); (case qv => (exact zLe))))
      | (refine s_k 1 rfl ?_; refine s_val rfl rfl rfl (r_assign rfl rfl) ?_)
      | (refine s_k 13 rfl ?_; first | refine s_val rfl rfl rfl (r_lss rfl rfl rfl) ?_ | refine s_val rfl rfl rfl (r_add rfl rfl rfl (wrap_in (by simp only [lo, hi]; omega))) ?_)
      | (refine s_k 2 rfl ?_; first | refine s_val rfl rfl rfl (r_pick1 rfl rfl zTr rfl) ?_ | refine s_val rfl rfl rfl (r_pick0 rfl rfl zTr rfl) ?_)
      | (refine s_k 25 rfl ?_; first | refine s_val rfl rfl rfl (r_ixN tb rfl rfl rfl rfl (by omega)) ?_ | refine s_val rfl rfl rfl (r_ixA tb rfl rfl rfl rfl (by omega) (by omega)) ?_ | refine s_val rfl rfl rfl (r_ixO tb rfl rfl rfl rfl (by omega)) ?_)
      | (refine s_k 4 rfl ?_; first | refine s_boxA rfl rfl rfl rfl rfl fun blk => ?_ | refine s_box1 rfl rfl rfl rfl rfl rfl fun blk => ?_)
      | (refine s_k 9 rfl ?_; (first | refine s_st1 tb rfl rfl rfl rfl rfl rfl rfl rfl ?_ | refine s_stA tb rfl rfl rfl rfl (by first | rfl | assumption | (apply Pv.size; assumption)) rfl rfl ?_); (first | refine' st0 ?qs ?_ | refine' st1 ?qs ?_ | refine' st2 ?qs ?_ | refine' st3 ?qs ?_ | refine' st4 ?qs ?_ | refine' st5 ?qs ?_ | refine' st6 ?qs ?_ | refine' st7 ?qs ?_ | refine' st8 ?qs ?_ | refine' st9 ?qs ?_ | refine' st10 ?qs ?_ | refine' st11 ?qs ?_); (case qs => (first | exact setG hq zSt_ok.size | exact zSet)))
      | (refine s_k 36 rfl ?_; refine s_val rfl rfl rfl (r_len tb rfl rfl rfl) ?_)
      | refine s_nil ?_)
          | (refine c_g ?_; first | refine c_seq ?_ | refine c_region ?_ | (refine c_gc ?_; first | refine c_cond1 rfl zTr ?_ | refine c_cond0 rfl zTr ?_ | refine z_condd1 rfl ?_ | refine z_condd0 rfl ?_ | refine z_conddn1 rfl ?_ | refine z_conddn0 rfl ?_ | refine c_condd rfl (fun hc => ?_) (fun hc => ?_) | refine c_conddn rfl (fun hc => ?_) (fun hc => ?_) | refine c_condn rfl (fun hc => ?_) (fun hc => ?_) | refine c_cond rfl (fun hc => ?_) (fun hc => ?_)) | refine c_block ?_ | refine c_skip ?_ | refine c_exit ?_ | refine c_ret ?_)
          | (refine e_g ?_; first | refine e_then ?_ | refine e_blkn ?_ | refine e_thenx ?_ | refine e_thenr ?_ | refine e_blkr ?_ | refine e_blkx ?_ | refine e_blky rfl ?_)
          | (refine e_ret1 (by simp) rfl (re_cell tb rfl m2 rfl hq.size) fun w hL => ⟨rfl, hL.toBelow⟩))
end Go.Proofs.Ytnafnhpajkhgkaa
