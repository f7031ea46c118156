import Derived.Test.YtnafnhpajkhgkaaQY10
import Derived.Test.YtnafnhpajkhgkaaQY12
import Derived.Test.YtnafnhpajkhgkaaQY13
/- Steps from some cells: the program's table. No condition. -/
namespace Go.Proofs.Ytnafnhpajkhgkaa
set_option linter.unusedVariables false
set_option linter.unusedSimpArgs false
open Go.RowKit Mem Wk
attribute [local irreducible] Calls Wk.S Wk.C Wk.E Wk.X Wk.T Wk.andV Wk.shrV Calm.wpLex bfsN
section
variable {P : Program} {ops : Array Oper} {Q : Exit → Act → World → Prop} {n : Nat} {O : List Nat} {w0 : World} {rest : List Oper} {l : List (Nat × Value)} {L : List (Nat × TypeId × Array Value)} {b0 b1 b2 b3 b4 b5 : Nat × TypeId × Array Value} {g : Nat} {T : TypeId} {k : IntKind} {o : Int} {D : Nat → Int} {cs : Array Value}
theorem absG0 (hp : GI k o D cs) (h : ∀ cs', GI k o D cs' → S P ops Q n O w0 rest l ((g, T, cs') :: L)) : S P ops Q n O w0 rest l ((g, T, cs) :: L) := h cs hp
theorem absG3 (hp : GI k o D cs) (h : ∀ cs', GI k o D cs' → S P ops Q n O w0 rest l (b0 :: b1 :: b2 :: (g, T, cs') :: L)) : S P ops Q n O w0 rest l (b0 :: b1 :: b2 :: (g, T, cs) :: L) := h cs hp
end
theorem setG {k : IntKind} {o : Int} {D : Nat → Int} {c cs : Array Value} (h : GI k o D cs) (hc : c.size = 100) : Wk.Set c 0 cs cs := set_whole (by rw [h.size, hc]) h.one
theorem run_eqNil (t : TypeId) (a : Addr) (m c : Nat) (w : World) (e : TypeId) (ht : Try.prog.underlying t = some (.slice e)) : (Op.equal t (.slice (some a) m c) (.slice none 0 0)).run Try.prog w = .ok false w := by
  unfold Op.equal Op.maxDepth
  rw [show (10000 : Nat) = 9999 + 1 by rfl]
  unfold Op.equalIn
  simp [run_underlying ht]
theorem gd_eqNil (op : BinOp) (t : TypeId) (x y : Operand) (a b : Option Addr) (m c m' c' : Nat) (w : World) : (eqGuard op t x y (.slice a m c) (.slice b m' c')).run Try.prog w = .ok () w := by
  unfold eqGuard
  split <;> rfl
theorem r_eqNil {n : Nat} {O : List Nat} {w0 : World} {l : List (Nat × Value)} {L : List (Nat × TypeId × Array Value)} {o : Oper} {x y : Operand} {t t' m c : Nat} {a : Addr} {e : TypeId} (ho : o.op = .binOp .eql t x y t') (hx : ev l x = some (.slice (some a) m c)) (hy : ev l y = some (.slice none 0 0)) (ht : Try.prog.underlying t = some (.slice e)) : Rn Try.prog n O w0 l L o (.bool false) := fun ac w hF hL => by
  simp [execOp, ho, hF.eval hx, hF.eval hy, gd_eqNil, binOp, run_eqNil _ _ _ _ w e ht]
theorem flS_one (l : List Sp) : ∀ u ∈ flS l, u.oneCell' = true := by
  intro u hu
  unfold flS at hu
  obtain ⟨c, hc, hu⟩ := List.mem_flatten.1 hu
  obtain ⟨s, _, rfl⟩ := List.mem_map.1 hc
  simp [Sp.cells] at hu
  rcases hu with rfl | rfl <;> rfl
theorem Wk.Ap.cx {n cap : Nat} {cur : Array Value} {l : List Sp} (h : Ap 2 n cap cur (flS l)) {i : Nat} {s : Sp} (hi : l[i]? = some s) : cur[0 + i * 2 + 0]? = some (.int .i8 s.x) := by
  obtain ⟨h1, h2⟩ := h.spot hi
  have e : (cur.extract (0 + i * 2) (0 + i * 2 + 2))[0]? = some (.int .i8 s.x) := by rw [h2]; rfl
  rw [Array.getElem?_extract] at e
  split at e
  · exact e
  · cases e
theorem Wk.Ap.cy {n cap : Nat} {cur : Array Value} {l : List Sp} (h : Ap 2 n cap cur (flS l)) {i : Nat} {s : Sp} (hi : l[i]? = some s) : cur[0 + i * 2 + 1]? = some (.int .i8 s.y) := by
  obtain ⟨h1, h2⟩ := h.spot hi
  have e : (cur.extract (0 + i * 2) (0 + i * 2 + 2))[1]? = some (.int .i8 s.y) := by rw [h2]; rfl
  rw [Array.getElem?_extract] at e
  split at e
  · exact e
  · cases e
theorem Wk.Ap.cnt {n cap : Nat} {cur : Array Value} {l : List Sp} (h : Ap 2 n cap cur (flS l)) : n = l.length := by
  have h1 := h.len; rw [flS_len] at h1; omega
set_option maxRecDepth 100000 in
theorem clone_any (l : List Sp) (b off cap : Nat) (w : World) (hS : SlA [] w 2 (some ⟨b, off, none⟩) (l.map Sp.cells)) (hn : l.length ≤ 1048576) :
    Calls Try.prog 51 #[.slice (some ⟨b, off, none⟩) l.length cap] w (NewS 52 2 (flS l) w) := by
  refine enter1 Try.func51 rfl rfl rfl (Own.start w) ?_
  repeat' (first
    | (refine s_g ?_; first
      | (refine s_k 0 rfl ?_; refine s_val rfl rfl rfl (r_move rfl rfl) ?_)
      | (refine s_k 1 rfl ?_; refine s_val rfl rfl rfl (r_assign rfl rfl) ?_)
      | (refine s_k 13 rfl ?_; first | refine s_val rfl rfl rfl (r_eqNil rfl rfl rfl uSpotS) ?_ | refine s_val rfl rfl rfl (r_eql rfl rfl rfl) ?_)
      | (refine s_k 36 rfl ?_; refine s_appS (pre := []) (post := []) rfl uSpotS iSpot rfl (by omega) (Ap.nil 2) hS (by simp) rfl rfl (flS_one l) (by unfold maxLen; omega) (by omega) rfl rfl rfl fun g cap cur hA => ?_)
      | (refine s_k 6 rfl ?_; refine s_bsl rfl rfl (fun w => slSpot0 w) rfl rfl rfl fun blk => ?_)
      | refine s_nil ?_)
    | (refine c_g ?_; first | refine c_seq ?_ | refine c_region ?_ | (refine c_gc ?_; first | refine c_cond1 rfl zTr ?_ | refine c_cond0 rfl zTr ?_ | refine z_condd1 rfl ?_ | refine z_condd0 rfl ?_ | refine z_conddn1 rfl ?_ | refine z_conddn0 rfl ?_ | refine c_condd rfl (fun hc => ?_) (fun hc => ?_) | refine c_conddn rfl (fun hc => ?_) (fun hc => ?_) | refine c_condn rfl (fun hc => ?_) (fun hc => ?_) | refine c_cond rfl (fun hc => ?_) (fun hc => ?_)) | refine c_block ?_ | refine c_skip ?_ | refine c_exit ?_ | refine c_ret ?_)
    | (refine e_g ?_; first | refine e_then ?_ | refine e_blkn ?_ | refine e_thenx ?_ | refine e_thenr ?_ | refine e_blkr ?_ | refine e_blkx ?_ | refine e_blky rfl ?_)
    | (refine e_ret1 (by simp) rfl (re_tmp rfl) fun w hL => NewS.of (by simpa [flS] using hA) hL m0))
end Go.Proofs.Ytnafnhpajkhgkaa
/- DeleteFunc over spots, for any closure that only looks. No condition but a length of at most 2^20. -/
namespace Go.Proofs.Ytnafnhpajkhgkaa
set_option linter.unusedVariables false
set_option linter.unusedSimpArgs false
open Go.RowKit Mem Wk
attribute [local irreducible] Calls Wk.S Wk.C Wk.E Wk.X Wk.T Calm.wpLex
theorem sp_one : ∀ u ∈ (Value.agg #[.int .i8 0, .int .i8 0]).cells.toList, u.oneCell' = true := by simp [Value.cells, Value.oneCell']
theorem ext_el {c : Array Value} {i : Nat} {s : Sp} (h0 : c[i * 2 + 0]? = some (.int .i8 s.x)) (h1 : c[i * 2 + 1]? = some (.int .i8 s.y)) : 0 + i * 2 + 2 ≤ c.size ∧ c.extract (0 + i * 2) (0 + i * 2 + 2) = s.cells.toArray := by
  have l1 := (Array.getElem?_eq_some_iff.1 h1).1
  refine ⟨by omega, ?_⟩
  apply Array.ext_getElem?
  intro k
  rw [Array.getElem?_extract]
  by_cases hk : k < 2
  · rw [if_pos (by omega)]
    match k, hk with
    | 0, _ => rw [show 0 + i * 2 + 0 = i * 2 + 0 by omega, h0]; simp [Sp.cells]
    | 1, _ => rw [show 0 + i * 2 + 1 = i * 2 + 1 by omega, h1]; simp [Sp.cells]
  · rw [if_neg (by omega), Array.getElem?_eq_none (by simp [Sp.cells]; omega)]
end Go.Proofs.Ytnafnhpajkhgkaa
