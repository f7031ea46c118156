import Derived.Test.YtpifngdmlmfnhaaQE03
import Derived.Test.YtpifngdmlmfnhaaQE11
import Derived.Test.YtpifngdmlmfnhaaQE13
import Derived.Test.YtpifngdmlmfnhaaQE21
import Derived.Test.YtpifngdmlmfnhaaQE30
/- FnRopes: calls with answers that are not determined; a drawn region that reads what it has made. Plain; no condition. -/
namespace Go.Proofs.Ytpifngdmlmfnhaa
set_option linter.unusedVariables false
set_option linter.unusedSimpArgs false
open Go.RowKit Mem Wk

section
variable {P : Program} {n : Nat} {O : List Nat} {w0 : World} {l : List (Nat × Value)} {N L : List (Nat × TypeId × Array Value)} {Q : Exit → Act → World → Prop} {ops : Array Oper} {o : Oper} {rest : List Oper} {kk d : Nat} {x y : Operand} {Nok : List (Nat × TypeId × Array Value) → Prop} {pl : Nat → CalmE.Plan (List (Nat × TypeId × Array Value))}
theorem s_callX {ι : Type} {f : FuncId} {fn : Func} {xs : Array Operand} {ts : Array TypeId} {vs : List Value} (Pf : ι → Prop) (vf : ι → Value) (hf : P.funcs[f]? = some fn) (hname : (fn.name == "runtime.NumGoroutine") = false) (hb : fn.body.isSome = true) (hg : o.guard = none) (hd : o.dst = some d) (hn : Nat.blt d n = true)
    (hop : o.op = .call { callee := .value (.func f), args := xs, argTypes := ts }) (hargs : evs l xs.toList = some vs)
    (hc : ∀ w, Kn O w0 w L → Calls P f vs.toArray w fun e w' => ∃ i, Pf i ∧ e = .returned (vf i) ∧ Below w.heap.size w w') (h : ∀ i, Pf i → S P ops Q n O w0 rest ((d, vf i) :: l) L) : S P ops Q n O w0 (o :: rest) l L :=
  s_callR Pf vf (fun _ => L) hf hname hb hg hd hn hop hargs (fun w hL => (hc w hL).mono fun e w' ⟨i, hi, he, hu⟩ => ⟨i, hi, he, Own.ext hL hu⟩) h
theorem s_callW {f : FuncId} {fn : Func} {xs : Array Operand} {ts : Array TypeId} {vs : List Value} {T : TypeId} {R : List Sp → Prop} (hf : P.funcs[f]? = some fn) (hname : (fn.name == "runtime.NumGoroutine") = false) (hb : fn.body.isSome = true) (hg : o.guard = none) (hd : o.dst = some d) (hn : Nat.blt d n = true)
    (hop : o.op = .call { callee := .value (.func f), args := xs, argTypes := ts }) (hargs : evs l xs.toList = some vs)
    (hc : ∀ w, Kn O w0 w L → Calls P f vs.toArray w fun e w' => ∃ s, R s ∧ NewS T 2 (flS s) w e w') (h : ∀ s g k cap cur, R s → Ap 2 k cap cur (flS s) → S P ops Q n O w0 rest ((d, .slice (some ⟨g, 0, none⟩) k cap) :: l) ((g, T, cur) :: L)) : S P ops Q n O w0 (o :: rest) l L :=
  s_callR (ι := List Sp × Nat × Nat × Nat × Array Value) (fun i => R i.1 ∧ Ap 2 i.2.2.1 i.2.2.2.1 i.2.2.2.2 (flS i.1)) (fun i => .slice (some ⟨i.2.1, 0, none⟩) i.2.2.1 i.2.2.2.1) (fun i => (i.2.1, T, i.2.2.2.2) :: L) hf hname hb hg hd hn hop hargs
    (fun w hL => (hc w hL).mono fun e w' ⟨s, hs, g, k, cap, cur, he, hA, hge, hat, hb⟩ => ⟨(s, g, k, cap, cur), ⟨hs, hA⟩, he, Own.add hL hb hge hat⟩) (fun ⟨s, g, k, cap, cur⟩ hA => h s g k cap cur hA.1 hA.2)
/-- append of another own slice to the one that is being made -/
theorem z_app2 {t e : TypeId} {zz : Value} {sz bytes : Nat} (ho : o.op = .call { callee := .builtin .append, args := #[x, y], argTypes := #[t, t] }) (ht : P.underlying t = some (.slice e)) (hi : (P.info? e).map (fun i => (i.zero, i.size, i.bytes)) = some (some zz, sz, bytes)) (hzs : zz.cells.size = sz) (hsz : 0 < sz)
    {g k cap : Nat} {cur : Array Value} {cs : List Value} (hA : Ap sz k cap cur cs) {b off m c : Nat} {xs : List (List Value)} (hS : ∀ w, Kn [] w0 w ([(g, e, cur)] ++ L) → SlA [] w sz (some ⟨b, off, none⟩) xs) (hxl : xs.flatten.length = m * sz) (hx : ev l x = some (.slice (some ⟨g, 0, none⟩) k cap)) (hy : ev l y = some (.slice (some ⟨b, off, none⟩) m c)) (h1 : ∀ u ∈ xs.flatten, u.oneCell' = true)
    (h63 : k + m ≤ maxLen) (hbytes : (k + m) * bytes ≤ 140737488355328) (hg : o.guard = none) (hd : o.dst = some d) (hdn : Nat.blt d n = true) (hok : ∀ N, Nok N)
    (hp : pl kk = .inr (fun v N' => ∃ i : Nat × Nat × Array Value, Ap sz (k + m) i.2.1 i.2.2 (cs ++ xs.flatten) ∧ v = .slice (some ⟨i.1, 0, none⟩) (k + m) i.2.1 ∧ N' = [(i.1, e, i.2.2)]))
    (h : ∀ g' cap' cur', Ap sz (k + m) cap' cur' (cs ++ xs.flatten) → Z P ops Q n [] w0 Nok pl rest (kk + 1) ((d, .slice (some ⟨g', 0, none⟩) (k + m) cap') :: l) [(g', e, cur')] L) : Z P ops Q n [] w0 Nok pl (o :: rest) kk l [(g, e, cur)] L :=
  z_eff (fun i : Nat × Nat × Array Value => Ap sz (k + m) i.2.1 i.2.2 (cs ++ xs.flatten)) (fun i => .slice (some ⟨i.1, 0, none⟩) (k + m) i.2.1) (fun i => [(i.1, e, i.2.2)]) hg (fun a w hF hw => by
    unfold CalmE.effAt execOp
    obtain ⟨g', cap', cur', w', hr, hA', hL'⟩ := run_appA (P := P) (ty := o.type) (c := c) (pre := []) ht hi hzs hsz hA hw (by simp) hxl (hS w hw).news h1 h63 hbytes
    simp only [ho, resolve, invoke, builtin, Sem.run_bind, Sem.run_pure, Result.andThen_ok, List.map_toArray, List.map_cons, List.map_nil, hF.eval hx, hF.eval hy, hr]
    exact ⟨(g', cap', cur'), hA', rfl, hL'⟩) ⟨(0, k + m, (cs ++ xs.flatten).toArray), by
        have h2 : (cs ++ xs.flatten).length = (k + m) * sz := by rw [List.length_append, hA.len, hxl, Nat.add_mul]
        exact ⟨h2, Nat.le_refl _, h63, by simpa using h2, by rw [← h2]; exact List.take_length⟩⟩ (fun _ _ => hok _) hp (fun i hi a hF => by rw [hd]; exact h i.1 i.2.1 i.2.2 hi _ (hF.put hdn _))
/-- a callee that reads what has been made -/
theorem z_readE {f : FuncId} {fn : Func} {xs : Array Operand} {ts : Array TypeId} {vs : List Value} {v : Value} {e : TypeId} {sz g m cap : Nat} {cur : Array Value} {ys : List Value} (hA : Ap sz m cap cur ys) (hf : P.funcs[f]? = some fn) (hname : (fn.name == "runtime.NumGoroutine") = false) (hb : fn.body.isSome = true) (hg : o.guard = none) (hd : o.dst = some d) (hn : Nat.blt d n = true)
    (hop : o.op = .call { callee := .value (.func f), args := xs, argTypes := ts }) (hargs : evs l xs.toList = some vs)
    (hc : ∀ w, Kn O w0 w ([(g, e, cur)] ++ L) → Calls P f vs.toArray w fun e w' => e = .returned v ∧ Below w.heap.size w w') (hok : ∀ N, Nok N)
    (hp : pl kk = .inr (fun v' N' => ∃ i : Nat × Nat × Array Value, Ap sz m i.2.1 i.2.2 ys ∧ v' = v ∧ N' = [(i.1, e, i.2.2)]))
    (h : ∀ g' cap' cur', Ap sz m cap' cur' ys → Z P ops Q n O w0 Nok pl rest (kk + 1) ((d, v) :: l) [(g', e, cur')] L) : Z P ops Q n O w0 Nok pl (o :: rest) kk l [(g, e, cur)] L :=
  z_write (fun i : Nat × Nat × Array Value => Ap sz m i.2.1 i.2.2 ys) (fun _ => v) (fun i => [(i.1, e, i.2.2)]) hf hname hb hg hd hn hop hargs
    (fun w hw => (hc w hw).mono fun e w' ⟨he, hu⟩ => ⟨(g, cap, cur), hA, he, Own.ext hw hu⟩) ⟨(g, cap, cur), hA⟩ (fun _ _ => hok _) hp (fun i hi => h i.1 i.2.1 i.2.2 hi)
end
attribute [local irreducible] Calls Wk.S Wk.C Wk.E Wk.X Wk.T Wk.Y Wk.Z Calm.wpLex CalmB.wpLex CalmE.wpLex
theorem WkOk.oks {p : Nat → Int} {a : Sp} {l : List Sp} (h : WkOk p a l) : ∀ s ∈ l, s.ok := fun s hs => inR_ok (isC_range (h.cell s hs).1)
theorem implW_ok {p : Nat → Int} {cs : Array Value} {a : Sp} {u : Value} {l : List Sp} {w : World} (hp : Pv p cs) (hv : validP p = true) (ha : cel p a) (hU : Sl w 2 u (l.map Sp.cells)) (hW : WkOk p a l) (h1 : 1 ≤ l.length) (h2 : l.length ≤ 200) : Calls Try.prog 62 #[.agg cs, .agg #[.int .i8 a.x, .int .i8 a.y], u] w fun e w' => e = .returned (.tuple #[.int .i64 (wnd a l), .int .i64 0]) ∧ Below w.heap.size w w' := by
  have hc := walkC_ok hv ha hW h1 h2 (len := 0) (by omega)
  have h := implWindsOf_sl hp (inR_ok (isC_range ha)) hU hW.oks
  rw [windsV_ok hc, hc] at h
  exact h
theorem specW_ok {p : Nat → Int} {cs : Array Value} {a : Sp} {u : Value} {l : List Sp} {w : World} (hp : Pv p cs) (hv : validP p = true) (ha : cel p a) (hU : Sl w 2 u (l.map Sp.cells)) (hW : WkOk p a l) (h1 : 1 ≤ l.length) (h2 : l.length ≤ 200) : Calls Try.prog 63 #[.agg cs, .agg #[.int .i8 a.x, .int .i8 a.y], u] w fun e w' => e = .returned (.tuple #[.int .i64 (wnd a l), .int .i64 0]) ∧ Below w.heap.size w w' := by
  have hc := walkC_ok hv ha hW h1 h2 (len := 0) (by omega)
  have h := specWindsOf_sl hp (inR_ok (isC_range ha)) hU hW.oks
  rw [windsV_ok hc, hc] at h
  exact h
theorem implR_ok {p : Nat → Int} {cs : Array Value} {a : Sp} {u : Value} {l : List Sp} {w : World} (hp : Pv p cs) (hv : validP p = true) (ha : cel p a) (hU : Sl w 2 u (l.map Sp.cells)) (hW : WkOk p a l) (h1 : 1 ≤ l.length) (h2 : l.length ≤ 200) : Calls Try.prog 65 #[.agg cs, .agg #[.int .i8 a.x, .int .i8 a.y], u, .int .i64 9] w fun e w' => e = .returned (.tuple #[.int .i64 (ropeV p a l 9), .int .i64 0]) ∧ Below w.heap.size w w' := by
  have hc := walkC_ok hv ha hW h1 h2 (len := 9) (by omega)
  have h := implRopeLeft_sl (len := 9) hp (inR_ok (isC_range ha)) hU hW.oks
  rw [hc] at h
  exact h
theorem specR_ok {p : Nat → Int} {cs : Array Value} {a : Sp} {u : Value} {l : List Sp} {w : World} (hp : Pv p cs) (hv : validP p = true) (ha : cel p a) (hU : Sl w 2 u (l.map Sp.cells)) (hW : WkOk p a l) (h1 : 1 ≤ l.length) (h2 : l.length ≤ 200) : Calls Try.prog 66 #[.agg cs, .agg #[.int .i8 a.x, .int .i8 a.y], u, .int .i64 9] w fun e w' => e = .returned (.tuple #[.int .i64 (ropeV p a l 9), .int .i64 0]) ∧ Below w.heap.size w w' := by
  have hc := walkC_ok hv ha hW h1 h2 (len := 9) (by omega)
  have h := specRopeLeft_sl (len := 9) hp (inR_ok (isC_range ha)) hU hW.oks
  rw [hc] at h
  exact h
theorem implVW_any {p : Nat → Int} {cs : Array Value} {a : Sp} {u : Value} {l : List Sp} {w : World} (hp : Pv p cs) (ha : cel p a) (hU : Sl w 2 u (l.map Sp.cells)) (hok : ∀ h ∈ l, h.ok) : Calls Try.prog 61 #[.agg cs, .agg #[.int .i8 a.x, .int .i8 a.y], u] w fun e w' => e = .returned (.bool (wkV p a l)) ∧ Below w.heap.size w w' := by
  have hn := sl_fit hU
  obtain ⟨A, cap, rfl, h1, h2, hS⟩ := hU.open
  rw [List.length_map] at hn h1 ⊢
  exact implWalk_any p cs a.x a.y l A cap w hp (inR_ok (isC_range ha)) hS hn hok
theorem wkV_ok {p : Nat → Int} {a : Sp} {l : List Sp} (hv : validP p = true) (ha : cel p a) (hW : WkOk p a l) (h1 : 1 ≤ l.length) (h2 : l.length ≤ 200) : wkV p a l = true := by
  have hb : walkB p a l = true := walkB_iff.2 ⟨⟨h1, h2⟩, hW⟩
  unfold cel at ha
  unfold wkV; rw [hv, ha, hb]; rfl
set_option maxRecDepth 100000 in
theorem f6big_any (bs : List (List Value)) (A : Option Addr) (cap : Nat) (w : World) (b : Bool) (hb : decide ((4096 : Int) < (bs.length : Int)) = b) : Calls Try.prog 57 #[.slice A bs.length cap] w fun e w' => e = .returned (.bool b) ∧ Below w.heap.size w w' := by
  subst hb
  refine enter1 Try.func57 rfl rfl rfl (Own.start w) ?_
  repeat' (first
    | (refine s_g ?_; first
      | (refine s_k 0 rfl ?_; refine s_val rfl rfl rfl (r_move rfl rfl) ?_)
      | (refine s_k 1 rfl ?_; refine s_val rfl rfl rfl (r_assign rfl rfl) ?_)
      | (refine s_k 13 rfl ?_; refine s_val rfl rfl rfl (r_gtr rfl rfl rfl) ?_)
      | (refine s_k 36 rfl ?_; refine s_val rfl rfl rfl (r_len tb rfl rfl rfl) ?_)
      | refine s_nil ?_)
    | (refine c_g ?_; first | refine c_seq ?_ | refine c_region ?_ | (refine c_gc ?_; first | refine c_cond1 rfl zTr ?_ | refine c_cond0 rfl zTr ?_ | refine z_condd1 rfl ?_ | refine z_condd0 rfl ?_ | refine z_conddn1 rfl ?_ | refine z_conddn0 rfl ?_ | refine c_condd rfl (fun hc => ?_) (fun hc => ?_) | refine c_conddn rfl (fun hc => ?_) (fun hc => ?_) | refine c_condn rfl (fun hc => ?_) (fun hc => ?_) | refine c_cond rfl (fun hc => ?_) (fun hc => ?_)) | refine c_block ?_ | refine c_skip ?_ | refine c_exit ?_ | refine c_ret ?_)
    | (refine e_g ?_; first | refine e_then ?_ | refine e_blkn ?_ | refine e_thenx ?_ | refine e_thenr ?_ | refine e_blkr ?_ | refine e_blkx ?_ | refine e_blky rfl ?_)
    | (refine e_ret1 (by simp) rfl (re_tmp rfl) fun w hL => ⟨rfl, hL.toBelow⟩))
theorem wnd_rng (a : Sp) (l : List Sp) : -(l.length : Int) ≤ wnd a l ∧ wnd a l ≤ l.length := by
  have := wsum_le a l (l.length - 1)
  unfold wnd
  omega
end Go.Proofs.Ytpifngdmlmfnhaa
