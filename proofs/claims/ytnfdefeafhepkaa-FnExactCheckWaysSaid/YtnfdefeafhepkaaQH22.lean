import Derived.Test.YtnfdefeafhepkaaQH09
import Derived.Test.YtnfdefeafhepkaaQH11
import Derived.Test.YtnfdefeafhepkaaQH12
import Derived.Test.YtnfdefeafhepkaaQH16
import Derived.Test.YtnfdefeafhepkaaQH17
import Derived.Test.YtnfdefeafhepkaaQH18
import Derived.Test.YtnfdefeafhepkaaQH21
/- Arguments that are lists of lists of cells: opened. No condition. -/
namespace Go.Proofs.Ytnfdefeafhepkaa
set_option linter.unusedVariables false
set_option linter.unusedSimpArgs false
open Go.RowKit Mem Wk
section
variable {H : Type} {enc : TypeId × Value → H} {P : Program} {w : World} {base : Nat} {spare : Nat → Bool} {held : Bool}
theorem slice_core {Pr : List Value → Prop} {t e : TypeId} {v : Value} {fuel : Nat} {x : DataW H × List MemPlace} (ht : P.underlying t = some (.slice e)) (h0 : 0 < P.cellsOf e)
    (hel : ∀ n cs y, DataW.trod enc P w base spare held n e cs = some y → cs.length = P.cellsOf e → Pr cs) (hf : DataW.trod enc P w base spare held fuel t [v] = some x) : ∃ xs, Sl w (P.cellsOf e) v xs ∧ ∀ c ∈ xs, Pr c := by
  rcases Deep.open_slice ht hf with ⟨hcs, _⟩ | ⟨a, len, cap, m, n', D, Pl, hcs, _, hle, hm, hmm, _, hx⟩
  · simp at hcs
    subst hcs
    exact ⟨[], ⟨none, 0, rfl, by simp, by unfold maxLen; omega, by simp⟩, by simp⟩
  · simp at hcs
    subst hcs
    have hlm : len ≤ m := by rw [hmm]; split <;> omega
    have hcell : ∀ i, i < len → ∃ cs', w.cells? base (a.add (i * P.cellsOf e)) (P.cellsOf e) = some cs' ∧ Pr cs' := by
      intro i hi
      obtain ⟨cs', h1, h2⟩ := hx i (by omega)
      exact ⟨cs', h1, hel n' cs' _ h2 (World.cells?_some h1).2.1⟩
    let f : Nat → List Value := fun i => if hi : i < len then Classical.choose (hcell i hi) else []
    have hf' : ∀ i (hi : i < len), w.cells? base (a.add (i * P.cellsOf e)) (P.cellsOf e) = some (f i) ∧ Pr (f i) := by
      intro i hi
      have := Classical.choose_spec (hcell i hi)
      simp only [f, dif_pos hi]
      exact this
    refine ⟨(List.range len).map f, ⟨some a, cap, by simp, by simpa using hle, hm, fun i c hc => ?_⟩, fun c hc => ?_⟩
    · obtain ⟨hi, rfl⟩ : i < len ∧ f i = c := by
        rw [List.getElem?_map] at hc
        by_cases hi : i < len
        · rw [List.getElem?_range hi] at hc; exact ⟨hi, by simpa using hc⟩
        · rw [List.getElem?_eq_none (by simpa using hi)] at hc; cases hc
      obtain ⟨h1, h2⟩ := hf' i hi
      obtain ⟨_, hlen, hce⟩ := World.cells?_some h1
      have hspot : a.spot = none := by
        obtain ⟨h1', _⟩ := hf' 0 (by omega)
        obtain ⟨_, hlen', hce'⟩ := World.cells?_some h1'
        have hc0' := hce' 0 (by omega)
        rw [List.getElem?_eq_getElem (by omega)] at hc0'
        have := World.cell?_spot hc0'
        simpa [Addr.add] using this
      refine ⟨hlen, a.block, a.off, ?_, fun j u hu => ?_⟩
      · cases a; simp at hspot; simp [hspot]
      · have hj : j < (f i).length := (List.getElem?_eq_some_iff.1 hu).1
        have := hce j (by omega)
        rw [hu] at this
        have ha : a = ⟨a.block, a.off, none⟩ := by cases a; simp at hspot; simp [hspot]
        rw [ha, add_lit0, add_lit0] at this
        exact this
    · obtain ⟨j, hj, rfl⟩ := List.mem_map.1 hc
      exact (hf' j (by simpa using hj)).2
theorem open_ss {r : Reach} {b0 : Nat} {t t2 e : TypeId} {n : Nat} {v : Value} {d : DataW H} {p : List MemPlace} (ht : P.underlying t = some (.slice t2)) (ht2 : P.underlying t2 = some (.slice e)) (hk : flatK P n e = some spK) (hc2 : P.cellsOf t2 = 1) (hl : spK.length = P.cellsOf e)
    (hv : Value.okWide P w r b0 t v) (h : DataW.Trod enc P w base spare held t v d p) : ∃ S, SlSS w v S ∧ ∀ l ∈ S, ∀ s ∈ l, s.ok := by
  obtain ⟨a0, len, cap, rfl⟩ := WideShapes.okWide_slice ht hv
  obtain ⟨fuel, hf⟩ := h
  have hce : P.cellsOf e = 2 := hl.symm
  obtain ⟨xs, hS, hx⟩ := slice_core (Pr := fun c => ∃ q : Value × List Sp, c = [q.1] ∧ Sl w 2 q.1 (q.2.map Sp.cells) ∧ ∀ s ∈ q.2, s.ok) ht (by omega) (fun m cs y hy hlen => by
    rw [hc2] at hlen
    match cs, hlen with
    | [u], _ =>
      obtain ⟨ys, hSl, hy2⟩ := slice_core (Pr := fun c => ∃ s : Sp, c = s.cells ∧ s.ok) ht2 (by omega) (fun m2 cs2 y2 h2 hlen2 => by
        exact sp_of_flat (by rw [hlen2, hce]) (fun j k hj => flat_reads n m2 e spK cs2 y2 hk h2 hlen2 j k hj)) hy
      obtain ⟨l, rfl, hok⟩ := list_of_cells (f := Sp.cells) (p := Sp.ok) ys hy2
      exact ⟨(u, l), rfl, by rw [hce] at hSl; exact hSl, hok⟩) hf
  obtain ⟨L, rfl, hL⟩ := list_of_cells (f := fun q : Value × List Sp => [q.1]) (p := fun q => Sl w 2 q.1 (q.2.map Sp.cells) ∧ ∀ s ∈ q.2, s.ok) xs hx
  rw [hc2] at hS
  refine ⟨L.map (·.2), ⟨L.map (·.1), by rw [List.map_map]; exact hS, by simp, fun k s u hs hu => ?_⟩, fun l hl s hs => ?_⟩
  · rw [List.getElem?_map] at hs hu
    cases hq : L[k]? with
    | none => rw [hq] at hs; cases hs
    | some q =>
      rw [hq] at hs hu
      injection hs with hs; injection hu with hu
      subst hs; subst hu
      exact (hL q (List.mem_of_getElem? hq)).1
  · obtain ⟨q, hq, rfl⟩ := List.mem_map.1 hl
    exact (hL q hq).2 s hs
end
end Go.Proofs.Ytnfdefeafhepkaa
/- How often a cell stands in a list, and what a function says of that: the program's closure. No condition. -/
namespace Go.Proofs.Ytnfdefeafhepkaa
set_option linter.unusedVariables false
set_option linter.unusedSimpArgs false
open Go.RowKit Mem Wk
attribute [local irreducible] Calls Wk.S Wk.C Wk.E Wk.X Wk.T Wk.Y Wk.anV Wk.orV Wk.andV Wk.shlV Wk.shrV Calm.wpLex CalmB.wpLex bfsN
theorem r_eqSpV {n : Nat} {O : List Nat} {w0 : World} {l : List (Nat × Value)} {L : List (Nat × TypeId × Array Value)} {o : Oper} {x y : Operand} {t' : Nat} {a b c d : Int} {v : Bool} (ho : o.op = .binOp .eql 66 x y t') (hx : ev l x = some (.agg #[.int .i8 a, .int .i8 b])) (hy : ev l y = some (.agg #[.int .i8 c, .int .i8 d])) (hv : (decide (a = c) && decide (b = d)) = v) : Rn Try.prog n O w0 l L o (.bool v) := by
  subst hv; exact r_eqSpot ho hx hy
end Go.Proofs.Ytnfdefeafhepkaa
/- UncoveredBy, SharedCells: the program's. No condition. -/
namespace Go.Proofs.Ytnfdefeafhepkaa
set_option linter.unusedVariables false
set_option linter.unusedSimpArgs false
open Go.RowKit Mem Wk
theorem s_callSS {P : Program} {ops : Array Oper} {Q : Exit → Act → World → Prop} {n : Nat} {O : List Nat} {w0 : World} {o : Oper} {rest : List Oper} {l : List (Nat × Value)} {L : List (Nat × TypeId × Array Value)} {f : FuncId} {fn : Func} {xs : Array Operand} {ts : Array TypeId} {vs : List Value} {d : Nat} {S : List (List Sp)} (hf : P.funcs[f]? = some fn) (hname : (fn.name == "runtime.NumGoroutine") = false) (hb : fn.body.isSome = true) (hg : o.guard = none) (hd : o.dst = some d) (hn : Nat.blt d n = true)
    (hop : o.op = .call { callee := .value (.func f), args := xs, argTypes := ts }) (hargs : evs l xs.toList = some vs) (hc : ∀ w, Kn O w0 w L → Calls P f vs.toArray w (NewSS S w)) (h : ∀ g cap cur items, Ap 1 S.length cap cur (itV S items) → ItOk S items → Wk.S P ops Q n O w0 rest ((d, .slice (some ⟨g, 0, none⟩) S.length cap) :: l) ((g, 38, cur) :: (L ++ itR items))) : Wk.S P ops Q n O w0 (o :: rest) l L :=
  s_callR (ι := Nat × Nat × Array Value × List (Nat × Nat × Array Value)) (fun i => Ap 1 S.length i.2.1 i.2.2.1 (itV S i.2.2.2) ∧ ItOk S i.2.2.2) (fun i => .slice (some ⟨i.1, 0, none⟩) S.length i.2.1) (fun i => (i.1, 38, i.2.2.1) :: (L ++ itR i.2.2.2)) hf hname hb hg hd hn hop hargs
    (fun w hL => (hc w hL).mono fun e w' ⟨g, cap, cur, items, he, hA, hI, hN⟩ => ⟨(g, cap, cur, items), ⟨hA, hI⟩, he, Kn.perm (Kn.app hL hN) (List.Perm.cons _ List.perm_append_comm)⟩) (fun ⟨g, cap, cur, items⟩ ⟨hA, hI⟩ => h g cap cur items hA hI)
attribute [local irreducible] Calls Wk.S Wk.C Wk.E Wk.X Wk.T Wk.Y Wk.anV Wk.orV Wk.andV Wk.shlV Wk.shrV Calm.wpLex CalmB.wpLex bfsN
/-! for the laws: of a slice made by the caller -/
section
variable (p : Nat → Int) (cs : Array Value) (L : List Sk) (g n cap : Nat) (cur : Array Value) (w : World)
end
end Go.Proofs.Ytnfdefeafhepkaa
/- Lists of lists of cells: equal ones compare as equal. No condition. -/
namespace Go.Proofs.Ytnfdefeafhepkaa
set_option linter.unusedVariables false
set_option linter.unusedSimpArgs false
open Go.RowKit Mem Wk
theorem itSS {w : World} {S : List (List Sp)} {items : List (Nat × Nat × Array Value)} {g cap : Nat} {cur : Array Value} {T : TypeId} (hA : Ap 1 S.length cap cur (itV S items)) (hI : ItOk S items) (hg : w.heap[g]? = some (.cells cur T (0, 0))) (hin : ∀ i ∈ items, w.heap[i.1]? = some (.cells i.2.2 66 (0, 0))) : SlSS w (.slice (some ⟨g, 0, none⟩) S.length cap) S := by
  have hf : ((itV S items).map fun u => [u]).flatten = itV S items := by
    generalize itV S items = V
    induction V with
    | nil => rfl
    | cons a V ih => simp only [List.map_cons, List.flatten_cons, ih]; rfl
  have h1 := (SSs.items hA hI hin).3
  refine ⟨itV S items, Ap.toSl (by rw [hf]; exact hA) (fun c hc => ?_) (by omega) hg, itV_len hI.len, fun k s u hs hu => h1 k s u hs hu⟩
  obtain ⟨u, _, rfl⟩ := List.mem_map.1 hc
  rfl
attribute [local irreducible] Calls Wk.S Wk.C Wk.E Wk.X Wk.T Wk.Y Wk.anV Wk.orV Wk.andV Wk.shlV Wk.shrV Calm.wpLex CalmB.wpLex bfsN
set_option maxRecDepth 100000 in
set_option maxHeartbeats 1600000 in
theorem eqSpotSS_same (v v' : Value) (S : List (List Sp)) (w : World) (hv : SlSS w v S) (hv' : SlSS w v' S) (hn : S.length ≤ 1048576) (hnn : ∀ s ∈ S, s.length ≤ 1048576) :
    Calls Try.prog 14 #[v, v'] w fun e w' => e = .returned (.bool true) ∧ Below w.heap.size w w' := by
  obtain ⟨V, hV, hVl, hin⟩ := hv
  obtain ⟨V', hV', hVl', hin'⟩ := hv'
  obtain ⟨A, cap, rfl, hc, hm, hS⟩ := hV.open
  obtain ⟨A', cap', rfl, hc', hm', hS'⟩ := hV'.open
  rw [List.length_map] at hc hc' ⊢
  rw [List.length_map]
  refine enter2 Try.func14 rfl rfl rfl (Own.start w) ?_
  repeat' (first
    | (refine s_g ?_; first
      | (refine s_k 0 rfl ?_; refine s_val rfl rfl rfl (r_move rfl rfl) ?_)
      | (refine s_k 8 rfl ?_; first | (refine' s_val rfl rfl rfl (r_ldv rfl rfl ?qm ?qv) ?_; (case qm => (exact zMm)); (case qv => (exact zLe))) | (refine' s_val rfl rfl rfl (r_ldo rfl rfl ?qw (by simp) ?qv) ?_; (case qw => assumption); (case qv => (exact zLe))))
      | (refine s_k 1 rfl ?_; refine s_val rfl rfl rfl (r_assign rfl rfl) ?_)
      | (refine s_k 13 rfl ?_; first | refine s_val rfl rfl rfl (r_lss rfl rfl rfl) ?_ | refine s_val rfl rfl rfl (r_neq rfl rfl rfl) ?_ | refine s_val rfl rfl rfl (r_add rfl rfl rfl (wrap_in (by simp only [lo, hi]; omega))) ?_)
      | (refine s_k 14 rfl ?_; refine s_val rfl rfl rfl (r_not rfl rfl) ?_)
      | (refine s_k 25 rfl ?_; first | refine s_val rfl rfl rfl (r_ixN tb rfl rfl rfl rfl (by omega)) ?_ | refine s_val rfl rfl rfl (r_ixA tb rfl rfl rfl rfl (by omega) (by omega)) ?_ | refine s_val rfl rfl rfl (r_ixO tb rfl rfl rfl rfl (by omega)) ?_)
      | (refine s_k 36 rfl ?_; refine s_val rfl rfl rfl (r_len tb rfl rfl rfl) ?_)
      | refine s_nil ?_)
    | (refine c_g ?_; first | refine c_seq ?_ | refine c_region ?_ | (refine c_gc ?_; first | refine c_cond1 rfl zTr ?_ | refine c_cond0 rfl zTr ?_ | refine z_condd1 rfl ?_ | refine z_condd0 rfl ?_ | refine z_conddn1 rfl ?_ | refine z_conddn0 rfl ?_ | refine c_condd rfl (fun hc => ?_) (fun hc => ?_) | refine c_conddn rfl (fun hc => ?_) (fun hc => ?_) | refine c_condn rfl (fun hc => ?_) (fun hc => ?_) | refine c_cond rfl (fun hc => ?_) (fun hc => ?_)) | refine c_block ?_ | refine c_skip ?_ | refine c_exit ?_ | refine c_ret ?_)
    | (refine e_g ?_; first | refine e_then ?_ | refine e_blkn ?_ | refine e_thenx ?_ | refine e_thenr ?_ | refine e_blkr ?_ | refine e_blkx ?_ | refine e_blky rfl ?_))
  refine c_loop (ι := Nat) (fun i => S.length - i) (fun i => i ≤ S.length) (fun i => [(5, .int .i64 (i : Int)), (0, .slice A V.length cap), (1, .slice A' V'.length cap')]) (fun _ => []) 0 (by simp) ?hs rfl ?_
  case hs => (repeat' (first | exact sub_nil | refine sub_cons rfl ?_))
  rintro k hk
  by_cases hlt : k < S.length
  · have hx : S[k]? = some S[k] := List.getElem?_eq_getElem hlt
    have hu : V[k]? = some (V[k]'(by omega)) := List.getElem?_eq_getElem (by omega)
    have hu2 : V'[k]? = some (V'[k]'(by omega)) := List.getElem?_eq_getElem (by omega)
    have hin1 := hin k _ _ hx hu
    have hin2 := hin' k _ _ hx hu2
    have hsn := hnn _ (List.getElem_mem hlt)
    have hu' : (V.map fun u => [u])[k]? = some [V[k]'(by omega)] := by simp
    have hu2' : (V'.map fun u => [u])[k]? = some [V'[k]'(by omega)] := by simp
    have hkl : k < (V.map fun u => [u]).length := by simp; omega
    have hkl' : k < (V'.map fun u => [u]).length := by simp; omega
    generalize V[k]'(by omega) = u at *
    generalize V'[k]'(by omega) = u' at *
    generalize S[k] = s at *
    repeat' (first
      | (refine s_g ?_; first
      | (refine s_k 0 rfl ?_; refine s_val rfl rfl rfl (r_move rfl rfl) ?_)
      | (refine s_k 8 rfl ?_; first | refine s_val rfl rfl rfl (r_ldSb tb rfl hS rfl hu' rfl) ?_ | refine s_val rfl rfl rfl (r_ldSb tb rfl hS' rfl hu2' rfl) ?_ | (refine' s_val rfl rfl rfl (r_ldv rfl rfl ?qm ?qv) ?_; (case qm => (exact zMm)); (case qv => (exact zLe))) | (refine' s_val rfl rfl rfl (r_ldo rfl rfl ?qw (by simp) ?qv) ?_; (case qw => assumption); (case qv => (exact zLe))))
      | (refine s_k 1 rfl ?_; refine s_val rfl rfl rfl (r_assign rfl rfl) ?_)
      | (refine s_k 13 rfl ?_; first | refine s_val rfl rfl rfl (r_lss rfl rfl rfl) ?_ | refine s_val rfl rfl rfl (r_neq rfl rfl rfl) ?_ | refine s_val rfl rfl rfl (r_add rfl rfl rfl (wrap_in (by simp only [lo, hi]; omega))) ?_)
      | (refine s_k 35 rfl ?_; (refine s_call Try.func13 (by kernel_rfl) rfl rfl rfl rfl rfl rfl (fun w hL => eqSpotS_same _ _ s _ (hin1.below hL.toBelow) (hin2.below hL.toBelow) hsn) ?_))
      | (refine s_k 14 rfl ?_; refine s_val rfl rfl rfl (r_not rfl rfl) ?_)
      | (refine s_k 25 rfl ?_; first | refine s_val rfl rfl rfl (r_ixS tb rfl hS rfl rfl rfl (by simp) hkl) ?_ | refine s_val rfl rfl rfl (r_ixS tb rfl hS' rfl rfl rfl (by simp) hkl') ?_ | refine s_val rfl rfl rfl (r_ixN tb rfl rfl rfl rfl (by omega)) ?_ | refine s_val rfl rfl rfl (r_ixA tb rfl rfl rfl rfl (by omega) (by omega)) ?_ | refine s_val rfl rfl rfl (r_ixO tb rfl rfl rfl rfl (by omega)) ?_)
      | (refine s_k 36 rfl ?_; refine s_val rfl rfl rfl (r_len tb rfl rfl rfl) ?_)
      | refine s_nil ?_)
      | (refine c_g ?_; first | refine c_seq ?_ | refine c_region ?_ | (refine c_gc ?_; first | refine c_cond1 rfl zTr ?_ | refine c_cond0 rfl zTr ?_ | refine z_condd1 rfl ?_ | refine z_condd0 rfl ?_ | refine z_conddn1 rfl ?_ | refine z_conddn0 rfl ?_ | refine c_condd rfl (fun hc => ?_) (fun hc => ?_) | refine c_conddn rfl (fun hc => ?_) (fun hc => ?_) | refine c_condn rfl (fun hc => ?_) (fun hc => ?_) | refine c_cond rfl (fun hc => ?_) (fun hc => ?_)) | refine c_block ?_ | refine c_skip ?_ | refine c_exit ?_ | refine c_ret ?_)
      | (refine e_g ?_; first | refine e_then ?_ | refine e_blkn ?_ | refine e_thenx ?_ | refine e_thenr ?_ | refine e_blkr ?_ | refine e_blkx ?_ | refine e_blky rfl ?_)
      | (refine x_g ?_; first
      | (refine x_k 0 rfl ?_; (refine x_val rfl rfl rfl (r_move rfl rfl) ?hp ?_; (case hp => exact rfl)))
      | (refine x_k 8 rfl ?_; first | (refine x_val rfl rfl rfl (r_ldSb tb rfl hS rfl hu' rfl) ?hp ?_; (case hp => exact rfl)) | (refine x_val rfl rfl rfl (r_ldSb tb rfl hS' rfl hu2' rfl) ?hp ?_; (case hp => exact rfl)) | (refine' x_val rfl rfl rfl (r_ldv rfl rfl ?qm ?qv) ?hp ?_; (case qm => (exact zMm)); (case qv => (exact zLe)); (case hp => exact rfl)) | (refine' x_val rfl rfl rfl (r_ldo rfl rfl ?qw (by simp) ?qv) ?hp ?_; (case qw => assumption); (case qv => (exact zLe)); (case hp => exact rfl)))
      | (refine x_k 1 rfl ?_; (refine x_val rfl rfl rfl (r_assign rfl rfl) ?hp ?_; (case hp => exact rfl)))
      | (refine x_k 13 rfl ?_; first | (refine x_val rfl rfl rfl (r_lss rfl rfl rfl) ?hp ?_; (case hp => exact rfl)) | (refine x_val rfl rfl rfl (r_neq rfl rfl rfl) ?hp ?_; (case hp => exact rfl)) | (refine x_val rfl rfl rfl (r_add rfl rfl rfl (wrap_in (by simp only [lo, hi]; omega))) ?hp ?_; (case hp => exact rfl)))
      | (refine x_k 35 rfl ?_; (refine x_call Try.func13 (by kernel_rfl) rfl rfl rfl rfl rfl rfl (fun w hL => eqSpotS_same _ _ s _ (hin1.below hL.toBelow) (hin2.below hL.toBelow) hsn) ?hp ?_; (case hp => exact rfl)))
      | (refine x_k 14 rfl ?_; (refine x_val rfl rfl rfl (r_not rfl rfl) ?hp ?_; (case hp => exact rfl)))
      | (refine x_k 25 rfl ?_; first | (refine x_val rfl rfl rfl (r_ixS tb rfl hS rfl rfl rfl (by simp) hkl) ?hp ?_; (case hp => exact rfl)) | (refine x_val rfl rfl rfl (r_ixS tb rfl hS' rfl rfl rfl (by simp) hkl') ?hp ?_; (case hp => exact rfl)) | (refine x_val rfl rfl rfl (r_ixN tb rfl rfl rfl rfl (by omega)) ?hp ?_; (case hp => exact rfl)) | (refine x_val rfl rfl rfl (r_ixA tb rfl rfl rfl rfl (by omega) (by omega)) ?hp ?_; (case hp => exact rfl)) | (refine x_val rfl rfl rfl (r_ixO tb rfl rfl rfl rfl (by omega)) ?hp ?_; (case hp => exact rfl)))
      | (refine x_k 36 rfl ?_; (refine x_val rfl rfl rfl (r_len tb rfl rfl rfl) ?hp ?_; (case hp => exact rfl)))
      | refine x_nil0 ?_
      | refine x_nil ?_)
      | (refine' c_drawX (id := 6) [(Sum.inl _ : Calm.Plan), (Sum.inl _ : Calm.Plan), (Sum.inl _ : Calm.Plan), (Sum.inl _ : Calm.Plan), (Sum.inl _ : Calm.Plan), (Sum.inl _ : Calm.Plan), (Sum.inl _ : Calm.Plan), (Sum.inl _ : Calm.Plan), (Sum.inl _ : Calm.Plan), (Sum.inl _ : Calm.Plan)] (by kernel_rfl) (by kernel_rfl) (by kernel_rfl) ?_)
      | (refine e_round (k + 1) (by omega) (by omega) ?_ rfl))
    all_goals (repeat' (first | exact sub_nil | refine sub_cons rfl ?_))
  · have hkn : k = S.length := by omega
    subst hkn
    repeat' (first
      | (refine s_g ?_; first
      | (refine s_k 0 rfl ?_; refine s_val rfl rfl rfl (r_move rfl rfl) ?_)
      | (refine s_k 8 rfl ?_; first | (refine' s_val rfl rfl rfl (r_ldv rfl rfl ?qm ?qv) ?_; (case qm => (exact zMm)); (case qv => (exact zLe))) | (refine' s_val rfl rfl rfl (r_ldo rfl rfl ?qw (by simp) ?qv) ?_; (case qw => assumption); (case qv => (exact zLe))))
      | (refine s_k 1 rfl ?_; refine s_val rfl rfl rfl (r_assign rfl rfl) ?_)
      | (refine s_k 13 rfl ?_; first | refine s_val rfl rfl rfl (r_lss rfl rfl rfl) ?_ | refine s_val rfl rfl rfl (r_neq rfl rfl rfl) ?_ | refine s_val rfl rfl rfl (r_add rfl rfl rfl (wrap_in (by simp only [lo, hi]; omega))) ?_)
      | (refine s_k 14 rfl ?_; refine s_val rfl rfl rfl (r_not rfl rfl) ?_)
      | (refine s_k 25 rfl ?_; first | refine s_val rfl rfl rfl (r_ixN tb rfl rfl rfl rfl (by omega)) ?_ | refine s_val rfl rfl rfl (r_ixA tb rfl rfl rfl rfl (by omega) (by omega)) ?_ | refine s_val rfl rfl rfl (r_ixO tb rfl rfl rfl rfl (by omega)) ?_)
      | (refine s_k 36 rfl ?_; refine s_val rfl rfl rfl (r_len tb rfl rfl rfl) ?_)
      | refine s_nil ?_)
      | (refine c_g ?_; first | refine c_seq ?_ | refine c_region ?_ | (refine c_gc ?_; first | refine c_cond1 rfl zTr ?_ | refine c_cond0 rfl zTr ?_ | refine z_condd1 rfl ?_ | refine z_condd0 rfl ?_ | refine z_conddn1 rfl ?_ | refine z_conddn0 rfl ?_ | refine c_condd rfl (fun hc => ?_) (fun hc => ?_) | refine c_conddn rfl (fun hc => ?_) (fun hc => ?_) | refine c_condn rfl (fun hc => ?_) (fun hc => ?_) | refine c_cond rfl (fun hc => ?_) (fun hc => ?_)) | refine c_block ?_ | refine c_skip ?_ | refine c_exit ?_ | refine c_ret ?_)
      | (refine e_g ?_; first | refine e_then ?_ | refine e_blkn ?_ | refine e_thenx ?_ | refine e_thenr ?_ | refine e_blkr ?_ | refine e_blkx ?_ | refine e_blky rfl ?_)
      | (refine e_ret1 (by simp) rfl (re_tmp rfl) fun w hL => ⟨rfl, hL.toBelow⟩))
end Go.Proofs.Ytnfdefeafhepkaa
/- Fences: hurdles of a pasture, their code; hurdles that are put or taken. No condition. -/
namespace Go.Proofs.Ytnfdefeafhepkaa
set_option linter.unusedVariables false
set_option linter.unusedSimpArgs false
open Go.RowKit Mem Wk
attribute [local irreducible] Calls Wk.S Wk.C Wk.E Wk.X Wk.T Wk.anV Wk.orV Wk.andV Wk.shlV Wk.shrV Calm.wpLex
def sdOf (s : Bool) : Int := if s then 2 else 1
set_option maxRecDepth 100000 in
theorem l03Side_any (x y : Int) (s : Bool) (w : World) :
    Calls Try.prog 95 #[.agg #[.int .i8 x, .int .i8 y, .bool s]] w fun e w' => e = .returned (.int .i64 (sdOf s)) ∧ Below w.heap.size w w' := by
  refine enter1 Try.func95 rfl rfl rfl (Own.start w) ?_
  repeat' (first
    | (refine s_g ?_; first
      | (refine s_k 23 rfl ?_; first | refine s_val rfl rfl rfl (r_field tb rfl rfl rfl) ?_ | refine s_val rfl rfl rfl (r_fieldS tb rfl rfl rfl) ?_)
      | (refine s_k 8 rfl ?_; first | (refine' s_val rfl rfl rfl (r_ldv rfl rfl ?qm ?qv) ?_; (case qm => (exact zMm)); (case qv => (exact zLe))) | (refine' s_val rfl rfl rfl (r_ldo rfl rfl ?qw (by simp) ?qv) ?_; (case qw => assumption); (case qv => (exact zLe))))
      | (refine s_k 1 rfl ?_; refine s_val rfl rfl rfl (r_assign rfl rfl) ?_)
      | (refine s_k 4 rfl ?_; first | refine s_boxA rfl rfl rfl rfl rfl fun blk => ?_ | refine s_box1 rfl rfl rfl rfl rfl rfl fun blk => ?_)
      | refine s_nil ?_)
    | (refine c_g ?_; first | refine c_seq ?_ | refine c_region ?_ | (refine c_gc ?_; first | refine c_cond1 rfl zTr ?_ | refine c_cond0 rfl zTr ?_ | refine z_condd1 rfl ?_ | refine z_condd0 rfl ?_ | refine z_conddn1 rfl ?_ | refine z_conddn0 rfl ?_ | refine c_condd rfl (fun hc => ?_) (fun hc => ?_) | refine c_conddn rfl (fun hc => ?_) (fun hc => ?_) | refine c_condn rfl (fun hc => ?_) (fun hc => ?_) | refine c_cond rfl (fun hc => ?_) (fun hc => ?_)) | refine c_block ?_ | refine c_skip ?_ | refine c_exit ?_ | refine c_ret ?_)
    | (refine e_g ?_; first | refine e_then ?_ | refine e_blkn ?_ | refine e_thenx ?_ | refine e_thenr ?_ | refine e_blkr ?_ | refine e_blkx ?_ | refine e_blky rfl ?_)
    | (refine e_ret1 (by simp) rfl (re_tmp rfl) fun w hL => ⟨?_, hL.toBelow⟩))
  all_goals (simp [sdOf, *]; done)
end Go.Proofs.Ytnfdefeafhepkaa
