import Derived.Test.YtnfdefeafhepkaaQH23
import Derived.Test.YtnfdefeafhepkaaQH34
/- CheckWays: the program's. No condition but lengths. -/
namespace Go.Proofs.Ytnfdefeafhepkaa
set_option linter.unusedVariables false
set_option linter.unusedSimpArgs false
open Go.RowKit Mem Wk
theorem Wk.r_slTwo {P : Program} {n : Nat} {O : List Nat} {w0 : World} {ll : List (Nat × Value)} {L : List (Nat × TypeId × Array Value)} {o : Oper} {x y z : Operand} (tb : Tb P) {t el sz : Nat} {g off len cap i : Nat} {kd kd' : IntKind} (ho : o.op = .slice t x (some y) (some z) none) (hx : ev ll x = some (.slice (some ⟨g, off, none⟩) len cap)) (hy : ev ll y = some (.int kd (i : Int))) (hz : ev ll z = some (.int kd' ((i + 2 : Nat) : Int))) (ht : lkT tb.l t = some (el, sz)) (h2 : i + 2 ≤ cap) (hlt : i < cap) : Rn P n O w0 ll L o (.slice (some ⟨g, off + i * sz, none⟩) 2 (cap - i)) := by
  have h := Wk.r_slLH (i := i) (h := i + 2) (n := n) (O := O) (w0 := w0) (L := L) tb ho hx hy hz ht (by omega) h2 hlt
  rw [Nat.add_sub_cancel_left] at h
  exact h
theorem wayP_z (p : Nat → Int) (l : List Sp) : wayP p l 0 = p := rfl
theorem Wk.Kn.sublist {w0 w : World} {L L' : List (Nat × TypeId × Array Value)} (h : Kn [] w0 w L) (hs : L'.Sublist L) : Kn [] w0 w L' :=
  ⟨h.os, h.tape, h.output, h.size, h.base, fun k hk hx => h.keep k hk fun x hxL e => by
    have := (h.low x hxL).resolve_right (by simp)
    omega, fun x hx => h.low x (hs.subset hx), fun x hx => h.has x (hs.subset hx), h.nodup.sublist (hs.map _)⟩
section
variable {P : Program} {n : Nat} {O : List Nat} {w0 : World} {l : List (Nat × Value)} {N L : List (Nat × TypeId × Array Value)} {Q : Exit → Act → World → Prop} {ops : Array Oper} {o : Oper} {rest : List Oper} {kk d : Nat} {Nok : List (Nat × TypeId × Array Value) → Prop} {pl : Nat → CalmE.Plan (List (Nat × TypeId × Array Value))}
theorem Wk.z_bslC {F : List Sp} {Ac : Option Addr} {cpc : Nat} (hC : CatP F ((Ac, cpc), N)) {t : TypeId} {T : TypeId} {a b : Option Addr} {m n' ca cb : Nat} {parts : Array (Nat × Operand)} (ho : o.op = .buildSlice t 3 parts) (hpp : evp l parts.toList = some [(0, .slice a m ca), (1, .slice b n' cb), (2, .slice Ac F.length cpc)])
    (hr : ∀ w, (Instr.buildSlice t 3 #[(0, .slice a m ca), (1, .slice b n' cb), (2, .slice Ac F.length cpc)]).run P w = .ok (.slice (some ⟨w.heap.size, 0, none⟩) 3 3) (w.alloc (.cells #[.slice a m ca, .slice b n' cb, .slice Ac F.length cpc] T (0, 0))))
    (hg : o.guard = none) (hd : o.dst = some d) (hn : Nat.blt d n = true) (hok : ∀ N, Nok N)
    (hp : pl kk = .inr (fun v N' => ∃ i : Nat × ((Option Addr × Nat) × List (Nat × TypeId × Array Value)), CatP F i.2 ∧ v = .slice (some ⟨i.1, 0, none⟩) 3 3 ∧ N' = (i.1, T, #[.slice a m ca, .slice b n' cb, .slice i.2.1.1 F.length i.2.1.2]) :: i.2.2))
    (h : ∀ g Ac cpc N, CatP F ((Ac, cpc), N) → Z P ops Q n O w0 Nok pl rest (kk + 1) ((d, .slice (some ⟨g, 0, none⟩) 3 3) :: l) ((g, T, #[.slice a m ca, .slice b n' cb, .slice Ac F.length cpc]) :: N) L) : Z P ops Q n O w0 Nok pl (o :: rest) kk l N L :=
  z_eff (fun i : Nat × ((Option Addr × Nat) × List (Nat × TypeId × Array Value)) => CatP F i.2) (fun i => .slice (some ⟨i.1, 0, none⟩) 3 3) (fun i => (i.1, T, #[.slice a m ca, .slice b n' cb, .slice i.2.1.1 F.length i.2.1.2]) :: i.2.2) hg (fun ac w hF hw => by
    have e : parts.map (fun p => (p.1, ac.eval p.2)) = #[(0, .slice a m ca), (1, .slice b n' cb), (2, .slice Ac F.length cpc)] := by
      have := hF.evp hpp
      apply Array.ext'; simpa using this
    have e' : (parts.map fun x => match x with | (i, x) => (i, ac.eval x)) = #[(0, .slice a m ca), (1, .slice b n' cb), (2, .slice Ac F.length cpc)] := e
    have hx : (execOp ac.eval o).run P w = .ok (.value (.slice (some ⟨w.heap.size, 0, none⟩) 3 3)) (w.alloc (.cells #[.slice a m ca, .slice b n' cb, .slice Ac F.length cpc] T (0, 0))) := by simp [execOp, ho, e', hr]
    unfold CalmE.effAt
    rw [hx]
    exact ⟨(w.heap.size, ((Ac, cpc), N)), hC, rfl, Own.new hw T _⟩) ⟨(0, ((Ac, cpc), N)), hC⟩ (fun _ _ => hok _) hp (fun i hi a hF => by rw [hd]; exact h i.1 i.2.1.1 i.2.1.2 i.2.2 hi _ (hF.put hn _))
end
attribute [local irreducible] Calls Wk.S Wk.C Wk.E Wk.X Wk.T Wk.Y Wk.Z Wk.anV Wk.orV Wk.andV Wk.shlV Wk.shrV Calm.wpLex CalmB.wpLex CalmE.wpLex bfsN gone wayP wayB
set_option maxRecDepth 100000 in
set_option maxHeartbeats 3200000 in
theorem implWays_any (p : Nat → Int) (cs : Array Value) (a b : List Sp) (S : List (List Sp)) (ga na capa gb nb capb g cap : Nat) (cura curb cur : Array Value) (items : List (Nat × Nat × Array Value)) (w : World) (hp : Pv p cs) (hAa : Ap 2 na capa cura (flS a)) (hga : w.heap[ga]? = some (.cells cura 66 (0, 0))) (hAb : Ap 2 nb capb curb (flS b)) (hgb : w.heap[gb]? = some (.cells curb 66 (0, 0))) (hA : Ap 1 S.length cap cur (itV S items)) (hI : ItOk S items) (hg : w.heap[g]? = some (.cells cur 38 (0, 0))) (hit : ∀ i ∈ items, w.heap[i.1]? = some (.cells i.2.2 66 (0, 0))) (hn : a.length + b.length + ssN S ≤ 1048576) (hoa : ∀ c ∈ a, c.ok) (hob : ∀ c ∈ b, c.ok) (hoS : ∀ l ∈ S, ∀ c ∈ l, c.ok) :
    Calls Try.prog 12 #[.agg cs, .slice (some ⟨ga, 0, none⟩) na capa, .slice (some ⟨gb, 0, none⟩) nb capb, .slice (some ⟨g, 0, none⟩) S.length cap] w fun e w' => e = .returned (.tuple #[.bool (wsV p a b S), .int .i64 (wsC p a b S)]) ∧ Below w.heap.size w w' := by
  have hsz := hp.size
  have hUa := hAa.toSl (lenSp a) (by omega) hga
  have hUb := hAb.toSl (lenSp b) (by omega) hgb
  obtain rfl := hAa.cnt
  obtain rfl := hAb.cnt
  unfold ssN at hn
  have hnF : S.flatten.length ≤ 1048576 := by omega
  have hnS : S.length ≤ 1048576 := by omega
  have hnT : (a ++ b ++ S.flatten).length ≤ 1048576 := by simp only [List.length_append]; omega
  have hoT : ∀ c ∈ a ++ b ++ S.flatten, c.ok := fun c hc => by
    rcases List.mem_append.1 hc with hc | hc
    · exact (List.mem_append.1 hc).elim (hoa c) (hob c)
    · obtain ⟨l, hl, hcl⟩ := List.mem_flatten.1 hc
      exact hoS l hl c hcl
  have hUS := itSS hA hI hg hit
  have hSS : ∀ w', Below w.heap.size w w' → SSs w' S (itV S items) cur := fun w' hb => by
    have h := SSs.items hA hI hit
    exact ⟨h.1, h.2, fun j s v hs hv => (h.3 j s v hs hv).below hb⟩
  have hmt : ∀ w', Below w.heap.size w w' → Calls Try.prog 46 #[.slice (some ⟨g, 0, none⟩) S.length cap, .func (.func 47) #[] #[]] w' fun e w'' => e = .returned (.bool (S.any mt)) ∧ Below w'.heap.size w' w'' := fun w' hb => by
    obtain ⟨V, hV, hVl, hin⟩ := hUS.below hb
    obtain ⟨A, c, e, h1, h2, h3⟩ := hV
    injection e with e1 e2 e3
    subst e1; subst e3
    have q := hasMt_any S V (some ⟨g, 0, none⟩) cap w' (fun i c hc => by obtain ⟨q1, b', o', q2, q3⟩ := h3 i c hc; exact ⟨q1, b', o', q2, by simp, q3⟩) hVl hin hnS
    rw [hVl] at q
    exact q
  have hcat3 : ∀ Ac cpc Nc (hc1 : CatP S.flatten ((Ac, cpc), Nc)) gh w', w'.heap[gh]? = some (.cells #[.slice (some ⟨ga, 0, none⟩) a.length capa, .slice (some ⟨gb, 0, none⟩) b.length capb, .slice Ac S.flatten.length cpc] 38 (0, 0)) → Holds Nc w' → (hb0 : Below w.heap.size w w') → Calls Try.prog 50 #[.slice (some ⟨gh, 0, none⟩) 3 3] w' fun e w'' => ∃ i : (Option Addr × Nat) × List (Nat × TypeId × Array Value), CatP (a ++ b ++ S.flatten) i ∧ e = .returned (.slice i.1.1 (a ++ b ++ S.flatten).length i.1.2) ∧ Kn [] w' w'' i.2 := fun Ac cpc Nc hc1 gh w' hgh hh hb0 => by
    have hfl : [a, b, S.flatten].flatten = a ++ b ++ S.flatten := by simp
    have q := concat_any [a, b, S.flatten] _ gh 3 _ 38 w' hgh (SSs.three (hUa.below hb0) (hUb.below hb0) (hc1 w' hh)) (by rw [hfl]; exact hnT) (by simp)
    rw [hfl] at q
    exact q
  refine enter4 Try.func12 rfl rfl rfl (Own.start w) ?_
  repeat' (first
    | (refine s_g ?_; first
      | (refine s_gd rfl ?_; first | refine s_gd1 rfl rfl zTr ?_ | refine s_gd0 rfl rfl rfl zTr ?_ | refine s_gd00 rfl rfl zTr ?_ | refine s_gp1 rfl rfl rfl (fun hc => ?_) (fun hc => ?_) | refine s_gp0 rfl rfl rfl (fun hc => ?_) (fun hc => ?_) | refine s_gnp1 rfl rfl rfl (fun hc => ?_) (fun hc => ?_) | refine s_gnp0 rfl rfl rfl (fun hc => ?_) (fun hc => ?_) | refine s_gb1 rfl rfl rfl (fun hc => ?_) (fun hc => ?_) | refine s_gb0 rfl rfl rfl (fun hc => ?_) (fun hc => ?_) | refine s_gnb1 rfl rfl rfl (fun hc => ?_) (fun hc => ?_) | refine s_gnb0 rfl rfl rfl (fun hc => ?_) (fun hc => ?_))
      | (refine s_k 0 rfl ?_; refine s_val rfl rfl rfl (r_move rfl rfl) ?_)
      | (refine s_k 8 rfl ?_; first | (refine' s_val rfl rfl rfl (r_ldv rfl rfl ?qm ?qv) ?_; (case qm => (exact zMm)); (case qv => (first | exact ldvL tb rfl rfl | exact ldv1 tb rfl (by assumption) | exact ldvW tb rfl rfl | exact ldvW tb rfl (by assumption) | exact ldvW tb rfl (Pv.size (by assumption)) | exact ldvN tb rfl ext2_0 rfl | exact ldvN tb rfl ext2_2 rfl))) | (refine' s_val rfl rfl rfl (r_ldo rfl rfl ?qw (by simp) ?qv) ?_; (case qw => assumption); (case qv => (first | exact ldvL tb rfl rfl | exact ldv1 tb rfl (by assumption) | exact ldvW tb rfl rfl | exact ldvW tb rfl (by assumption) | exact ldvW tb rfl (Pv.size (by assumption)) | exact ldvN tb rfl ext2_0 rfl | exact ldvN tb rfl ext2_2 rfl))))
      | (refine s_k 1 rfl ?_; refine s_val rfl rfl rfl (r_assign rfl rfl) ?_)
      | (refine s_k 13 rfl ?_; first | refine s_val rfl rfl rfl (r_lss rfl rfl rfl) ?_ | refine s_val rfl rfl rfl (r_neq rfl rfl rfl) ?_ | refine s_val rfl rfl rfl (r_add rfl rfl rfl (wrap_in (by simp only [lo, hi]; omega))) ?_ | refine s_val rfl rfl rfl (r_sub rfl rfl rfl (wrap_in (by simp only [lo, hi]; omega))) ?_)
      | (refine s_k 35 rfl ?_; (refine s_call Try.func46 (by kernel_rfl) rfl rfl rfl rfl rfl rfl (fun w hL => hmt _ hL.toBelow) ?_))
      | (refine s_k 14 rfl ?_; refine s_val rfl rfl rfl (r_not rfl rfl) ?_)
      | (refine s_k 2 rfl ?_; first | refine s_val rfl rfl rfl (r_pick1 rfl rfl zTr rfl) ?_ | refine s_val rfl rfl rfl (r_pick0 rfl rfl zTr rfl) ?_)
      | (refine s_k 25 rfl ?_; first | refine s_val rfl rfl rfl (r_ixN tb rfl rfl rfl rfl (by omega)) ?_ | refine s_val rfl rfl rfl (r_ixA tb rfl rfl rfl rfl (by omega) (by omega)) ?_ | refine s_val rfl rfl rfl (r_ixO tb rfl rfl rfl rfl (by omega)) ?_)
      | (refine s_k 4 rfl ?_; first | refine s_boxA rfl rfl rfl rfl rfl fun blk => ?_ | refine s_box1 rfl rfl rfl rfl rfl rfl fun blk => ?_)
      | (refine s_k 9 rfl ?_; (first | refine s_st1 tb rfl rfl rfl rfl rfl rfl rfl rfl ?_ | refine s_stA tb rfl rfl rfl rfl (by first | rfl | assumption | (apply Pv.size; assumption)) rfl rfl ?_); (first | refine' st0 ?qs ?_ | refine' st1 ?qs ?_ | refine' st2 ?qs ?_ | refine' st3 ?qs ?_ | refine' st4 ?qs ?_ | refine' st5 ?qs ?_ | refine' st6 ?qs ?_ | refine' st7 ?qs ?_ | refine' st8 ?qs ?_ | refine' st9 ?qs ?_ | refine' st10 ?qs ?_ | refine' st11 ?qs ?_); (case qs => (first | exact zSet)))
      | (refine s_k 36 rfl ?_; refine s_val rfl rfl rfl (r_len tb rfl rfl rfl) ?_)
      | refine s_nil ?_)
    | (refine c_g ?_; first | refine c_seq ?_ | refine c_region ?_ | (refine c_gc ?_; first | refine c_cond1 rfl zTr ?_ | refine c_cond0 rfl zTr ?_ | refine z_condd1 rfl ?_ | refine z_condd0 rfl ?_ | refine z_conddn1 rfl ?_ | refine z_conddn0 rfl ?_ | refine c_condd rfl (fun hc => ?_) (fun hc => ?_) | refine c_conddn rfl (fun hc => ?_) (fun hc => ?_) | refine c_condn rfl (fun hc => ?_) (fun hc => ?_) | refine c_cond rfl (fun hc => ?_) (fun hc => ?_)) | refine c_block ?_ | refine c_skip ?_ | refine c_exit ?_ | refine c_ret ?_)
    | (refine e_g ?_; first | refine e_then ?_ | refine e_blkn ?_ | refine e_thenx ?_ | refine e_thenr ?_ | refine e_blkr ?_ | refine e_blkx ?_ | refine e_blky rfl ?_))
  refine' c_drawZe (id := 2) [false, false, false, false, true, true, true, true, false, false, false, true, true, false] (fun _ => True) [(Sum.inl _ : CalmE.Plan (List (Nat × TypeId × Array Value))), (Sum.inl _ : CalmE.Plan (List (Nat × TypeId × Array Value))), (Sum.inl _ : CalmE.Plan (List (Nat × TypeId × Array Value))), (Sum.inl _ : CalmE.Plan (List (Nat × TypeId × Array Value))), (Sum.inr _ : CalmE.Plan (List (Nat × TypeId × Array Value))), (Sum.inr _ : CalmE.Plan (List (Nat × TypeId × Array Value))), (Sum.inr _ : CalmE.Plan (List (Nat × TypeId × Array Value))), (Sum.inr _ : CalmE.Plan (List (Nat × TypeId × Array Value))), (Sum.inl _ : CalmE.Plan (List (Nat × TypeId × Array Value))), (Sum.inl _ : CalmE.Plan (List (Nat × TypeId × Array Value))), (Sum.inl _ : CalmE.Plan (List (Nat × TypeId × Array Value))), (Sum.inr _ : CalmE.Plan (List (Nat × TypeId × Array Value))), (Sum.inr _ : CalmE.Plan (List (Nat × TypeId × Array Value))), (Sum.inl _ : CalmE.Plan (List (Nat × TypeId × Array Value)))] (by kernel_rfl) (by kernel_rfl) (by kernel_rfl) (by simp only [CalmE.Agree, and_self, true_and, and_true]) trivial ?zmain
  case zmain =>
      refine' z_val rfl rfl rfl ?hr ?hp ?_
      case hr => exact fun N hN => r_ldv rfl rfl (List.mem_append_right _ m0) (ldvW tb rfl hsz)
      case hp => exact rfl
      refine' z_val rfl rfl rfl ?hr ?hp ?_
      case hr => exact fun N hN => r_move rfl rfl
      case hp => exact rfl
      refine' z_val rfl rfl rfl ?hr ?hp ?_
      case hr => exact fun N hN => r_move rfl rfl
      case hp => exact rfl
      refine' z_val rfl rfl rfl ?hr ?hp ?_
      case hr => exact fun N hN => r_move rfl rfl
      case hp => exact rfl
      refine' z_write (CatP S.flatten) (fun i => .slice i.1.1 S.flatten.length i.1.2) (fun i => i.2) Try.func50 (by kernel_rfl) rfl rfl rfl rfl rfl rfl ?hc (catP_ex hnF) (fun _ _ => trivial) ?hp ?_
      case hc => exact fun w' hw => (concat_any S _ g cap cur _ w' (Kn.old hw hg (by simp)) (hSS w' hw.toBelow) hnF hnS).mono fun e w'' ⟨i, hi, he, hk⟩ => ⟨i, hi, he, Kn.app hw hk⟩
      case hp => exact rfl
      rintro ⟨⟨Ac, cpc⟩, Nc⟩ hc1
      simp only at hc1 ⊢
      refine' z_bslC hc1 rfl rfl (fun w => slSS3 _ _ _ _ _ _ _ _ _ w) rfl rfl rfl (fun _ => trivial) ?hp fun gh Ac cpc Nc hc1 => ?_
      case hp => exact rfl
      refine' z_write (CatP (a ++ b ++ S.flatten)) (fun i => .slice i.1.1 (a ++ b ++ S.flatten).length i.1.2) (fun i => i.2) Try.func50 (by kernel_rfl) rfl rfl rfl rfl rfl rfl ?hc (catP_ex hnT) (fun _ _ => trivial) ?hp ?_
      case hc => exact fun w' hw => (hcat3 Ac cpc Nc hc1 gh w' (hw.has _ List.mem_cons_self) (fun x hx => hw.has x (List.mem_cons_of_mem _ (List.mem_append_left _ hx))) hw.toBelow).mono fun e w'' ⟨i, hi, he, hk⟩ => ⟨i, hi, he, Kn.sublist (Kn.app hw hk) (List.Sublist.append (List.Sublist.refl _) (List.sublist_append_right _ _))⟩
      case hp => exact rfl
      rintro ⟨⟨Ad, cpd⟩, Nd⟩ hc2
      simp only at hc2 ⊢
      refine' z_write (fun _ : Unit => True) (fun _ => .int .i64 (cellC p (a ++ b ++ S.flatten))) (fun _ => []) Try.func49 (by kernel_rfl) rfl rfl rfl rfl rfl rfl ?hc ⟨(), trivial⟩ (fun _ _ => trivial) ?hp ?_
      case hc => exact fun w' hw => (cellCode_any p cs _ (a ++ b ++ S.flatten) w' hp (hc2 w' fun x hx => hw.has x (List.mem_append_left _ hx)) hoT).mono fun e w'' ⟨he, hb⟩ => ⟨(), trivial, he, Kn.sublist (Own.ext hw hb) (List.sublist_append_right _ _)⟩
      case hp => exact rfl
      rintro - -
      refine' z_val rfl rfl rfl ?hr ?hp ?_
      case hr => exact fun N hN => r_move rfl rfl
      case hp => exact rfl
      refine' z_val rfl rfl rfl ?hr ?hp ?_
      case hr => exact fun N hN => r_not rfl rfl
      case hp => exact rfl
      refine' z_call Try.func51 (by kernel_rfl) rfl rfl rfl rfl rfl rfl ?hc ?hp ?_
      case hc => exact fun N hN w' hw => to_below (unless0_any _ _ w') rfl
      case hp => exact rfl
      refine' z_bsl rfl rfl (fun w => slInt2 _ _ w) rfl rfl rfl (fun _ => trivial) ?hp fun g2 => ?_
      case hp => exact rfl
      refine' z_write (fun _ : Unit => True) (fun _ => .int .i64 (wsC p a b S)) (fun _ => []) Try.func48 (by kernel_rfl) rfl rfl rfl rfl rfl rfl ?hc ⟨(), trivial⟩ (fun _ _ => trivial) ?hp ?_
      case hc => exact fun w' hw => (fo2v (wsC_fst p a b S) (hw.has _ List.mem_cons_self)).mono fun e w'' ⟨he, hb⟩ => ⟨(), trivial, he, Kn.sublist (Own.ext hw hb) (List.sublist_append_right _ _)⟩
      case hp => exact rfl
      rintro - -
      refine' z_val rfl rfl rfl ?hr ?hp ?_
      case hr => exact fun N hN => r_assign rfl rfl
      case hp => exact rfl
      refine z_nil ?_
      simp only [List.nil_append]
      by_cases h0 : wsC p a b S = 0
      case neg =>
        unfold wsV
        rw [if_neg h0]
        generalize wsC p a b S = c at *
        repeat' (first
          | (refine s_g ?_; first
      | (refine s_gd rfl ?_; first | refine s_gd1 rfl rfl zTr ?_ | refine s_gd0 rfl rfl rfl zTr ?_ | refine s_gd00 rfl rfl zTr ?_ | refine s_gp1 rfl rfl rfl (fun hc => ?_) (fun hc => ?_) | refine s_gp0 rfl rfl rfl (fun hc => ?_) (fun hc => ?_) | refine s_gnp1 rfl rfl rfl (fun hc => ?_) (fun hc => ?_) | refine s_gnp0 rfl rfl rfl (fun hc => ?_) (fun hc => ?_) | refine s_gb1 rfl rfl rfl (fun hc => ?_) (fun hc => ?_) | refine s_gb0 rfl rfl rfl (fun hc => ?_) (fun hc => ?_) | refine s_gnb1 rfl rfl rfl (fun hc => ?_) (fun hc => ?_) | refine s_gnb0 rfl rfl rfl (fun hc => ?_) (fun hc => ?_))
      | (refine s_k 0 rfl ?_; refine s_val rfl rfl rfl (r_move rfl rfl) ?_)
      | (refine s_k 8 rfl ?_; first | (refine' s_val rfl rfl rfl (r_ldv rfl rfl ?qm ?qv) ?_; (case qm => (exact zMm)); (case qv => (first | exact ldvL tb rfl rfl | exact ldv1 tb rfl (by assumption) | exact ldvW tb rfl rfl | exact ldvW tb rfl (by assumption) | exact ldvW tb rfl (Pv.size (by assumption)) | exact ldvN tb rfl ext2_0 rfl | exact ldvN tb rfl ext2_2 rfl))) | (refine' s_val rfl rfl rfl (r_ldo rfl rfl ?qw (by simp) ?qv) ?_; (case qw => assumption); (case qv => (first | exact ldvL tb rfl rfl | exact ldv1 tb rfl (by assumption) | exact ldvW tb rfl rfl | exact ldvW tb rfl (by assumption) | exact ldvW tb rfl (Pv.size (by assumption)) | exact ldvN tb rfl ext2_0 rfl | exact ldvN tb rfl ext2_2 rfl))))
      | (refine s_k 1 rfl ?_; refine s_val rfl rfl rfl (r_assign rfl rfl) ?_)
      | (refine s_k 13 rfl ?_; first | refine s_val rfl rfl rfl (r_lss rfl rfl rfl) ?_ | refine s_val rfl rfl rfl (r_neq rfl rfl rfl) ?_ | refine s_val rfl rfl rfl (r_add rfl rfl rfl (wrap_in (by simp only [lo, hi]; omega))) ?_ | refine s_val rfl rfl rfl (r_sub rfl rfl rfl (wrap_in (by simp only [lo, hi]; omega))) ?_)
      | (refine s_k 14 rfl ?_; refine s_val rfl rfl rfl (r_not rfl rfl) ?_)
      | (refine s_k 2 rfl ?_; first | refine s_val rfl rfl rfl (r_pick1 rfl rfl zTr rfl) ?_ | refine s_val rfl rfl rfl (r_pick0 rfl rfl zTr rfl) ?_)
      | (refine s_k 25 rfl ?_; first | refine s_val rfl rfl rfl (r_ixN tb rfl rfl rfl rfl (by omega)) ?_ | refine s_val rfl rfl rfl (r_ixA tb rfl rfl rfl rfl (by omega) (by omega)) ?_ | refine s_val rfl rfl rfl (r_ixO tb rfl rfl rfl rfl (by omega)) ?_)
      | (refine s_k 4 rfl ?_; first | refine s_boxA rfl rfl rfl rfl rfl fun blk => ?_ | refine s_box1 rfl rfl rfl rfl rfl rfl fun blk => ?_)
      | (refine s_k 9 rfl ?_; (first | refine s_st1 tb rfl rfl rfl rfl rfl rfl rfl rfl ?_ | refine s_stA tb rfl rfl rfl rfl (by first | rfl | assumption | (apply Pv.size; assumption)) rfl rfl ?_); (first | refine' st0 ?qs ?_ | refine' st1 ?qs ?_ | refine' st2 ?qs ?_ | refine' st3 ?qs ?_ | refine' st4 ?qs ?_ | refine' st5 ?qs ?_ | refine' st6 ?qs ?_ | refine' st7 ?qs ?_ | refine' st8 ?qs ?_ | refine' st9 ?qs ?_ | refine' st10 ?qs ?_ | refine' st11 ?qs ?_); (case qs => (first | exact zSet)))
      | (refine s_k 36 rfl ?_; refine s_val rfl rfl rfl (r_len tb rfl rfl rfl) ?_)
      | refine s_nil ?_)
          | (refine c_g ?_; first | refine c_seq ?_ | refine c_region ?_ | (refine c_gc ?_; first | refine c_cond1 rfl zTr ?_ | refine c_cond0 rfl zTr ?_ | refine z_condd1 rfl ?_ | refine z_condd0 rfl ?_ | refine z_conddn1 rfl ?_ | refine z_conddn0 rfl ?_ | refine c_condd rfl (fun hc => ?_) (fun hc => ?_) | refine c_conddn rfl (fun hc => ?_) (fun hc => ?_) | refine c_condn rfl (fun hc => ?_) (fun hc => ?_) | refine c_cond rfl (fun hc => ?_) (fun hc => ?_)) | refine c_block ?_ | refine c_skip ?_ | refine c_exit ?_ | refine c_ret ?_)
          | (refine e_g ?_; first | refine e_then ?_ | refine e_blkn ?_ | refine e_thenx ?_ | refine e_thenr ?_ | refine e_blkr ?_ | refine e_blkx ?_ | refine e_blky rfl ?_)
          | (refine e_ret2 (by simp) rfl (re_tmp rfl) (re_tmp rfl) fun w hL => ⟨rfl, hL.toBelow⟩))
      case pos =>
        have hcab0 : cellC p (a ++ b) = 0 := by
          unfold wsC at h0
          split at h0
          · assumption
          · exact absurd h0 (by assumption)
        have hany : S.any (badW p) = false := by
          unfold wsC at h0
          rw [if_pos hcab0] at h0
          cases hq : S.any (badW p)
          · rfl
          · rw [hq] at h0; cases h0
        have hbad : ∀ s ∈ S, badW p s = false := fun s hs => by
          cases hb : badW p s
          · rfl
          · have := List.any_eq_true.2 ⟨s, hs, hb⟩; rw [hany] at this; cases this
        obtain ⟨hv, hcab⟩ := cellC_0 hcab0
        obtain ⟨hW, hH, hW10, hH10⟩ := validP_dims hv
        unfold wsV
        rw [if_pos h0, h0]
        have hSS0 := hSS w ⟨rfl, rfl, rfl, Nat.le_refl _, fun _ _ => rfl⟩
        have hsa := hAa.slA (lenSp a) hga
        have hsb := hAb.slA (lenSp b) hgb
        have hha := fun w' hS (f : Sp) => hasSpot_any a f.x f.y (some ⟨ga, 0, none⟩) capa w' hS (by unfold maxLen; omega)
        have hhb := fun w' hS (f : Sp) => hasSpot_any b f.x f.y (some ⟨gb, 0, none⟩) capb w' hS (by unfold maxLen; omega)
        repeat' (first
          | (refine s_g ?_; first
      | (refine s_gd rfl ?_; first | refine s_gd1 rfl rfl zTr ?_ | refine s_gd0 rfl rfl rfl zTr ?_ | refine s_gd00 rfl rfl zTr ?_ | refine s_gp1 rfl rfl rfl (fun hc => ?_) (fun hc => ?_) | refine s_gp0 rfl rfl rfl (fun hc => ?_) (fun hc => ?_) | refine s_gnp1 rfl rfl rfl (fun hc => ?_) (fun hc => ?_) | refine s_gnp0 rfl rfl rfl (fun hc => ?_) (fun hc => ?_) | refine s_gb1 rfl rfl rfl (fun hc => ?_) (fun hc => ?_) | refine s_gb0 rfl rfl rfl (fun hc => ?_) (fun hc => ?_) | refine s_gnb1 rfl rfl rfl (fun hc => ?_) (fun hc => ?_) | refine s_gnb0 rfl rfl rfl (fun hc => ?_) (fun hc => ?_))
      | (refine s_k 0 rfl ?_; refine s_val rfl rfl rfl (r_move rfl rfl) ?_)
      | (refine s_k 8 rfl ?_; first | (refine' s_val rfl rfl rfl (r_ldv rfl rfl ?qm ?qv) ?_; (case qm => (exact zMm)); (case qv => (first | exact ldvL tb rfl rfl | exact ldv1 tb rfl (by assumption) | exact ldvW tb rfl rfl | exact ldvW tb rfl (by assumption) | exact ldvW tb rfl (Pv.size (by assumption)) | exact ldvN tb rfl ext2_0 rfl | exact ldvN tb rfl ext2_2 rfl))) | (refine' s_val rfl rfl rfl (r_ldo rfl rfl ?qw (by simp) ?qv) ?_; (case qw => assumption); (case qv => (first | exact ldvL tb rfl rfl | exact ldv1 tb rfl (by assumption) | exact ldvW tb rfl rfl | exact ldvW tb rfl (by assumption) | exact ldvW tb rfl (Pv.size (by assumption)) | exact ldvN tb rfl ext2_0 rfl | exact ldvN tb rfl ext2_2 rfl))))
      | (refine s_k 1 rfl ?_; refine s_val rfl rfl rfl (r_assign rfl rfl) ?_)
      | (refine s_k 13 rfl ?_; first | refine s_val rfl rfl rfl (r_lss rfl rfl rfl) ?_ | refine s_val rfl rfl rfl (r_neq rfl rfl rfl) ?_ | refine s_val rfl rfl rfl (r_add rfl rfl rfl (wrap_in (by simp only [lo, hi]; omega))) ?_ | refine s_val rfl rfl rfl (r_sub rfl rfl rfl (wrap_in (by simp only [lo, hi]; omega))) ?_)
      | (refine s_k 14 rfl ?_; refine s_val rfl rfl rfl (r_not rfl rfl) ?_)
      | (refine s_k 2 rfl ?_; first | refine s_val rfl rfl rfl (r_pick1 rfl rfl zTr rfl) ?_ | refine s_val rfl rfl rfl (r_pick0 rfl rfl zTr rfl) ?_)
      | (refine s_k 25 rfl ?_; first | refine s_val rfl rfl rfl (r_ixN tb rfl rfl rfl rfl (by omega)) ?_ | refine s_val rfl rfl rfl (r_ixA tb rfl rfl rfl rfl (by omega) (by omega)) ?_ | refine s_val rfl rfl rfl (r_ixO tb rfl rfl rfl rfl (by omega)) ?_)
      | (refine s_k 4 rfl ?_; first | refine s_boxA rfl rfl rfl rfl rfl fun blk => ?_ | refine s_box1 rfl rfl rfl rfl rfl rfl fun blk => ?_)
      | (refine s_k 9 rfl ?_; (first | refine s_st1 tb rfl rfl rfl rfl rfl rfl rfl rfl ?_ | refine s_stA tb rfl rfl rfl rfl (by first | rfl | assumption | (apply Pv.size; assumption)) rfl rfl ?_); (first | refine' st0 ?qs ?_ | refine' st1 ?qs ?_ | refine' st2 ?qs ?_ | refine' st3 ?qs ?_ | refine' st4 ?qs ?_ | refine' st5 ?qs ?_ | refine' st6 ?qs ?_ | refine' st7 ?qs ?_ | refine' st8 ?qs ?_ | refine' st9 ?qs ?_ | refine' st10 ?qs ?_ | refine' st11 ?qs ?_); (case qs => (first | exact zSet)))
      | (refine s_k 36 rfl ?_; refine s_val rfl rfl rfl (r_len tb rfl rfl rfl) ?_)
      | refine s_nil ?_)
          | (refine c_g ?_; first | refine c_seq ?_ | refine c_region ?_ | (refine c_gc ?_; first | refine c_cond1 rfl zTr ?_ | refine c_cond0 rfl zTr ?_ | refine z_condd1 rfl ?_ | refine z_condd0 rfl ?_ | refine z_conddn1 rfl ?_ | refine z_conddn0 rfl ?_ | refine c_condd rfl (fun hc => ?_) (fun hc => ?_) | refine c_conddn rfl (fun hc => ?_) (fun hc => ?_) | refine c_condn rfl (fun hc => ?_) (fun hc => ?_) | refine c_cond rfl (fun hc => ?_) (fun hc => ?_)) | refine c_block ?_ | refine c_skip ?_ | refine c_exit ?_ | refine c_ret ?_)
          | (refine e_g ?_; first | refine e_then ?_ | refine e_blkn ?_ | refine e_thenx ?_ | refine e_thenr ?_ | refine e_blkr ?_ | refine e_blkx ?_ | refine e_blky rfl ?_))
        refine c_loop (ι := Nat × Array Value) (fun i => S.length - i.1) (fun i => i.1 ≤ S.length ∧ Pv (gone p S i.1) i.2 ∧ ∀ j, j < i.1 → wayGk p a b S j = true) (fun i => [(35, .int .i64 (i.1 : Int)), (34, .int .i64 (S.length : Int)), (33, .slice (some ⟨g, 0, none⟩) S.length cap), (1, .slice (some ⟨ga, 0, none⟩) a.length capa), (2, .slice (some ⟨gb, 0, none⟩) b.length capb), (4, .pointer (some ⟨blk, 0, none⟩))]) (fun i => [(blk, 36, i.2)]) (0, cs) ⟨by simp, by simp only [gone_z]; exact hp, fun j h => by simp at h⟩ ?hs rfl ?_
        case hs => (repeat' (first | exact sub_nil | refine sub_cons rfl ?_))
        rintro ⟨k, c⟩ ⟨hk, hpk, hbe⟩
        simp only at hk hpk hbe ⊢
        by_cases hlt : k < S.length
        · have hx : S[k]? = some S[k] := List.getElem?_eq_getElem hlt
          obtain ⟨Au, capu, hcv, hcp, hSu⟩ : ∃ A c, cur[0 + k * 1]? = some (.slice A S[k].length c) ∧ S[k].length ≤ c ∧ SlA [] w 2 A (S[k].map Sp.cells) := by
            have hv' : (itV S items)[k]? = some ((itV S items)[k]'(by rw [itV_len hI.len]; exact hlt)) := List.getElem?_eq_getElem _
            obtain ⟨A, c, e, h1, h2, h3⟩ := (hSS0.3 k _ _ hx hv').open
            rw [List.length_map] at e h1
            exact ⟨A, c, by rw [← e]; exact hSS0.2 k _ hv', h1, h3⟩
          have hbs := badW_no (hbad _ (List.getElem_mem hlt))
          have hsn : S[k].length ≤ 1048576 := by have h := totN_le S (k + 1); rw [totN_snoc hx, List.length_append] at h; omega
          have hgs := gone_succ (p := p) hx
          have hwg := wayGk_eq (p := p) (a := a) (b := b) hx
          have h01 := gone_01 p S k
          generalize S[k] = s at *
          obtain ⟨hcc, hs0⟩ := hbs
          have hcel : ∀ c ∈ s, inR c := fun c hc => isC_range ((cellC_0 hcc).2 c hc)
          generalize gone p S k = q at *
          have hf : s[0]? = some (s[0]'(by omega)) := List.getElem?_eq_getElem (by omega)
          have hl : s[s.length - 1]? = some (s[s.length - 1]'(by omega)) := List.getElem?_eq_getElem (by omega)
          have hwgd : wayG q a b s = (hasE a s[0]? && hasE b s[s.length - 1]? && wayB q s) := rfl
          rw [hf, hl] at hwgd
          generalize s[0]'(by omega) = f at *
          generalize s[s.length - 1]'(by omega) = t at *
          have hf' : (s.map Sp.cells)[0]? = some f.cells := by simp [hf]
          have hl' : (s.map Sp.cells)[s.length - 1]? = some t.cells := by simp [hl]
          have hk0 : 0 < (s.map Sp.cells).length := by simp; omega
          have hk1 : s.length - 1 < (s.map Sp.cells).length := by simp; omega
          have hwr : IntKind.i64.wrap ((s.length : Int) - 1) = ((s.length - 1 : Nat) : Int) := by rw [show (s.length : Int) - 1 = ((s.length - 1 : Nat) : Int) by omega]; exact wrap_in (by simp only [Wk.lo, Wk.hi]; omega)
          have hqa := fun w' hS => hha w' hS f
          have hqb := fun w' hS => hhb w' hS t
          have ea : (a.any fun s => eqSp ⟨f.x, f.y⟩ s) = a.any (eqSp f) := rfl
          have eb : (b.any fun s => eqSp ⟨t.x, t.y⟩ s) = b.any (eqSp t) := rfl
          rw [ea] at hqa
          rw [eb] at hqb
          unfold hasE at hwgd
          simp only at hwgd
          cases hea : a.any (eqSp f)
          case' true => cases heb : b.any (eqSp t)
          all_goals
            (rw [hea] at hqa hwgd)
            (try rw [heb] at hqb hwgd)
            simp only [Bool.false_and, Bool.true_and, Bool.and_true, Bool.and_false] at hwgd
            repeat' (first
              | (refine s_g ?_; first
      | (refine s_gd rfl ?_; first | refine s_gd1 rfl rfl zTr ?_ | refine s_gd0 rfl rfl rfl zTr ?_ | refine s_gd00 rfl rfl zTr ?_ | refine s_gdu rfl rfl rfl ?_ | refine s_gp1 rfl rfl rfl (fun hc => ?_) (fun hc => ?_) | refine s_gp0 rfl rfl rfl (fun hc => ?_) (fun hc => ?_) | refine s_gnp1 rfl rfl rfl (fun hc => ?_) (fun hc => ?_) | refine s_gnp0 rfl rfl rfl (fun hc => ?_) (fun hc => ?_) | refine s_gb1 rfl rfl rfl (fun hc => ?_) (fun hc => ?_) | refine s_gb0 rfl rfl rfl (fun hc => ?_) (fun hc => ?_) | refine s_gnb1 rfl rfl rfl (fun hc => ?_) (fun hc => ?_) | refine s_gnb0 rfl rfl rfl (fun hc => ?_) (fun hc => ?_))
      | (refine s_k 0 rfl ?_; refine s_val rfl rfl rfl (r_move rfl rfl) ?_)
      | (refine s_k 8 rfl ?_; first | refine s_val rfl rfl rfl (r_ldo rfl rfl hg (by simp) (ldv1 tb rfl hcv)) ?_ | refine s_val rfl rfl rfl (r_ldS (i := 0) tb rfl hSu rfl hf' rfl) ?_ | refine s_val rfl rfl rfl (r_ldS (i := s.length - 1) tb rfl hSu rfl hl' rfl) ?_ | (refine' s_val rfl rfl rfl (r_ldv rfl rfl ?qm ?qv) ?_; (case qm => (exact zMm)); (case qv => (first | exact ldvL tb rfl rfl | exact ldv1 tb rfl (by assumption) | exact ldvW tb rfl rfl | exact ldvW tb rfl (by assumption) | exact ldvW tb rfl (Pv.size (by assumption)) | exact ldvN tb rfl ext2_0 rfl | exact ldvN tb rfl ext2_2 rfl))) | (refine' s_val rfl rfl rfl (r_ldo rfl rfl ?qw (by simp) ?qv) ?_; (case qw => assumption); (case qv => (first | exact ldvL tb rfl rfl | exact ldv1 tb rfl (by assumption) | exact ldvW tb rfl rfl | exact ldvW tb rfl (by assumption) | exact ldvW tb rfl (Pv.size (by assumption)) | exact ldvN tb rfl ext2_0 rfl | exact ldvN tb rfl ext2_2 rfl))))
      | (refine s_k 1 rfl ?_; refine s_val rfl rfl rfl (r_assign rfl rfl) ?_)
      | (refine s_k 13 rfl ?_; first | refine s_val rfl rfl rfl (r_sub rfl rfl rfl hwr) ?_ | refine s_val rfl rfl rfl (r_lss rfl rfl rfl) ?_ | refine s_val rfl rfl rfl (r_neq rfl rfl rfl) ?_ | refine s_val rfl rfl rfl (r_add rfl rfl rfl (wrap_in (by simp only [lo, hi]; omega))) ?_ | refine s_val rfl rfl rfl (r_sub rfl rfl rfl (wrap_in (by simp only [lo, hi]; omega))) ?_)
      | (refine s_k 35 rfl ?_; first | (refine s_call Try.func52 (by kernel_rfl) rfl rfl rfl rfl rfl rfl (fun w hL => hqa _ (hsa.at_ hL)) ?_) | (refine s_call Try.func52 (by kernel_rfl) rfl rfl rfl rfl rfl rfl (fun w hL => hqb _ (hsb.at_ hL)) ?_))
      | (refine s_k 14 rfl ?_; refine s_val rfl rfl rfl (r_not rfl rfl) ?_)
      | (refine s_k 2 rfl ?_; first | refine s_val rfl rfl rfl (r_pick1 rfl rfl zTr rfl) ?_ | refine s_val rfl rfl rfl (r_pick0 rfl rfl zTr rfl) ?_)
      | (refine s_k 25 rfl ?_; first | refine s_val rfl rfl rfl (r_ixO tb rfl rfl rfl rfl hlt) ?_ | refine s_val rfl rfl rfl (r_ixS (i := 0) tb rfl hSu rfl rfl rfl (by simp) hk0) ?_ | refine s_val rfl rfl rfl (r_ixS (i := s.length - 1) tb rfl hSu rfl rfl rfl (by simp) hk1) ?_ | refine s_val rfl rfl rfl (r_ixN tb rfl rfl rfl rfl (by omega)) ?_ | refine s_val rfl rfl rfl (r_ixA tb rfl rfl rfl rfl (by omega) (by omega)) ?_ | refine s_val rfl rfl rfl (r_ixO tb rfl rfl rfl rfl (by omega)) ?_)
      | (refine s_k 4 rfl ?_; first | refine s_boxA rfl rfl rfl rfl rfl fun blk => ?_ | refine s_box1 rfl rfl rfl rfl rfl rfl fun blk => ?_)
      | (refine s_k 9 rfl ?_; (first | refine s_st1 tb rfl rfl rfl rfl rfl rfl rfl rfl ?_ | refine s_stA tb rfl rfl rfl rfl (by first | rfl | assumption | (apply Pv.size; assumption)) rfl rfl ?_); (first | refine' st0 ?qs ?_ | refine' st1 ?qs ?_ | refine' st2 ?qs ?_ | refine' st3 ?qs ?_ | refine' st4 ?qs ?_ | refine' st5 ?qs ?_ | refine' st6 ?qs ?_ | refine' st7 ?qs ?_ | refine' st8 ?qs ?_ | refine' st9 ?qs ?_ | refine' st10 ?qs ?_ | refine' st11 ?qs ?_); (case qs => (first | exact zSet)))
      | (refine s_k 36 rfl ?_; refine s_val rfl rfl rfl (r_len tb rfl rfl rfl) ?_)
      | refine s_nil ?_)
              | (refine c_g ?_; first | refine c_seq ?_ | refine c_region ?_ | (refine c_gc ?_; first | refine c_cond1 rfl zTr ?_ | refine c_cond0 rfl zTr ?_ | refine z_condd1 rfl ?_ | refine z_condd0 rfl ?_ | refine z_conddn1 rfl ?_ | refine z_conddn0 rfl ?_ | refine c_condd rfl (fun hc => ?_) (fun hc => ?_) | refine c_conddn rfl (fun hc => ?_) (fun hc => ?_) | refine c_condn rfl (fun hc => ?_) (fun hc => ?_) | refine c_cond rfl (fun hc => ?_) (fun hc => ?_)) | refine c_block ?_ | refine c_skip ?_ | refine c_exit ?_ | refine c_ret ?_)
              | (refine e_g ?_; first | refine e_then ?_ | refine e_blkn ?_ | refine e_thenx ?_ | refine e_thenr ?_ | refine e_blkr ?_ | refine e_blkx ?_ | refine e_blky rfl ?_)
              | (refine e_ret2 (by simp) rfl (re_tmp rfl) (re_tmp rfl) fun w hL => ⟨by rw [wsB_no hlt (hwg.trans hwgd)], hL.toBelow⟩))
          refine c_loop (ι := Nat × Array Value) (fun i => s.length - i.1) (fun i => i.1 ≤ s.length - 1 ∧ Pv (wayP q s i.1) i.2 ∧ ∀ j, j < i.1 → wayK q s j = true) (fun i => [(14, .int .i64 ((i.1 + 1 : Nat) : Int)), (13, .slice Au s.length capu), (35, .int .i64 (k : Int)), (34, .int .i64 (S.length : Int)), (33, .slice (some ⟨g, 0, none⟩) S.length cap), (1, .slice (some ⟨ga, 0, none⟩) a.length capa), (2, .slice (some ⟨gb, 0, none⟩) b.length capb), (4, .pointer (some ⟨blk, 0, none⟩))]) (fun i => [(blk, 36, i.2)]) (0, c) ⟨by simp, by simp only [wayP_z]; exact hpk, fun j h => by simp at h⟩ ?hs rfl ?_
          case hs => (repeat' (first | exact sub_nil | refine sub_cons rfl ?_))
          rintro ⟨i, c2⟩ ⟨hki, hp2, hbe2⟩
          simp only at hki hp2 hbe2 ⊢
          by_cases hlt2 : i + 1 < s.length
          · have hxa : s[i]? = some (s[i]'(by omega)) := List.getElem?_eq_getElem (by omega)
            have hxb : s[i + 1]? = some s[i + 1] := List.getElem?_eq_getElem hlt2
            have hKe := wayK_eq (p := q) hxa hxb
            have hPe := wayP_succ (p := q) hxa hxb
            have hra := hcel _ (List.getElem_mem (show i < s.length by omega))
            generalize s[i]'(by omega) = a' at *
            generalize s[i + 1] = b' at *
            generalize wayP q s i = q2 at *
            have hsz2 := hp2.size
            have hra' := hra
            unfold inR at hra'
            have hxa' : (s.map Sp.cells)[i]? = some a'.cells := by simp [hxa]
            have hxb' : (s.map Sp.cells)[i + 1]? = some b'.cells := by simp [hxb]
            have hka : i < (s.map Sp.cells).length := by simp; omega
            have hkb : i + 1 < (s.map Sp.cells).length := by simp; omega
            have hwr2 : IntKind.i64.wrap (((i + 1 : Nat) : Int) - 1) = (i : Int) := by rw [show ((i + 1 : Nat) : Int) - 1 = (i : Int) by omega]; exact wrap_in (by simp only [Wk.lo, Wk.hi]; omega)
            have hco : ((besL q2 a'.x a'.y 4).any fun s => eqSp ⟨b'.x, b'.y⟩ s) = okB q2 a' b' := rfl
            cases hok : okB q2 a' b'
            · rw [hok] at hco
              have hwb := wayB_no hlt2 (hKe.trans hok)
              rw [hwb] at hwgd
              repeat' (first
                | (refine s_g ?_; first
      | (refine s_gd rfl ?_; first | refine s_gd1 rfl rfl zTr ?_ | refine s_gd0 rfl rfl rfl zTr ?_ | refine s_gd00 rfl rfl zTr ?_ | refine s_gp1 rfl rfl rfl (fun hc => ?_) (fun hc => ?_) | refine s_gp0 rfl rfl rfl (fun hc => ?_) (fun hc => ?_) | refine s_gnp1 rfl rfl rfl (fun hc => ?_) (fun hc => ?_) | refine s_gnp0 rfl rfl rfl (fun hc => ?_) (fun hc => ?_) | refine s_gb1 rfl rfl rfl (fun hc => ?_) (fun hc => ?_) | refine s_gb0 rfl rfl rfl (fun hc => ?_) (fun hc => ?_) | refine s_gnb1 rfl rfl rfl (fun hc => ?_) (fun hc => ?_) | refine s_gnb0 rfl rfl rfl (fun hc => ?_) (fun hc => ?_))
      | (refine s_k 0 rfl ?_; refine s_val rfl rfl rfl (r_move rfl rfl) ?_)
      | (refine s_k 8 rfl ?_; first | refine s_val rfl rfl rfl (r_ldS (i := i) tb rfl hSu rfl hxa' rfl) ?_ | refine s_val rfl rfl rfl (r_ldS (i := i + 1) tb rfl hSu rfl hxb' rfl) ?_ | (refine' s_val rfl rfl rfl (r_ldv rfl rfl ?qm ?qv) ?_; (case qm => (exact zMm)); (case qv => (first | exact ldvL tb rfl rfl | exact ldv1 tb rfl (by assumption) | exact ldvW tb rfl rfl | exact ldvW tb rfl (by assumption) | exact ldvW tb rfl (Pv.size (by assumption)) | exact ldvN tb rfl ext2_0 rfl | exact ldvN tb rfl ext2_2 rfl))) | (refine' s_val rfl rfl rfl (r_ldo rfl rfl ?qw (by simp) ?qv) ?_; (case qw => assumption); (case qv => (first | exact ldvL tb rfl rfl | exact ldv1 tb rfl (by assumption) | exact ldvW tb rfl rfl | exact ldvW tb rfl (by assumption) | exact ldvW tb rfl (Pv.size (by assumption)) | exact ldvN tb rfl ext2_0 rfl | exact ldvN tb rfl ext2_2 rfl))))
      | (refine s_k 1 rfl ?_; refine s_val rfl rfl rfl (r_assign rfl rfl) ?_)
      | (refine s_k 13 rfl ?_; first | refine s_val rfl rfl rfl (r_sub rfl rfl rfl hwr2) ?_ | refine s_val rfl rfl rfl (r_lss rfl rfl rfl) ?_ | refine s_val rfl rfl rfl (r_neq rfl rfl rfl) ?_ | refine s_val rfl rfl rfl (r_add rfl rfl rfl (wrap_in (by simp only [lo, hi]; omega))) ?_ | refine s_val rfl rfl rfl (r_sub rfl rfl rfl (wrap_in (by simp only [lo, hi]; omega))) ?_)
      | (refine s_k 14 rfl ?_; refine s_val rfl rfl rfl (r_not rfl rfl) ?_)
      | (refine s_k 2 rfl ?_; first | refine s_val rfl rfl rfl (r_pick1 rfl rfl zTr rfl) ?_ | refine s_val rfl rfl rfl (r_pick0 rfl rfl zTr rfl) ?_)
      | (refine s_k 25 rfl ?_; first | refine s_val rfl rfl rfl (r_ixS (i := i) tb rfl hSu rfl rfl rfl (by simp) hka) ?_ | refine s_val rfl rfl rfl (r_ixS (i := i + 1) tb rfl hSu rfl rfl rfl (by simp) hkb) ?_ | refine s_val rfl rfl rfl (r_ixN tb rfl rfl rfl rfl (by omega)) ?_ | refine s_val rfl rfl rfl (r_ixA tb rfl rfl rfl rfl (by omega) (by omega)) ?_ | refine s_val rfl rfl rfl (r_ixO tb rfl rfl rfl rfl (by omega)) ?_)
      | (refine s_k 4 rfl ?_; first | refine s_boxA rfl rfl rfl rfl rfl fun blk => ?_ | refine s_box1 rfl rfl rfl rfl rfl rfl fun blk => ?_)
      | (refine s_k 9 rfl ?_; (first | refine s_st1 tb rfl rfl rfl rfl rfl rfl rfl rfl ?_ | refine s_stA tb rfl rfl rfl rfl (by first | rfl | assumption | (apply Pv.size; assumption)) rfl rfl ?_); (first | refine' st0 ?qs ?_ | refine' st1 ?qs ?_ | refine' st2 ?qs ?_ | refine' st3 ?qs ?_ | refine' st4 ?qs ?_ | refine' st5 ?qs ?_ | refine' st6 ?qs ?_ | refine' st7 ?qs ?_ | refine' st8 ?qs ?_ | refine' st9 ?qs ?_ | refine' st10 ?qs ?_ | refine' st11 ?qs ?_); (case qs => (first | exact zSet)))
      | (refine s_k 36 rfl ?_; refine s_val rfl rfl rfl (r_len tb rfl rfl rfl) ?_)
      | refine s_nil ?_)
                | (refine c_g ?_; first | refine c_seq ?_ | refine c_region ?_ | (refine c_gc ?_; first | refine c_cond1 rfl zTr ?_ | refine c_cond0 rfl zTr ?_ | refine z_condd1 rfl ?_ | refine z_condd0 rfl ?_ | refine z_conddn1 rfl ?_ | refine z_conddn0 rfl ?_ | refine c_condd rfl (fun hc => ?_) (fun hc => ?_) | refine c_conddn rfl (fun hc => ?_) (fun hc => ?_) | refine c_condn rfl (fun hc => ?_) (fun hc => ?_) | refine c_cond rfl (fun hc => ?_) (fun hc => ?_)) | refine c_block ?_ | refine c_skip ?_ | refine c_exit ?_ | refine c_ret ?_)
                | (refine e_g ?_; first | refine e_then ?_ | refine e_blkn ?_ | refine e_thenx ?_ | refine e_thenr ?_ | refine e_blkr ?_ | refine e_blkx ?_ | refine e_blky rfl ?_)
                | (refine y_g ?_; first
      | (refine y_gd rfl ?_; first | refine y_gd1 rfl rfl zTr ?_ | (refine y_gd0 rfl rfl rfl zTr ?hp ?_; (case hp => exact rfl)))
      | (refine y_k 8 rfl ?_; first | (refine y_val rfl rfl rfl (r_ldS (i := i) tb rfl hSu rfl hxa' rfl) ?hp ?_; (case hp => exact rfl)) | (refine y_val rfl rfl rfl (r_ldS (i := i + 1) tb rfl hSu rfl hxb' rfl) ?hp ?_; (case hp => exact rfl)) | (refine' y_val rfl rfl rfl (r_ldv rfl rfl ?qm ?qv) ?hp ?_; (case qm => (exact zMm)); (case qv => (first | exact ldvL tb rfl rfl | exact ldv1 tb rfl (by assumption) | exact ldvW tb rfl rfl | exact ldvW tb rfl (by assumption) | exact ldvW tb rfl (Pv.size (by assumption)) | exact ldvN tb rfl ext2_0 rfl | exact ldvN tb rfl ext2_2 rfl)); (case hp => exact rfl)) | (refine' y_val rfl rfl rfl (r_ldo rfl rfl ?qw (by simp) ?qv) ?hp ?_; (case qw => assumption); (case qv => (first | exact ldvL tb rfl rfl | exact ldv1 tb rfl (by assumption) | exact ldvW tb rfl rfl | exact ldvW tb rfl (by assumption) | exact ldvW tb rfl (Pv.size (by assumption)) | exact ldvN tb rfl ext2_0 rfl | exact ldvN tb rfl ext2_2 rfl)); (case hp => exact rfl)))
      | (refine y_k 13 rfl ?_; first | (refine y_val rfl rfl rfl (r_sub rfl rfl rfl hwr2) ?hp ?_; (case hp => exact rfl)) | (refine y_val rfl rfl rfl (r_lss rfl rfl rfl) ?hp ?_; (case hp => exact rfl)) | (refine y_val rfl rfl rfl (r_neq rfl rfl rfl) ?hp ?_; (case hp => exact rfl)) | (refine y_val rfl rfl rfl (r_add rfl rfl rfl (wrap_in (by simp only [lo, hi]; omega))) ?hp ?_; (case hp => exact rfl)) | (refine y_val rfl rfl rfl (r_sub rfl rfl rfl (wrap_in (by simp only [lo, hi]; omega))) ?hp ?_; (case hp => exact rfl)))
      | (refine y_k 35 rfl ?_; first | (refine' y_callN Try.func53 (by kernel_rfl) rfl rfl rfl rfl rfl rfl (fun w hL => beside_any q2 c2 a'.x a'.y w hp2 ⟨hra'.1, hra'.2.1⟩ hra'.2.2) (flS_len _) (besL_max _ _ _) ?hp (fun g m cap cur hA => ?_); (case hp => exact rfl); have hm := hA.len; rw [flS_len] at hm; obtain rfl : m = (besL q2 a'.x a'.y 4).length := by omega) | (refine' y_rd Try.func52 (by kernel_rfl) rfl rfl rfl rfl rfl rfl List.mem_cons_self List.mem_cons_self rfl (fun w hL => hco ▸ hasSpot_any (besL q2 a'.x a'.y 4) b'.x b'.y _ _ w (hA.sl (hL.at_ m0)).2 (besL_max _ _ _)) ?hp ?_; (case hp => exact rfl)))
      | (refine y_k 14 rfl ?_; (refine y_val rfl rfl rfl (r_not rfl rfl) ?hp ?_; (case hp => exact rfl)))
      | (refine y_k 2 rfl ?_; first | (refine y_val rfl rfl rfl (r_pick1 rfl rfl zTr rfl) ?hp ?_; (case hp => exact rfl)) | (refine y_val rfl rfl rfl (r_pick0 rfl rfl zTr rfl) ?hp ?_; (case hp => exact rfl)))
      | (refine y_k 25 rfl ?_; first | (refine y_val rfl rfl rfl (r_ixS (i := i) tb rfl hSu rfl rfl rfl (by simp) hka) ?hp ?_; (case hp => exact rfl)) | (refine y_val rfl rfl rfl (r_ixS (i := i + 1) tb rfl hSu rfl rfl rfl (by simp) hkb) ?hp ?_; (case hp => exact rfl)) | (refine y_val rfl rfl rfl (r_ixN tb rfl rfl rfl rfl (by omega)) ?hp ?_; (case hp => exact rfl)) | (refine y_val rfl rfl rfl (r_ixA tb rfl rfl rfl rfl (by omega) (by omega)) ?hp ?_; (case hp => exact rfl)) | (refine y_val rfl rfl rfl (r_ixO tb rfl rfl rfl rfl (by omega)) ?hp ?_; (case hp => exact rfl)))
      | (refine y_k 36 rfl ?_; (refine y_val rfl rfl rfl (r_len tb rfl rfl rfl) ?hp ?_; (case hp => exact rfl)))
      | refine y_nil0 ?_
      | refine y_nil ?_
      | (refine' y_k 0 rfl ?_; (refine' y_move rfl rfl rfl rfl rfl ?hp ?_; (case hp => exact rfl)))
      | (refine' y_k 1 rfl ?_; (refine' y_assign rfl rfl rfl rfl rfl ?hp ?_; (case hp => exact rfl))))
                | (refine' c_drawY (id := 13) [(Sum.inl _ : CalmB.Plan), (Sum.inl _ : CalmB.Plan), (Sum.inl _ : CalmB.Plan), (Sum.inl _ : CalmB.Plan), (Sum.inl _ : CalmB.Plan), (Sum.inl _ : CalmB.Plan), (Sum.inr _ : CalmB.Plan), (Sum.inl _ : CalmB.Plan), (Sum.inl _ : CalmB.Plan), (Sum.inl _ : CalmB.Plan), (Sum.inl _ : CalmB.Plan), (Sum.inl _ : CalmB.Plan), (Sum.inl _ : CalmB.Plan)] (by kernel_rfl) (by kernel_rfl) ?_)
                | (refine e_ret2 (by simp) rfl (re_tmp rfl) (re_tmp rfl) fun w hL => ⟨by rw [wsB_no hlt (hwg.trans hwgd)], hL.toBelow⟩))
            · rw [hok] at hco
              obtain ⟨_, b0, o0, rfl, _, _⟩ := hSu 0 _ hf'
              have hS2 : SlA [] w 2 (some ⟨b0, o0 + i * 2, none⟩) [a'.cells, b'.cells] := by
                have h := (hSu.drop i).take 2
                have e : ((s.map Sp.cells).drop i).take 2 = [a'.cells, b'.cells] := by
                  apply List.ext_getElem?
                  intro j
                  match j with
                  | 0 => simp [hxa]
                  | 1 => simp [hxb]
                  | j + 2 => simp [List.getElem?_take]; intro h; omega
                rw [e] at h; exact h
              obtain ⟨c', hc'⟩ := wayP_ex hp2 hok hra
              have hal := alK_ok hok
              have hbr := btw_ok hok hra
              have hInP : InP [btw a' b'] := fun x hx => by rw [List.mem_singleton] at hx; subst hx; exact hbr
              have hwr3 : IntKind.i64.wrap (((i + 1 : Nat) : Int) + 1) = ((i + 2 : Nat) : Int) := by rw [show ((i + 1 : Nat) : Int) + 1 = ((i + 2 : Nat) : Int) by omega]; exact wrap_in (by simp only [Wk.lo, Wk.hi]; omega)
              have hsd := fun w' hS => sidesAlong_any a' b' (some ⟨b0, o0 + i * 2, none⟩) (capu - i) w' hS hra
              rw [hal] at hsd
              repeat' (first
                | (refine s_g ?_; first
      | (refine s_gd rfl ?_; first | refine s_gd1 rfl rfl zTr ?_ | refine s_gd0 rfl rfl rfl zTr ?_ | refine s_gd00 rfl rfl zTr ?_ | refine s_gp1 rfl rfl rfl (fun hc => ?_) (fun hc => ?_) | refine s_gp0 rfl rfl rfl (fun hc => ?_) (fun hc => ?_) | refine s_gnp1 rfl rfl rfl (fun hc => ?_) (fun hc => ?_) | refine s_gnp0 rfl rfl rfl (fun hc => ?_) (fun hc => ?_) | refine s_gb1 rfl rfl rfl (fun hc => ?_) (fun hc => ?_) | refine s_gb0 rfl rfl rfl (fun hc => ?_) (fun hc => ?_) | refine s_gnb1 rfl rfl rfl (fun hc => ?_) (fun hc => ?_) | refine s_gnb0 rfl rfl rfl (fun hc => ?_) (fun hc => ?_))
      | (refine s_k 0 rfl ?_; refine s_val rfl rfl rfl (r_move rfl rfl) ?_)
      | (refine s_k 8 rfl ?_; first | refine s_val rfl rfl rfl (r_ldS (i := i) tb rfl hSu rfl hxa' rfl) ?_ | refine s_val rfl rfl rfl (r_ldS (i := i + 1) tb rfl hSu rfl hxb' rfl) ?_ | (refine' s_val rfl rfl rfl (r_ldv rfl rfl ?qm ?qv) ?_; (case qm => (exact zMm)); (case qv => (first | exact ldvL tb rfl rfl | exact ldv1 tb rfl (by assumption) | exact ldvW tb rfl rfl | exact ldvW tb rfl (by assumption) | exact ldvW tb rfl (Pv.size (by assumption)) | exact ldvN tb rfl ext2_0 rfl | exact ldvN tb rfl ext2_2 rfl))) | (refine' s_val rfl rfl rfl (r_ldo rfl rfl ?qw (by simp) ?qv) ?_; (case qw => assumption); (case qv => (first | exact ldvL tb rfl rfl | exact ldv1 tb rfl (by assumption) | exact ldvW tb rfl rfl | exact ldvW tb rfl (by assumption) | exact ldvW tb rfl (Pv.size (by assumption)) | exact ldvN tb rfl ext2_0 rfl | exact ldvN tb rfl ext2_2 rfl))))
      | (refine s_k 1 rfl ?_; refine s_val rfl rfl rfl (r_assign rfl rfl) ?_)
      | (refine s_k 13 rfl ?_; first | refine s_val rfl rfl rfl (r_sub rfl rfl rfl hwr2) ?_ | refine s_val rfl rfl rfl (r_add rfl rfl rfl hwr3) ?_ | refine s_val rfl rfl rfl (r_lss rfl rfl rfl) ?_ | refine s_val rfl rfl rfl (r_neq rfl rfl rfl) ?_ | refine s_val rfl rfl rfl (r_add rfl rfl rfl (wrap_in (by simp only [lo, hi]; omega))) ?_ | refine s_val rfl rfl rfl (r_sub rfl rfl rfl (wrap_in (by simp only [lo, hi]; omega))) ?_)
      | (refine s_k 14 rfl ?_; refine s_val rfl rfl rfl (r_not rfl rfl) ?_)
      | (refine s_k 2 rfl ?_; first | refine s_val rfl rfl rfl (r_pick1 rfl rfl zTr rfl) ?_ | refine s_val rfl rfl rfl (r_pick0 rfl rfl zTr rfl) ?_)
      | (refine s_k 25 rfl ?_; first | refine s_val rfl rfl rfl (r_ixS (i := i) tb rfl hSu rfl rfl rfl (by simp) hka) ?_ | refine s_val rfl rfl rfl (r_ixS (i := i + 1) tb rfl hSu rfl rfl rfl (by simp) hkb) ?_ | refine s_val rfl rfl rfl (r_ixN tb rfl rfl rfl rfl (by omega)) ?_ | refine s_val rfl rfl rfl (r_ixA tb rfl rfl rfl rfl (by omega) (by omega)) ?_ | refine s_val rfl rfl rfl (r_ixO tb rfl rfl rfl rfl (by omega)) ?_)
      | (refine s_k 4 rfl ?_; first | refine s_boxA rfl rfl rfl rfl rfl fun blk => ?_ | refine s_box1 rfl rfl rfl rfl rfl rfl fun blk => ?_)
      | (refine s_k 9 rfl ?_; (first | refine s_st1 tb rfl rfl rfl rfl rfl rfl rfl rfl ?_ | refine s_stA tb rfl rfl rfl rfl (by first | rfl | assumption | (apply Pv.size; assumption)) rfl rfl ?_); (first | refine' st0 ?qs ?_ | refine' st1 ?qs ?_ | refine' st2 ?qs ?_ | refine' st3 ?qs ?_ | refine' st4 ?qs ?_ | refine' st5 ?qs ?_ | refine' st6 ?qs ?_ | refine' st7 ?qs ?_ | refine' st8 ?qs ?_ | refine' st9 ?qs ?_ | refine' st10 ?qs ?_ | refine' st11 ?qs ?_); (case qs => (first | exact setP hc' rfl | exact zSet)))
      | (refine s_k 36 rfl ?_; refine s_val rfl rfl rfl (r_len tb rfl rfl rfl) ?_)
      | (refine s_k 22 rfl ?_; refine s_val rfl rfl rfl (r_slTwo (i := i) tb rfl rfl rfl rfl rfl (by omega) (by omega)) ?_)
      | refine s_nil ?_)
                | (refine c_g ?_; first | refine c_seq ?_ | refine c_region ?_ | (refine c_gc ?_; first | refine c_cond1 rfl zTr ?_ | refine c_cond0 rfl zTr ?_ | refine z_condd1 rfl ?_ | refine z_condd0 rfl ?_ | refine z_conddn1 rfl ?_ | refine z_conddn0 rfl ?_ | refine c_condd rfl (fun hc => ?_) (fun hc => ?_) | refine c_conddn rfl (fun hc => ?_) (fun hc => ?_) | refine c_condn rfl (fun hc => ?_) (fun hc => ?_) | refine c_cond rfl (fun hc => ?_) (fun hc => ?_)) | refine c_block ?_ | refine c_skip ?_ | refine c_exit ?_ | refine c_ret ?_)
                | (refine e_g ?_; first | refine e_then ?_ | refine e_blkn ?_ | refine e_thenx ?_ | refine e_thenr ?_ | refine e_blkr ?_ | refine e_blkx ?_ | refine e_blky rfl ?_)
                | (refine y_g ?_; first
      | (refine y_gd rfl ?_; first | refine y_gd1 rfl rfl zTr ?_ | (refine y_gd0 rfl rfl rfl zTr ?hp ?_; (case hp => exact rfl)))
      | (refine y_k 8 rfl ?_; first | (refine y_val rfl rfl rfl (r_ldS (i := i) tb rfl hSu rfl hxa' rfl) ?hp ?_; (case hp => exact rfl)) | (refine y_val rfl rfl rfl (r_ldS (i := i + 1) tb rfl hSu rfl hxb' rfl) ?hp ?_; (case hp => exact rfl)) | (refine' y_val rfl rfl rfl (r_ldv rfl rfl ?qm ?qv) ?hp ?_; (case qm => (exact zMm)); (case qv => (first | exact ldvL tb rfl rfl | exact ldv1 tb rfl (by assumption) | exact ldvW tb rfl rfl | exact ldvW tb rfl (by assumption) | exact ldvW tb rfl (Pv.size (by assumption)) | exact ldvN tb rfl ext2_0 rfl | exact ldvN tb rfl ext2_2 rfl)); (case hp => exact rfl)) | (refine' y_val rfl rfl rfl (r_ldo rfl rfl ?qw (by simp) ?qv) ?hp ?_; (case qw => assumption); (case qv => (first | exact ldvL tb rfl rfl | exact ldv1 tb rfl (by assumption) | exact ldvW tb rfl rfl | exact ldvW tb rfl (by assumption) | exact ldvW tb rfl (Pv.size (by assumption)) | exact ldvN tb rfl ext2_0 rfl | exact ldvN tb rfl ext2_2 rfl)); (case hp => exact rfl)))
      | (refine y_k 13 rfl ?_; first | (refine y_val rfl rfl rfl (r_sub rfl rfl rfl hwr2) ?hp ?_; (case hp => exact rfl)) | (refine y_val rfl rfl rfl (r_add rfl rfl rfl hwr3) ?hp ?_; (case hp => exact rfl)) | (refine y_val rfl rfl rfl (r_lss rfl rfl rfl) ?hp ?_; (case hp => exact rfl)) | (refine y_val rfl rfl rfl (r_neq rfl rfl rfl) ?hp ?_; (case hp => exact rfl)) | (refine y_val rfl rfl rfl (r_add rfl rfl rfl (wrap_in (by simp only [lo, hi]; omega))) ?hp ?_; (case hp => exact rfl)) | (refine y_val rfl rfl rfl (r_sub rfl rfl rfl (wrap_in (by simp only [lo, hi]; omega))) ?hp ?_; (case hp => exact rfl)))
      | (refine y_k 35 rfl ?_; first | (refine' y_callN Try.func53 (by kernel_rfl) rfl rfl rfl rfl rfl rfl (fun w hL => beside_any q2 c2 a'.x a'.y w hp2 ⟨hra'.1, hra'.2.1⟩ hra'.2.2) (flS_len _) (besL_max _ _ _) ?hp (fun g m cap cur hA => ?_); (case hp => exact rfl); have hm := hA.len; rw [flS_len] at hm; obtain rfl : m = (besL q2 a'.x a'.y 4).length := by omega) | (refine' y_rd Try.func52 (by kernel_rfl) rfl rfl rfl rfl rfl rfl List.mem_cons_self List.mem_cons_self rfl (fun w hL => hco ▸ hasSpot_any (besL q2 a'.x a'.y 4) b'.x b'.y _ _ w (hA.sl (hL.at_ m0)).2 (besL_max _ _ _)) ?hp ?_; (case hp => exact rfl)) | (refine' y_callN Try.func55 (by kernel_rfl) rfl rfl rfl rfl rfl rfl (fun w hL => hsd w (hS2.at_ hL)) (m := 1) rfl (by unfold maxLen; omega) ?hp (fun g m cap cur hAh => ?_); (case hp => exact rfl); have hm := hAh.len; obtain rfl : m = 1 := by simp [flH, Hd.cells] at hm; omega) | (refine' y_rd Try.func54 (by kernel_rfl) rfl rfl rfl rfl rfl rfl List.mem_cons_self (List.mem_cons_of_mem _ List.mem_cons_self) rfl (fun w hL => with_any q2 c2 c' [btw a' b'] true _ _ w hp2 (hAh.slA (xs := [btw a' b'].map Hd.cells) (by simp [Hd.cells]) (hL.at_ m0)) (by unfold maxLen; simp) hInP hc') ?hp ?_; (case hp => exact rfl)))
      | (refine y_k 14 rfl ?_; (refine y_val rfl rfl rfl (r_not rfl rfl) ?hp ?_; (case hp => exact rfl)))
      | (refine y_k 2 rfl ?_; first | (refine y_val rfl rfl rfl (r_pick1 rfl rfl zTr rfl) ?hp ?_; (case hp => exact rfl)) | (refine y_val rfl rfl rfl (r_pick0 rfl rfl zTr rfl) ?hp ?_; (case hp => exact rfl)))
      | (refine y_k 25 rfl ?_; first | (refine y_val rfl rfl rfl (r_ixS (i := i) tb rfl hSu rfl rfl rfl (by simp) hka) ?hp ?_; (case hp => exact rfl)) | (refine y_val rfl rfl rfl (r_ixS (i := i + 1) tb rfl hSu rfl rfl rfl (by simp) hkb) ?hp ?_; (case hp => exact rfl)) | (refine y_val rfl rfl rfl (r_ixN tb rfl rfl rfl rfl (by omega)) ?hp ?_; (case hp => exact rfl)) | (refine y_val rfl rfl rfl (r_ixA tb rfl rfl rfl rfl (by omega) (by omega)) ?hp ?_; (case hp => exact rfl)) | (refine y_val rfl rfl rfl (r_ixO tb rfl rfl rfl rfl (by omega)) ?hp ?_; (case hp => exact rfl)))
      | (refine y_k 36 rfl ?_; (refine y_val rfl rfl rfl (r_len tb rfl rfl rfl) ?hp ?_; (case hp => exact rfl)))
      | (refine y_k 22 rfl ?_; (refine y_val rfl rfl rfl (r_slTwo (i := i) tb rfl rfl rfl rfl rfl (by omega) (by omega)) ?hp ?_; (case hp => exact rfl)))
      | refine y_nil0 ?_
      | refine y_nil ?_
      | (refine' y_k 0 rfl ?_; (refine' y_move rfl rfl rfl rfl rfl ?hp ?_; (case hp => exact rfl)))
      | (refine' y_k 1 rfl ?_; (refine' y_assign rfl rfl rfl rfl rfl ?hp ?_; (case hp => exact rfl))))
                | (refine' c_drawY (id := 13) [(Sum.inl _ : CalmB.Plan), (Sum.inl _ : CalmB.Plan), (Sum.inl _ : CalmB.Plan), (Sum.inl _ : CalmB.Plan), (Sum.inl _ : CalmB.Plan), (Sum.inl _ : CalmB.Plan), (Sum.inr _ : CalmB.Plan), (Sum.inl _ : CalmB.Plan), (Sum.inl _ : CalmB.Plan), (Sum.inl _ : CalmB.Plan), (Sum.inl _ : CalmB.Plan), (Sum.inl _ : CalmB.Plan), (Sum.inl _ : CalmB.Plan)] (by kernel_rfl) (by kernel_rfl) ?_)
                | (refine' c_drawYT (id := 15) 9 [(Sum.inl _ : CalmB.Plan), (Sum.inl _ : CalmB.Plan), (Sum.inl _ : CalmB.Plan), (Sum.inl _ : CalmB.Plan), (Sum.inl _ : CalmB.Plan), (Sum.inl _ : CalmB.Plan), (Sum.inl _ : CalmB.Plan), (Sum.inr _ : CalmB.Plan), (Sum.inl _ : CalmB.Plan)] (by kernel_rfl) (by kernel_rfl) ?_)
                | refine e_tail ?_
                | (refine e_drop0 (e_drop0 (e_round (i + 1, c') (by simp only; omega) ⟨by simp only; omega, by simp only; exact hPe ▸ hc', ?_⟩ ?_ rfl))))
              · intro j hj
                rcases Nat.lt_succ_iff_lt_or_eq.1 hj with hj | rfl
                · exact hbe2 j hj
                · exact hKe.trans hok
              · (repeat' (first | exact sub_nil | refine sub_cons rfl ?_))
          · have hwb : wayB q s = true := wayB_yes fun j hj => hbe2 j (by omega)
            have hii : i = s.length - 1 := by omega
            rw [hwb] at hwgd
            repeat' (first
              | (refine s_g ?_; first
      | (refine s_gd rfl ?_; first | refine s_gd1 rfl rfl zTr ?_ | refine s_gd0 rfl rfl rfl zTr ?_ | refine s_gd00 rfl rfl zTr ?_ | refine s_gp1 rfl rfl rfl (fun hc => ?_) (fun hc => ?_) | refine s_gp0 rfl rfl rfl (fun hc => ?_) (fun hc => ?_) | refine s_gnp1 rfl rfl rfl (fun hc => ?_) (fun hc => ?_) | refine s_gnp0 rfl rfl rfl (fun hc => ?_) (fun hc => ?_) | refine s_gb1 rfl rfl rfl (fun hc => ?_) (fun hc => ?_) | refine s_gb0 rfl rfl rfl (fun hc => ?_) (fun hc => ?_) | refine s_gnb1 rfl rfl rfl (fun hc => ?_) (fun hc => ?_) | refine s_gnb0 rfl rfl rfl (fun hc => ?_) (fun hc => ?_))
      | (refine s_k 0 rfl ?_; refine s_val rfl rfl rfl (r_move rfl rfl) ?_)
      | (refine s_k 8 rfl ?_; first | (refine' s_val rfl rfl rfl (r_ldv rfl rfl ?qm ?qv) ?_; (case qm => (exact zMm)); (case qv => (first | exact ldvL tb rfl rfl | exact ldv1 tb rfl (by assumption) | exact ldvW tb rfl rfl | exact ldvW tb rfl (by assumption) | exact ldvW tb rfl (Pv.size (by assumption)) | exact ldvN tb rfl ext2_0 rfl | exact ldvN tb rfl ext2_2 rfl))) | (refine' s_val rfl rfl rfl (r_ldo rfl rfl ?qw (by simp) ?qv) ?_; (case qw => assumption); (case qv => (first | exact ldvL tb rfl rfl | exact ldv1 tb rfl (by assumption) | exact ldvW tb rfl rfl | exact ldvW tb rfl (by assumption) | exact ldvW tb rfl (Pv.size (by assumption)) | exact ldvN tb rfl ext2_0 rfl | exact ldvN tb rfl ext2_2 rfl))))
      | (refine s_k 1 rfl ?_; refine s_val rfl rfl rfl (r_assign rfl rfl) ?_)
      | (refine s_k 13 rfl ?_; first | refine s_val rfl rfl rfl (r_lss rfl rfl rfl) ?_ | refine s_val rfl rfl rfl (r_neq rfl rfl rfl) ?_ | refine s_val rfl rfl rfl (r_add rfl rfl rfl (wrap_in (by simp only [lo, hi]; omega))) ?_ | refine s_val rfl rfl rfl (r_sub rfl rfl rfl (wrap_in (by simp only [lo, hi]; omega))) ?_)
      | (refine s_k 14 rfl ?_; refine s_val rfl rfl rfl (r_not rfl rfl) ?_)
      | (refine s_k 2 rfl ?_; first | refine s_val rfl rfl rfl (r_pick1 rfl rfl zTr rfl) ?_ | refine s_val rfl rfl rfl (r_pick0 rfl rfl zTr rfl) ?_)
      | (refine s_k 25 rfl ?_; first | refine s_val rfl rfl rfl (r_ixN tb rfl rfl rfl rfl (by omega)) ?_ | refine s_val rfl rfl rfl (r_ixA tb rfl rfl rfl rfl (by omega) (by omega)) ?_ | refine s_val rfl rfl rfl (r_ixO tb rfl rfl rfl rfl (by omega)) ?_)
      | (refine s_k 4 rfl ?_; first | refine s_boxA rfl rfl rfl rfl rfl fun blk => ?_ | refine s_box1 rfl rfl rfl rfl rfl rfl fun blk => ?_)
      | (refine s_k 9 rfl ?_; (first | refine s_st1 tb rfl rfl rfl rfl rfl rfl rfl rfl ?_ | refine s_stA tb rfl rfl rfl rfl (by first | rfl | assumption | (apply Pv.size; assumption)) rfl rfl ?_); (first | refine' st0 ?qs ?_ | refine' st1 ?qs ?_ | refine' st2 ?qs ?_ | refine' st3 ?qs ?_ | refine' st4 ?qs ?_ | refine' st5 ?qs ?_ | refine' st6 ?qs ?_ | refine' st7 ?qs ?_ | refine' st8 ?qs ?_ | refine' st9 ?qs ?_ | refine' st10 ?qs ?_ | refine' st11 ?qs ?_); (case qs => (first | exact zSet)))
      | (refine s_k 36 rfl ?_; refine s_val rfl rfl rfl (r_len tb rfl rfl rfl) ?_)
      | refine s_nil ?_)
              | (refine c_g ?_; first | refine c_seq ?_ | refine c_region ?_ | (refine c_gc ?_; first | refine c_cond1 rfl zTr ?_ | refine c_cond0 rfl zTr ?_ | refine z_condd1 rfl ?_ | refine z_condd0 rfl ?_ | refine z_conddn1 rfl ?_ | refine z_conddn0 rfl ?_ | refine c_condd rfl (fun hc => ?_) (fun hc => ?_) | refine c_conddn rfl (fun hc => ?_) (fun hc => ?_) | refine c_condn rfl (fun hc => ?_) (fun hc => ?_) | refine c_cond rfl (fun hc => ?_) (fun hc => ?_)) | refine c_block ?_ | refine c_skip ?_ | refine c_exit ?_ | refine c_ret ?_)
              | (refine e_g ?_; first | refine e_then ?_ | refine e_blkn ?_ | refine e_thenx ?_ | refine e_thenr ?_ | refine e_blkr ?_ | refine e_blkx ?_ | refine e_blky rfl ?_)
              | (refine e_round (k + 1, c2) (by simp only; omega) ⟨by simp only; omega, by simp only; rw [hgs, ← hii]; exact hp2, ?_⟩ ?_ rfl))
            · intro j hj
              rcases Nat.lt_succ_iff_lt_or_eq.1 hj with hj | rfl
              · exact hbe j hj
              · rw [hwg, hwgd]
            · (repeat' (first | exact sub_nil | refine sub_cons rfl ?_))
        · have hkn : k = S.length := by omega
          subst hkn
          have hB : wsB p a b S = true := List.all_eq_true.2 fun j hj => hbe j (List.mem_range.1 hj)
          rw [hB]
          repeat' (first
            | (refine s_g ?_; first
      | (refine s_gd rfl ?_; first | refine s_gd1 rfl rfl zTr ?_ | refine s_gd0 rfl rfl rfl zTr ?_ | refine s_gd00 rfl rfl zTr ?_ | refine s_gp1 rfl rfl rfl (fun hc => ?_) (fun hc => ?_) | refine s_gp0 rfl rfl rfl (fun hc => ?_) (fun hc => ?_) | refine s_gnp1 rfl rfl rfl (fun hc => ?_) (fun hc => ?_) | refine s_gnp0 rfl rfl rfl (fun hc => ?_) (fun hc => ?_) | refine s_gb1 rfl rfl rfl (fun hc => ?_) (fun hc => ?_) | refine s_gb0 rfl rfl rfl (fun hc => ?_) (fun hc => ?_) | refine s_gnb1 rfl rfl rfl (fun hc => ?_) (fun hc => ?_) | refine s_gnb0 rfl rfl rfl (fun hc => ?_) (fun hc => ?_))
      | (refine s_k 0 rfl ?_; refine s_val rfl rfl rfl (r_move rfl rfl) ?_)
      | (refine s_k 8 rfl ?_; first | (refine' s_val rfl rfl rfl (r_ldv rfl rfl ?qm ?qv) ?_; (case qm => (exact zMm)); (case qv => (first | exact ldvL tb rfl rfl | exact ldv1 tb rfl (by assumption) | exact ldvW tb rfl rfl | exact ldvW tb rfl (by assumption) | exact ldvW tb rfl (Pv.size (by assumption)) | exact ldvN tb rfl ext2_0 rfl | exact ldvN tb rfl ext2_2 rfl))) | (refine' s_val rfl rfl rfl (r_ldo rfl rfl ?qw (by simp) ?qv) ?_; (case qw => assumption); (case qv => (first | exact ldvL tb rfl rfl | exact ldv1 tb rfl (by assumption) | exact ldvW tb rfl rfl | exact ldvW tb rfl (by assumption) | exact ldvW tb rfl (Pv.size (by assumption)) | exact ldvN tb rfl ext2_0 rfl | exact ldvN tb rfl ext2_2 rfl))))
      | (refine s_k 1 rfl ?_; refine s_val rfl rfl rfl (r_assign rfl rfl) ?_)
      | (refine s_k 13 rfl ?_; first | refine s_val rfl rfl rfl (r_lss rfl rfl rfl) ?_ | refine s_val rfl rfl rfl (r_neq rfl rfl rfl) ?_ | refine s_val rfl rfl rfl (r_add rfl rfl rfl (wrap_in (by simp only [lo, hi]; omega))) ?_ | refine s_val rfl rfl rfl (r_sub rfl rfl rfl (wrap_in (by simp only [lo, hi]; omega))) ?_)
      | (refine s_k 14 rfl ?_; refine s_val rfl rfl rfl (r_not rfl rfl) ?_)
      | (refine s_k 2 rfl ?_; first | refine s_val rfl rfl rfl (r_pick1 rfl rfl zTr rfl) ?_ | refine s_val rfl rfl rfl (r_pick0 rfl rfl zTr rfl) ?_)
      | (refine s_k 25 rfl ?_; first | refine s_val rfl rfl rfl (r_ixN tb rfl rfl rfl rfl (by omega)) ?_ | refine s_val rfl rfl rfl (r_ixA tb rfl rfl rfl rfl (by omega) (by omega)) ?_ | refine s_val rfl rfl rfl (r_ixO tb rfl rfl rfl rfl (by omega)) ?_)
      | (refine s_k 4 rfl ?_; first | refine s_boxA rfl rfl rfl rfl rfl fun blk => ?_ | refine s_box1 rfl rfl rfl rfl rfl rfl fun blk => ?_)
      | (refine s_k 9 rfl ?_; (first | refine s_st1 tb rfl rfl rfl rfl rfl rfl rfl rfl ?_ | refine s_stA tb rfl rfl rfl rfl (by first | rfl | assumption | (apply Pv.size; assumption)) rfl rfl ?_); (first | refine' st0 ?qs ?_ | refine' st1 ?qs ?_ | refine' st2 ?qs ?_ | refine' st3 ?qs ?_ | refine' st4 ?qs ?_ | refine' st5 ?qs ?_ | refine' st6 ?qs ?_ | refine' st7 ?qs ?_ | refine' st8 ?qs ?_ | refine' st9 ?qs ?_ | refine' st10 ?qs ?_ | refine' st11 ?qs ?_); (case qs => (first | exact zSet)))
      | (refine s_k 36 rfl ?_; refine s_val rfl rfl rfl (r_len tb rfl rfl rfl) ?_)
      | refine s_nil ?_)
            | (refine c_g ?_; first | refine c_seq ?_ | refine c_region ?_ | (refine c_gc ?_; first | refine c_cond1 rfl zTr ?_ | refine c_cond0 rfl zTr ?_ | refine z_condd1 rfl ?_ | refine z_condd0 rfl ?_ | refine z_conddn1 rfl ?_ | refine z_conddn0 rfl ?_ | refine c_condd rfl (fun hc => ?_) (fun hc => ?_) | refine c_conddn rfl (fun hc => ?_) (fun hc => ?_) | refine c_condn rfl (fun hc => ?_) (fun hc => ?_) | refine c_cond rfl (fun hc => ?_) (fun hc => ?_)) | refine c_block ?_ | refine c_skip ?_ | refine c_exit ?_ | refine c_ret ?_)
            | (refine e_g ?_; first | refine e_then ?_ | refine e_blkn ?_ | refine e_thenx ?_ | refine e_thenr ?_ | refine e_blkr ?_ | refine e_blkx ?_ | refine e_blky rfl ?_)
            | (refine e_ret2 (by simp) rfl (re_tmp rfl) (re_tmp rfl) fun w hL => ⟨rfl, hL.toBelow⟩))
end Go.Proofs.Ytnfdefeafhepkaa
