import Derived.Test.YtnafnhpajkhgkaaQW13
import Derived.Test.YtnafnhpajkhgkaaQW14
import Derived.Test.YtnafnhpajkhgkaaQW16
import Derived.Test.YtnafnhpajkhgkaaQW18
import Derived.Test.YtnafnhpajkhgkaaQW19
import Derived.Test.YtnafnhpajkhgkaaQW22
import Derived.Test.YtnafnhpajkhgkaaQW23
import Derived.Test.YtnafnhpajkhgkaaQW35
import Derived.Test.YtnafnhpajkhgkaaQW37
/- The cells that two lists have in common: the program's. No condition. -/
namespace Go.Proofs.Ytnafnhpajkhgkaa
set_option linter.unusedVariables false
set_option linter.unusedSimpArgs false
open Go.RowKit Mem Wk
attribute [local irreducible] Calls Wk.S Wk.C Wk.E Wk.X Wk.T Wk.anV Wk.orV Wk.andV Wk.shlV Wk.shrV Calm.wpLex bfsN
def notIn (l : List Sp) (c : Sp) : Bool := !(l.any fun s => eqSp c s)
set_option maxRecDepth 100000 in
theorem commonClo_any (lb : List Sp) (b gb n cap : Nat) (T T' : TypeId) (curb : Array Value) (c : Sp) (w : World) (hbx : w.heap[b]? = some (.cells #[.slice (some ⟨gb, 0, none⟩) lb.length cap] T (0, 0))) (hB : Ap 2 n cap curb (flS lb)) (hgb : w.heap[gb]? = some (.cells curb T' (0, 0))) (hlb : lb.length ≤ 1048576) :
    Calls Try.prog 103 #[.agg #[.int .i8 c.x, .int .i8 c.y], .pointer (some ⟨b, 0, none⟩)] w fun e w' => e = .returned (.bool (notIn lb c)) ∧ Below w.heap.size w w' := by
  have hmx : lb.length ≤ maxLen := by unfold maxLen; omega
  refine enter2 Try.func103 rfl rfl rfl (Own.start w) ?_
  repeat' (first
    | (refine s_g ?_; first
      | (refine s_k 8 rfl ?_; first | refine s_val rfl rfl rfl (r_ldo rfl rfl hbx (by simp) (ldv1 tb rfl rfl)) ?_ | (refine' s_val rfl rfl rfl (r_ldv rfl rfl ?qm ?qv) ?_; (case qm => (exact zMm)); (case qv => (exact zLe))) | (refine' s_val rfl rfl rfl (r_ldo rfl rfl ?qw (by simp) ?qv) ?_; (case qw => assumption); (case qv => (exact zLe))))
      | (refine s_k 1 rfl ?_; refine s_val rfl rfl rfl (r_assign rfl rfl) ?_)
      | (refine s_k 35 rfl ?_; (refine s_call Try.func97 (by kernel_rfl) rfl rfl rfl rfl rfl rfl (fun w hL => hasSpot_any lb c.x c.y _ _ _ (hB.slA (lenSp lb) (Kn.old hL hgb (by simp))) hmx) ?_))
      | (refine s_k 14 rfl ?_; refine s_val rfl rfl rfl (r_not rfl rfl) ?_)
      | (refine s_k 4 rfl ?_; first | refine s_boxA rfl rfl rfl rfl rfl fun blk => ?_ | refine s_box1 rfl rfl rfl rfl rfl rfl fun blk => ?_)
      | refine s_nil ?_)
    | (refine c_g ?_; first | refine c_seq ?_ | refine c_region ?_ | (refine c_gc ?_; first | refine c_cond1 rfl zTr ?_ | refine c_cond0 rfl zTr ?_ | refine z_condd1 rfl ?_ | refine z_condd0 rfl ?_ | refine z_conddn1 rfl ?_ | refine z_conddn0 rfl ?_ | refine c_condd rfl (fun hc => ?_) (fun hc => ?_) | refine c_conddn rfl (fun hc => ?_) (fun hc => ?_) | refine c_condn rfl (fun hc => ?_) (fun hc => ?_) | refine c_cond rfl (fun hc => ?_) (fun hc => ?_)) | refine c_block ?_ | refine c_skip ?_ | refine c_exit ?_ | refine c_ret ?_)
    | (refine e_g ?_; first | refine e_then ?_ | refine e_blkn ?_ | refine e_thenx ?_ | refine e_thenr ?_ | refine e_blkr ?_ | refine e_blkx ?_ | refine e_blky rfl ?_)
    | (refine e_ret1 (by simp) rfl (re_tmp rfl) fun w hL => ⟨rfl, hL.toBelow⟩))
def cmnL (la lb : List Sp) : List Sp := la.filter fun c => !notIn lb c
set_option maxRecDepth 100000 in
set_option maxHeartbeats 800000 in
theorem common_any (la lb : List Sp) (ga gb na nb capa capb : Nat) (cura curb : Array Value) (Ta Tb : TypeId) (w : World) (hA : Ap 2 na capa cura (flS la)) (hga : w.heap[ga]? = some (.cells cura Ta (0, 0))) (hB : Ap 2 nb capb curb (flS lb)) (hgb : w.heap[gb]? = some (.cells curb Tb (0, 0))) (hla : la.length ≤ 1048576) (hlb : lb.length ≤ 1048576) :
    Calls Try.prog 78 #[.slice (some ⟨ga, 0, none⟩) la.length capa, .slice (some ⟨gb, 0, none⟩) lb.length capb] w (NewS 52 2 (flS (cmnL la lb)) w) := by
  have hlt := (Array.getElem?_eq_some_iff.1 hgb).1
  refine enter2 Try.func78 rfl rfl rfl (Own.start w) ?_
  repeat' (first
    | (refine s_g ?_; first
      | (refine s_k 0 rfl ?_; refine s_val rfl rfl rfl (r_move rfl rfl) ?_)
      | (refine s_k 1 rfl ?_; refine s_val rfl rfl rfl (r_assign rfl rfl) ?_)
      | (refine s_k 35 rfl ?_; first | (refine s_callN Try.func51 (by kernel_rfl) rfl rfl rfl rfl rfl rfl (fun w hL => clone_any la ga 0 capa w (hA.slA (lenSp la) (Kn.old hL hga (by simp))) hla) fun g k cap cur hC => ?_) | (refine s_callM0 Try.func84 (by kernel_rfl) rfl rfl rfl rfl rfl rfl (fun w hL hg => delS_any la 103 _ [_] (notIn lb) _ _ _ _ w hC hg hla Try.func103 (by kernel_rfl) rfl (fun c hcm w' hb' => commonClo_any lb _ gb nb capb _ _ curb c w' (hb'.blk (hL.at_ m1) (Kn.ne0 hL m0)) hB (hb'.blk (Kn.old hL hgb (by simp)) (by have := hL.low _ List.mem_cons_self; simp at this; omega)) hlb)) fun cs hp => ?_))
      | (refine s_k 4 rfl ?_; first | refine s_boxA rfl rfl rfl rfl rfl fun blk => ?_ | refine s_box1 rfl rfl rfl rfl rfl rfl fun blk => ?_)
      | (refine s_k 18 rfl ?_; refine s_val rfl rfl rfl (r_func rfl rfl rfl) ?_)
      | refine s_nil ?_)
    | (refine c_g ?_; first | refine c_seq ?_ | refine c_region ?_ | (refine c_gc ?_; first | refine c_cond1 rfl zTr ?_ | refine c_cond0 rfl zTr ?_ | refine z_condd1 rfl ?_ | refine z_condd0 rfl ?_ | refine z_conddn1 rfl ?_ | refine z_conddn0 rfl ?_ | refine c_condd rfl (fun hc => ?_) (fun hc => ?_) | refine c_conddn rfl (fun hc => ?_) (fun hc => ?_) | refine c_condn rfl (fun hc => ?_) (fun hc => ?_) | refine c_cond rfl (fun hc => ?_) (fun hc => ?_)) | refine c_block ?_ | refine c_skip ?_ | refine c_exit ?_ | refine c_ret ?_)
    | (refine e_g ?_; first | refine e_then ?_ | refine e_blkn ?_ | refine e_thenx ?_ | refine e_thenr ?_ | refine e_blkr ?_ | refine e_blkx ?_ | refine e_blky rfl ?_)
    | (refine e_ret1 (by simp) rfl (re_tmp rfl) fun w hL => NewS.of hp hL m0))
end Go.Proofs.Ytnafnhpajkhgkaa
/- Ways that are parted, one after the other: how it goes on, that it ends. Plain, no condition. -/
namespace Go.Proofs.Ytnafnhpajkhgkaa
set_option linter.unusedVariables false
set_option linter.unusedSimpArgs false
open Go Go.RowKit Mem Wk
theorem isW_cel {q : Nat → Int} : ∀ {l : List Sp} {s : Sp} {t : List Sp}, l = s :: t → isW q l → cel q s → ∀ c ∈ l, cel q c
  | [], s, t, e, _, _ => by cases e
  | [a], s, t, e, _, hs => fun c hc => by injection e with e1 e2; subst e1; rw [List.mem_singleton.1 hc]; exact hs
  | a :: b :: l, s, t, e, h, hs => fun c hc => by
    injection e with e1 e2; subst e1
    unfold isW at h
    rcases List.mem_cons.1 hc with e | hc
    · rw [e]; exact hs
    · exact isW_cel (l := b :: l) rfl h.2 (nbP_cel h.1) c hc
theorem isH_btw {q : Nat → Int} {a b : Sp} (hca : cel q a) (hcb : cel q b) (hn : b ∈ nbP q a) : isH q (btw a b) = true := by
  obtain ⟨s, hs, hc, e⟩ := nb_nxt hn
  have hbt : btw a b = hdAt a s := by rw [e]; exact btw_nxt a (s : Int) ⟨by omega, by omega⟩
  have he := hdA_ends a s hs
  have hb' : b = nxA a s := e
  have hbt' : btw a b = hdA a s := hbt
  unfold isH
  show (isC (q 0) (q 1) (hAt (btw a b)).x (hAt (btw a b)).y && isC (q 0) (q 1) (hOth (btw a b)).x (hOth (btw a b)).y) = true
  rw [hbt']
  unfold cel at hca hcb
  rcases he with ⟨e1, e2⟩ | ⟨e1, e2⟩
  · rw [e1, e2, ← hb', hca, hcb]; rfl
  · rw [e1, e2, ← hb', hca, hcb]; rfl
theorem wayP_valid {q : Nat → Int} {l : List Sp} (hv : validP q = true) (h : isW q l) (hl : ∀ c ∈ l, cel q c) : ∀ k, validP (wayP q l k) = true
  | 0 => hv
  | k + 1 => by
    have ih := wayP_valid hv h hl k
    cases ha : l[k]? with
    | none => rw [wayP, ha]; exact ih
    | some a =>
      cases hb : l[k + 1]? with
      | none => rw [wayP, ha, hb]; exact ih
      | some b =>
        rw [wayP_succ ha hb]
        unfold stS
        have hh := isH_btw (hl a (List.mem_of_getElem? ha)) (hl b (List.mem_of_getElem? hb)) (isW_at h ha hb)
        have e : isH (wayP q l k) = isH q := by funext d; unfold isH; rw [wayP_0 q l k, wayP_1 q l k]
        exact valid_putT ih (by rw [e]; exact hh)
/-- the pasture and the ways, after n rounds -/
def wS (p : Nat → Int) (A B : List Sp) : Nat → (Nat → Int) × List (List Sp)
  | 0 => (p, [])
  | n + 1 => if specW (wS p A B n).1 A B = [] then wS p A B n else (wayP (wS p A B n).1 (specW (wS p A B n).1 A B) ((specW (wS p A B n).1 A B).length - 1), (wS p A B n).2 ++ [specW (wS p A B n).1 A B])
def waR (p : Nat → Int) (A B : List Sp) : List (List Sp) := (wS p A B (opnN p)).2
theorem wS_stay {p : Nat → Int} {A B : List Sp} {i : Nat} (h : specW (wS p A B i).1 A B = []) : ∀ k, wS p A B (i + k) = wS p A B i
  | 0 => rfl
  | k + 1 => by
    have ih := wS_stay h k
    show wS p A B ((i + k) + 1) = _
    rw [wS, ih, if_pos h]
theorem waR_end {p : Nat → Int} {A B : List Sp} {i : Nat} (h : specW (wS p A B i).1 A B = []) (hi : i ≤ opnN p) : waR p A B = (wS p A B i).2 := by
  unfold waR
  obtain ⟨k, hk⟩ : ∃ k, opnN p = i + k := ⟨opnN p - i, by omega⟩
  rw [hk, wS_stay h]
theorem wS_succ {p : Nat → Int} {A B : List Sp} {i : Nat} (h : specW (wS p A B i).1 A B ≠ []) : wS p A B (i + 1) = (wayP (wS p A B i).1 (specW (wS p A B i).1 A B) ((specW (wS p A B i).1 A B).length - 1), (wS p A B i).2 ++ [specW (wS p A B i).1 A B]) := by rw [wS, if_neg h]
/-- what holds after i rounds -/
structure WaI (p q : Nat → Int) (S : List (List Sp)) (i : Nat) : Prop where
  v : validP q = true
  r : rowsIn q
  d0 : q 0 = p 0
  d1 : q 1 = p 1
  n : i + opnN q ≤ opnN p
  w : ∀ V ∈ S, V.length ≤ 101 ∧ ∀ c ∈ V, inR c
  len : S.length = i
theorem opnN_le {p : Nat → Int} (hv : validP p = true) : opnN p ≤ 200 := Nat.le_trans (List.length_filter_le _ _) (allSd_len hv)
theorem valid_dims {q : Nat → Int} (hv : validP q = true) : (q 0).toNat ≤ 10 ∧ (q 1).toNat ≤ 10 ∧ q 0 = ((q 0).toNat : Int) ∧ q 1 = ((q 1).toNat : Int) := by
  have hs : (1 ≤ q 0 ∧ q 0 ≤ 10) ∧ 1 ≤ q 1 ∧ q 1 ≤ 10 := by unfold validP inB at hv; simp at hv; omega
  omega
section
variable {p q : Nat → Int} {A B : List Sp} {S : List (List Sp)} {i : Nat}
theorem WaI.cel (h : WaI p q S i) {c : Sp} (hc : Go.Proofs.Ytnafnhpajkhgkaa.cel p c) : Go.Proofs.Ytnafnhpajkhgkaa.cel q c := by unfold Go.Proofs.Ytnafnhpajkhgkaa.cel at hc ⊢; rw [h.d0, h.d1]; exact hc
theorem cmn_no (h : cmnL A B = []) {c : Sp} (ha : c ∈ A) (hb : c ∈ B) : False := by
  unfold cmnL notIn at h
  rw [List.filter_eq_nil_iff] at h
  exact h c ha (by simpa using ⟨c, hb, by simp [eqSp]⟩)
/-- what is known of a way that has been found -/
theorem specW_way (hA : ∀ c ∈ A, cel q c) (hB : ∀ c ∈ B, cel q c) (hno : cmnL A B = []) (hne : specW q A B ≠ []) : isW q (specW q A B) ∧ (∀ c ∈ specW q A B, cel q c) ∧ 2 ≤ (specW q A B).length ∧ (specW q A B).length ≤ 101 := by
  obtain ⟨hin, _⟩ := (betS_prop _ (allV q A B) rfl).resolve_left (fun e => hne e.1) |>.2
  have hin' : specW q A B ∈ allV q A B := hin
  have h1 := hin'
  unfold allV at h1
  obtain ⟨a, ha, hb⟩ := List.mem_flatMap.1 h1
  obtain ⟨b, hb, e⟩ := List.mem_map.1 hb
  have hab := (wayV_prop hA hB ha hb (by rw [e]; exact hne)).1
  have hl := wayV_len (p := q) (a := a) (isC_range (hB b hb))
  rw [e] at hab hl
  obtain ⟨c, t, e1, hc, hw, hlast⟩ := hab
  refine ⟨hw, isW_cel e1 hw (hA c hc), ?_, hl⟩
  rw [e1] at hlast ⊢
  cases t with
  | nil => exact (cmn_no hno hc (hlast c rfl)).elim
  | cons d t => simp
theorem WaI.step (h : WaI p q S i) (hA : ∀ c ∈ A, Go.Proofs.Ytnafnhpajkhgkaa.cel p c) (hB : ∀ c ∈ B, Go.Proofs.Ytnafnhpajkhgkaa.cel p c) (hno : cmnL A B = []) (hne : specW q A B ≠ []) : WaI p (wayP q (specW q A B) ((specW q A B).length - 1)) (S ++ [specW q A B]) (i + 1) ∧ opnN (wayP q (specW q A B) ((specW q A B).length - 1)) < opnN q := by
  obtain ⟨hw, hc, h2, hl⟩ := specW_way (q := q) (fun c hc => h.cel (hA c hc)) (fun c hc => h.cel (hB c hc)) hno hne
  generalize specW q A B = V at *
  have hR : ∀ c ∈ V, inR c := fun c h => isC_range (hc c h)
  have hlt := opn_less (valid_dims h.v) h.r hw hc h2
  refine ⟨⟨wayP_valid h.v hw hc _, (wayP_keep h.r hw hR _).1, by rw [wayP_0]; exact h.d0, by rw [wayP_1]; exact h.d1, by have := h.n; omega, fun U hU => ?_, by rw [List.length_append, h.len]; rfl⟩, hlt⟩
  rcases List.mem_append.1 hU with hU | hU
  · exact h.w U hU
  · rw [List.mem_singleton.1 hU]; exact ⟨hl, hR⟩
theorem WaI.zero (hv : validP p = true) (hr : rowsIn p) : WaI p p [] 0 := ⟨hv, hr, rfl, rfl, by omega, by simp, rfl⟩
end
end Go.Proofs.Ytnafnhpajkhgkaa
/- Lists of lists of cells: their blocks. No condition. -/
namespace Go.Proofs.Ytnafnhpajkhgkaa
set_option linter.unusedVariables false
set_option linter.unusedSimpArgs false
open Go.RowKit Mem Wk
theorem Wk.r_ldSb {P : Program} {n : Nat} {O : List Nat} {w0 : World} {l : List (Nat × Value)} {L : List (Nat × TypeId × Array Value)} {o : Oper} {x : Operand} (tb : Tb P) {ty i : Nat} {A : Option Addr} {xs : List (List Value)} {v : Value} (ho : o.op = .load ty x) (hS : SlA O w0 1 A xs) (hx : ev l x = some (.pointer (some (sadr A (i * 1))))) (hc : xs[i]? = some [v]) (ht : lkT tb.s ty = some (false, 1)) : Rn P n O w0 l L o v := fun a w hF hL => by
  obtain ⟨_, b, off, hA, hb, hcell⟩ := hS i _ hc
  subst hA
  have h0 := hcell 0 v rfl
  have h1 := Kn.oldc hL h0 hb
  exact run_load1 ho (tb.one ht).1 (hF.eval hx) (by simpa [sadr] using h1)
attribute [local irreducible] Calls Wk.S Wk.C Wk.E Wk.X Wk.T Wk.Y Wk.anV Wk.orV Wk.andV Wk.shlV Wk.shrV Calm.wpLex CalmB.wpLex bfsN
theorem Kn.app {O : List Nat} {w0 w w' : World} {L N : List (Nat × TypeId × Array Value)} (hL : Kn O w0 w L) (hN : Kn [] w w' N) : Kn O w0 w' (N ++ L) := by
  have hge : ∀ x ∈ N, w.heap.size ≤ x.1 := fun x hx => (hN.low x hx).resolve_right (by simp)
  have hlt : ∀ x ∈ L, x.1 < w.heap.size := fun x hx => (Array.getElem?_eq_some_iff.1 (hL.has x hx)).1
  refine ⟨hN.os.trans hL.os, hN.tape.trans hL.tape, hN.output.trans hL.output, Nat.le_trans hL.size hN.size, hL.base, fun k hk hx => ?_, fun x hx => ?_, fun x hx => ?_, ?_⟩
  · rw [hN.keep k (Nat.lt_of_lt_of_le hk hL.size) (fun x hxn => hx x (List.mem_append_left _ hxn))]
    exact hL.keep k hk fun x hxl => hx x (List.mem_append_right _ hxl)
  · rcases List.mem_append.1 hx with hx | hx
    · exact .inl (Nat.le_trans hL.size (hge x hx))
    · exact hL.low x hx
  · rcases List.mem_append.1 hx with hx | hx
    · exact hN.has x hx
    · rw [hN.keep x.1 (hlt x hx) (fun y hy => by have := hge y hy; have := hlt x hx; omega)]
      exact hL.has x hx
  · rw [List.map_append, List.nodup_append]
    refine ⟨hN.nodup, hL.nodup, fun a ha b hb e => ?_⟩
    obtain ⟨x, hx, rfl⟩ := List.mem_map.1 ha
    obtain ⟨y, hy, rfl⟩ := List.mem_map.1 hb
    have := hge x hx; have := hlt y hy; omega
/-- the lists' blocks, the newest first; the lists' values; what the blocks hold -/
def itR (items : List (Nat × Nat × Array Value)) : List (Nat × TypeId × Array Value) := items.reverse.map fun i => (i.1, 52, i.2.2)
def itV (S : List (List Sp)) (items : List (Nat × Nat × Array Value)) : List Value := List.zipWith (fun s i => Value.slice (some ⟨i.1, 0, none⟩) s.length i.2.1) S items
structure ItOk (S : List (List Sp)) (items : List (Nat × Nat × Array Value)) : Prop where
  len : items.length = S.length
  ap : ∀ (j : Nat) (s : List Sp) (i : Nat × Nat × Array Value), S[j]? = some s → items[j]? = some i → Ap 2 s.length i.2.1 i.2.2 (flS s)
theorem itR_snoc (items : List (Nat × Nat × Array Value)) (i : Nat × Nat × Array Value) : itR (items ++ [i]) = (i.1, 52, i.2.2) :: itR items := by simp [itR]
theorem itV_snoc {S : List (List Sp)} {items : List (Nat × Nat × Array Value)} (h : items.length = S.length) (s : List Sp) (i : Nat × Nat × Array Value) : itV (S ++ [s]) (items ++ [i]) = itV S items ++ [Value.slice (some ⟨i.1, 0, none⟩) s.length i.2.1] := by
  unfold itV; rw [List.zipWith_append h.symm]; rfl
theorem itV_len {S : List (List Sp)} {items : List (Nat × Nat × Array Value)} (h : items.length = S.length) : (itV S items).length = S.length := by simp [itV, h]
theorem ItOk.snoc {S : List (List Sp)} {items : List (Nat × Nat × Array Value)} (h : ItOk S items) {s : List Sp} {i : Nat × Nat × Array Value} (hA : Ap 2 s.length i.2.1 i.2.2 (flS s)) : ItOk (S ++ [s]) (items ++ [i]) := by
  refine ⟨by simp [h.len], fun j t it hs hi => ?_⟩
  by_cases hj : j < S.length
  · rw [List.getElem?_append_left hj] at hs
    rw [List.getElem?_append_left (by rw [h.len]; exact hj)] at hi
    exact h.ap j t it hs hi
  · rw [List.getElem?_append_right (by omega)] at hs
    rw [List.getElem?_append_right (by have := h.len; omega), h.len] at hi
    rcases Nat.eq_zero_or_pos (j - S.length) with e | e
    · rw [e] at hs hi
      simp at hs hi
      subst hs; subst hi; exact hA
    · rw [List.getElem?_eq_none (by simp; omega)] at hs; cases hs
theorem uSS : Try.prog.underlying 41 = some (.slice 36) := by kernel_rfl
theorem iSS : (Try.prog.info? 36).map (fun i => (i.zero, i.size, i.bytes)) = some (some (.slice none 0 0), 1, 24) := by kernel_rfl
theorem slSS0 (w : World) : (Instr.buildSlice 41 0 #[]).run Try.prog w = .ok (.slice (some ⟨w.heap.size, 0, none⟩) 0 0) (w.alloc (.cells #[] 36 (0, 0))) := by kernel_rfl
theorem slSS1 (a : Option Addr) (m c : Nat) (w : World) : (Instr.buildSlice 41 1 #[(0, .slice a m c)]).run Try.prog w = .ok (.slice (some ⟨w.heap.size, 0, none⟩) 1 1) (w.alloc (.cells #[.slice a m c] 36 (0, 0))) := by kernel_rfl
end Go.Proofs.Ytnafnhpajkhgkaa
/- Append of so many zeros to a nil slice (slices.Grow). Plain theorem; no condition. -/
namespace Go.Proofs.Ytnafnhpajkhgkaa
set_option linter.unusedVariables false
set_option linter.unusedSimpArgs false
open Go Go.RowKit Mem Wk
theorem run_growZ {P : Program} (w : World) (t u ty e : TypeId) (i : TypeInfo) (z : Value) (kd : IntKind) (ht : P.underlying t = some (.slice e)) (hu : P.underlying u = some (.int kd)) (hi : P.info? e = some i) (hz : i.zero = some z)
    (n : Nat) (h0 : 0 < n) (hsz : 0 < i.size) (h63 : (n : Int) ≤ 9223372036854775807) (h48 : n * i.bytes ≤ 281474976710656) :
    (Builtin.append_ #[t, u] ty #[.slice none 0 0, .int .i64 (n : Int)]).run P w =
      .ok (.slice (some ⟨w.heap.size, 0, none⟩) n (grownCap w n 0 e)) (w.drew.alloc (.cells (Builtin.zeroCells z.cells n ++ Builtin.zeroCells z.cells (grownCap w n 0 e - n)) e)) := by
  have hn : n ≠ 0 := by omega
  have hs0 : i.size ≠ 0 := by omega
  have h63' : ¬ (9223372036854775807 < (n : Int)) := by omega
  have h48' : ¬ (281474976710656 < Builtin.nextslicecap n 0 * i.bytes) := by rw [nextslicecap_zero h0]; omega
  have h48i : ¬ (281474976710656 < (n : Int) * (i.bytes : Int)) := by
    have : ((n * i.bytes : Nat) : Int) ≤ 281474976710656 := by omega
    rw [Int.natCast_mul] at this; omega
  have hw : IntKind.i64.wrap (n : Int) = n := wrap_in (by simp only [Wk.lo, Wk.hi]; omega)
  have hneg : ¬ ((n : Int) < 0) := by omega
  simp [Builtin.append_, run_underlying ht, run_underlying hu, sizeOf, typeInfo, zeroValue, hi, hz, asInt, asIntOf, hw, hneg, h48i, Builtin.lenOf, hn, hs0, h63', h48', Question.forced, run_firstCells_none, newRow, grownCap]
  intro h; exact absurd h (Nat.mul_ne_zero hn hs0)
namespace Wk
variable {P : Program} {n : Nat} {O : List Nat} {w0 : World} {l : List (Nat × Value)} {L : List (Nat × TypeId × Array Value)} {Q : Exit → Act → World → Prop} {ops : Array Oper} {o : Oper} {rest : List Oper} {d : Nat} {x y : Operand}
theorem r_cap (tb : Tb P) {t : Nat} {A : Option Addr} {m cap : Nat} {e : Nat × Nat} (ho : o.op = .call { callee := .builtin .cap, args := #[x], argTypes := #[t] }) (hx : ev l x = some (.slice A m cap)) (ht : lkT tb.l t = some e) : Rn P n O w0 l L o (.int .i64 (cap : Int)) := fun a w hF hL => by
  have := run_underlying (tb.slice ht).1 w
  simp [execOp, ho, resolve, invoke, builtin, hF.eval hx, Builtin.cap_, this, goInt]
theorem r_slcHn (tb : Tb P) {t el sz : Nat} {kd : IntKind} (ho : o.op = .slice t x none (some y) none) (hx : ev l x = some (.slice none 0 0)) (hy : ev l y = some (.int kd 0)) (ht : lkT tb.l t = some (el, sz)) : Rn P n O w0 l L o (.slice none 0 0) := fun a w hF hL => by
  have hu := (tb.slice ht).1
  have he : P.underlying t = some (.slice (P.elem t)) := by rw [hu]; simp [Program.elem, hu]
  have hel : P.elem t = el := by simp [Program.elem, hu]
  have hs := run_size (tb.slice ht).2 w
  simp only [execOp, ho, Option.map_none, Option.map_some, hF.eval hx, hF.eval hy, Sem.run_bind, run_sliceAt_slice w t _ _ _ _ he, run_slice_h w t none 0 0 he kd 0 (by omega) (by omega), hel, hs, Result.andThen_ok, Sem.run_pure]
  simp [sliced]
/-- What slices.Grow appends to a nil slice. -/
theorem s_growZ {t u e : TypeId} {z : Value} {kd : IntKind} {sz bytes m : Nat} (ho : o.op = .call { callee := .builtin .append, args := #[x, y], argTypes := #[t, u] }) (ht : P.underlying t = some (.slice e)) (hu : P.underlying u = some (.int kd)) (hi : (P.info? e).map (fun i => (i.zero, i.size, i.bytes)) = some (some z, sz, bytes)) (hzs : z.cells.size = sz) (hsz : 0 < sz)
    (hx : ev l x = some (.slice none 0 0)) (hy : ev l y = some (.int .i64 (m : Int))) (h0 : 0 < m) (h63 : m ≤ maxLen) (hbytes : m * bytes ≤ 140737488355328) (hg : o.guard = none) (hd : o.dst = some d) (hdn : Nat.blt d n = true)
    (h : ∀ g cap cur, cur.size = cap * sz → m ≤ cap → cap ≤ maxLen → S P ops Q n O w0 rest ((d, .slice (some ⟨g, 0, none⟩) m cap) :: l) ((g, e, cur) :: L)) : S P ops Q n O w0 (o :: rest) l L := fun a w hF hL =>
  wpList_plain hg fun K hK => by
    obtain ⟨i, q1, q2, q3, q4⟩ := info_parts hi
    subst q3; subst q4
    have hr := run_growZ (P := P) w t u o.type e i z kd ht hu q1 q2 m h0 hsz (by unfold maxLen at h63; omega) (by omega)
    have hge := grownCap_ge w m 0 e
    unfold Oper.wp execOp
    simp only [ho, resolve, invoke, builtin, Sem.run_bind, Sem.run_pure, Result.andThen_ok, List.map_toArray, List.map_cons, List.map_nil, hF.eval hx, hF.eval hy, hr]
    show K (a.put o.dst _) _
    rw [hd]
    refine hK _ _ (h w.heap.size (grownCap w m 0 e) (Builtin.zeroCells z.cells m ++ Builtin.zeroCells z.cells (grownCap w m 0 e - m)) ?_ hge (grownCap_le_maxLen w m 0 e h63) _ _ (hF.put hdn _) (Own.new (Own.drew hL) e _))
    simp only [Array.size_append, size_zeroCells, hzs, ← Nat.add_mul]
    congr 1
    omega
end Wk
end Go.Proofs.Ytnafnhpajkhgkaa
namespace Go.Proofs.Ytnafnhpajkhgkaa
set_option linter.unusedVariables false
set_option linter.unusedSimpArgs false
open Go.RowKit Mem Wk
attribute [local irreducible] Calls Wk.S Wk.C Wk.E Wk.X Wk.T Wk.Y Wk.anV Wk.orV Wk.andV Wk.shlV Wk.shrV Calm.wpLex CalmB.wpLex bfsN
theorem uI64 : Try.prog.underlying 3 = some (.int .i64) := by kernel_rfl
set_option maxRecDepth 100000 in
theorem grow_some (m : Nat) (w : World) (h0 : 0 < m) (hm : m ≤ 1048576) :
    Calls Try.prog 102 #[.slice none 0 0, .int .i64 (m : Int)] w (NewS 52 2 [] w) := by
  refine enter2 Try.func102 rfl rfl rfl (Own.start w) ?_
  repeat' (first
    | (refine s_g ?_; first
      | (refine s_k 0 rfl ?_; refine s_val rfl rfl rfl (r_move rfl rfl) ?_)
      | (refine s_k 1 rfl ?_; refine s_val rfl rfl rfl (r_assign rfl rfl) ?_)
      | (refine s_k 13 rfl ?_; first | refine s_val rfl rfl rfl (r_lss rfl rfl rfl) ?_ | refine s_val rfl rfl rfl (r_sub rfl rfl rfl (wrap_in (by simp only [lo, hi]; omega))) ?_ | refine s_val rfl rfl rfl (r_gtr rfl rfl rfl) ?_)
      | (refine s_k 36 rfl ?_; first | refine s_val rfl rfl rfl (r_cap tb rfl rfl rfl) ?_ | refine s_growZ (m := m) rfl uSpotS uI64 iSpot rfl (by omega) rfl (by simp only [Int.sub_zero, Int.sub_self]; first | rfl | simp) h0 (by unfold maxLen; omega) (by omega) rfl rfl rfl fun g cap cur hcs hmc hcm => ?_ | refine s_val rfl rfl rfl (r_len tb rfl rfl rfl) ?_)
      | (refine s_k 22 rfl ?_; first | refine s_val rfl rfl rfl (r_slcHn tb rfl rfl rfl rfl) ?_ | refine s_val rfl rfl rfl (r_slcH tb rfl rfl rfl rfl (Nat.zero_le _)) ?_)
      | refine s_nil ?_)
    | (refine c_g ?_; first | refine c_seq ?_ | refine c_region ?_ | (refine c_gc ?_; first | refine c_cond1 rfl zTr ?_ | refine c_cond0 rfl zTr ?_ | refine z_condd1 rfl ?_ | refine z_condd0 rfl ?_ | refine z_conddn1 rfl ?_ | refine z_conddn0 rfl ?_ | refine c_condd rfl (fun hc => ?_) (fun hc => ?_) | refine c_conddn rfl (fun hc => ?_) (fun hc => ?_) | refine c_condn rfl (fun hc => ?_) (fun hc => ?_) | refine c_cond rfl (fun hc => ?_) (fun hc => ?_)) | refine c_block ?_ | refine c_skip ?_ | refine c_exit ?_ | refine c_ret ?_)
    | (refine e_g ?_; first | refine e_then ?_ | refine e_blkn ?_ | refine e_thenx ?_ | refine e_thenr ?_ | refine e_blkr ?_ | refine e_blkx ?_ | refine e_blky rfl ?_)
    | (refine e_ret1 (by simp) rfl (re_tmp rfl) fun w hL => NewS.of ⟨by simp, Nat.zero_le _, hcm, hcs, by simp⟩ hL m0))
set_option maxRecDepth 100000 in
theorem grow_none (w : World) :
    Calls Try.prog 102 #[.slice none 0 0, .int .i64 0] w fun e w' => e = .returned (.slice none 0 0) ∧ Below w.heap.size w w' := by
  refine enter2 Try.func102 rfl rfl rfl (Own.start w) ?_
  repeat' (first
    | (refine s_g ?_; first
      | (refine s_k 0 rfl ?_; refine s_val rfl rfl rfl (r_move rfl rfl) ?_)
      | (refine s_k 1 rfl ?_; refine s_val rfl rfl rfl (r_assign rfl rfl) ?_)
      | (refine s_k 13 rfl ?_; first | refine s_val rfl rfl rfl (r_lss rfl rfl rfl) ?_ | refine s_val rfl rfl rfl (r_sub rfl rfl rfl (wrap_in (by simp only [lo, hi]; omega))) ?_ | refine s_val rfl rfl rfl (r_gtr rfl rfl rfl) ?_)
      | (refine s_k 36 rfl ?_; first | refine s_val rfl rfl rfl (r_cap tb rfl rfl rfl) ?_ | refine s_val rfl rfl rfl (r_len tb rfl rfl rfl) ?_)
      | refine s_nil ?_)
    | (refine c_g ?_; first | refine c_seq ?_ | refine c_region ?_ | (refine c_gc ?_; first | refine c_cond1 rfl zTr ?_ | refine c_cond0 rfl zTr ?_ | refine z_condd1 rfl ?_ | refine z_condd0 rfl ?_ | refine z_conddn1 rfl ?_ | refine z_conddn0 rfl ?_ | refine c_condd rfl (fun hc => ?_) (fun hc => ?_) | refine c_conddn rfl (fun hc => ?_) (fun hc => ?_) | refine c_condn rfl (fun hc => ?_) (fun hc => ?_) | refine c_cond rfl (fun hc => ?_) (fun hc => ?_)) | refine c_block ?_ | refine c_skip ?_ | refine c_exit ?_ | refine c_ret ?_)
    | (refine e_g ?_; first | refine e_then ?_ | refine e_blkn ?_ | refine e_thenx ?_ | refine e_thenr ?_ | refine e_blkr ?_ | refine e_blkx ?_ | refine e_blky rfl ?_)
    | (refine e_ret1 (by simp) rfl (re_tmp rfl) fun w hL => ⟨rfl, hL.toBelow⟩))
end Go.Proofs.Ytnafnhpajkhgkaa
