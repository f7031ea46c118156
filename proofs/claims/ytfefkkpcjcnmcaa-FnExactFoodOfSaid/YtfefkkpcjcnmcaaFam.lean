/- The laws' own copiers and comparers of spots, stakes, goats and hurdles, alone and in slices: what is copied reads as it did; two alike compare as alike. Slices of at most 2 to the power 20 elements. -/
import Derived.Test.YtfefkkpcjcnmcaaFrame
import Derived.Test.YtfefkkpcjcnmcaaSquare
import Derived.Test.YtfefkkpcjcnmcaaConv
namespace Go.Proofs.Ytfefkkpcjcnmcaa
set_option linter.unusedVariables false
set_option linter.unusedSimpArgs false
open Go.RowKit Mem

theorem flat_get {sz : Nat} (l : List (List Value)) (hl : ∀ c ∈ l, c.length = sz) (i : Nat) (c : List Value) (hc : l[i]? = some c) (j : Nat) (hj : j < sz) : l.flatten[i * sz + j]? = c[j]? := by
  induction l generalizing i with
  | nil => simp at hc
  | cons d l ih =>
    have hd := hl d (by simp)
    rw [List.flatten_cons]
    match i with
    | 0 => simp at hc; subst hc; rw [List.getElem?_append_left (by omega)]; simp
    | i + 1 =>
      rw [Nat.succ_mul, List.getElem?_append_right (by omega)]
      rw [show i * sz + sz + j - d.length = i * sz + j by omega]
      exact ih (fun c hc => hl c (List.mem_cons_of_mem _ hc)) i (by simpa using hc)
theorem flat_len {sz : Nat} (l : List (List Value)) (hl : ∀ c ∈ l, c.length = sz) : l.flatten.length = l.length * sz := by
  induction l with
  | nil => simp
  | cons d l ih => rw [List.flatten_cons, List.length_append, ih fun c hc => hl c (List.mem_cons_of_mem _ hc), hl d (by simp), List.length_cons, Nat.succ_mul]; omega
/-- A block that holds these cells reads as a slice. -/
theorem Sl.of_block {w : World} {sz g n : Nat} {T : TypeId} {cs : Array Value} {l : List (List Value)} (hl : ∀ c ∈ l, c.length = sz) (hn : l.length = n) (hm : n ≤ maxLen) (hg : w.heap[g]? = some (.cells cs T (0, 0))) (hcs : ∀ j, j < l.length * sz → cs[j]? = l.flatten[j]?) : Sl w sz (.slice (some ⟨g, 0, none⟩) n n) l := by
  subst hn
  refine ⟨_, _, rfl, Nat.le_refl _, hm, fun i c hc => ⟨hl c (List.mem_of_getElem? hc), g, 0, rfl, fun j u hu => ?_⟩⟩
  have hj : j < sz := by rw [← hl c (List.mem_of_getElem? hc)]; exact (List.getElem?_eq_some_iff.1 hu).1
  have hi : i < l.length := (List.getElem?_eq_some_iff.1 hc).1
  have hb : i * sz + j < l.length * sz := by
    have := Nat.mul_le_mul_right sz hi
    rw [Nat.succ_mul] at this
    omega
  rw [cell_of_row w g _ cs T (0, 0) hg, Nat.zero_add, hcs _ hb, flat_get l hl i c hc j hj]
  exact hu
theorem copy_prefix {k m : Nat} {o : Array Value} {f c : List Value} (hc : c.length = m) (hfit : k * m + m ≤ o.size) (hf : ∀ j, j < m → f[k * m + j]? = c[j]?) (HP : ∀ j, j < k * m → o[j]? = f[j]?) : ∀ j, j < (k + 1) * m → (splice o (k * m) c.toArray)[j]? = f[j]? := fun j hj => by
  have e1 : (k + 1) * m = k * m + m := Nat.succ_mul k m
  have hs : c.toArray.size = m := by simpa using hc
  rw [splice_get _ _ _ (by rw [hs]; exact hfit), hs]
  by_cases e : k * m ≤ j
  · rw [if_pos ⟨e, by omega⟩, List.getElem?_toArray, ← hf _ (by omega), show k * m + (j - k * m) = j by omega]
  · rw [if_neg (by omega)]; exact HP j (by omega)

set_option maxRecDepth 100000 in
set_option maxHeartbeats 400000 in
theorem toStake_any (x : Int) (y : Int) (r : Int) (w : World) :
    Calls Try.prog 37 #[.agg #[.int .i8 x, .int .i8 y, .int .i16 r]] w fun e w' => e = .returned (.agg #[.int .i8 x, .int .i8 y, .int .i16 r]) ∧ Below w.heap.size w w' := by
  have hL := Own.start w
  go_enter Try.func37, Try.ntmps37
  go_wp2_with (first
    | ((with_reducible refine gate_dst (N := 1) rfl ?_); refine wpl_box (cs := #[.int .i8 x, .int .i8 y, .int .i16 r]) hL rfl rfl rfl ?_; clear hL; intro g1 w1 hL)
    | ((with_reducible refine gate_dst (N := 2) rfl ?_); refine wpl_alloc (z := .agg (#[.int .i8 0, .int .i8 0, .int .i16 0])) (cs := #[.int .i8 0, .int .i8 0, .int .i16 0]) hL rfl rfl (by kernel_rfl) rfl ?_; clear hL; intro g2 w2 hL)
    | ((with_reducible refine gate_dst (N := 3) rfl ?_); refine wpl_alloc (z := .agg (#[.int .i8 0, .int .i8 0, .int .i16 0])) (cs := #[.int .i8 0, .int .i8 0, .int .i16 0]) hL rfl rfl (by kernel_rfl) rfl ?_; clear hL; intro g3 w3 hL)
    | ((with_reducible refine gate_load (ty := 52) rfl ?_); refine wpl_loadW_0 hL rfl rfl (by kernel_rfl) rfl rfl (by kernel_rfl) ?_)
    | ((with_reducible refine gate_load (ty := 31) rfl ?_); refine wpl_loadN_2 (off := 0) (vs := #[.int .i8 x, .int .i8 y]) hL 2 rfl rfl (by kernel_rfl) (by kernel_rfl) rfl (by simp) rfl ?_)
    | (go_at_call 28; (with_reducible refine (toSpot_any x y _).mono ?_); rintro e w4 ⟨rfl, hb⟩; replace hL := hL.ext hb; clear hb)
    | ((with_reducible refine gate_store (ty := 38) rfl ?_); refine wpl_storeN_0 (off := 0) (vs := #[.int .i8 x, .int .i8 y]) hL 2 rfl rfl (by kernel_rfl) rfl rfl rfl (by simp [Value.oneCell']) (by simp) ?_; clear hL; intro w5 hL; (try simp only [splice, List.take_zero, List.take_succ_cons, List.drop_succ_cons, List.drop_zero, List.nil_append, List.cons_append, List.append_nil, List.drop_nil, Nat.reduceAdd, List.size_toArray, List.length_cons, List.length_nil, List.take_nil, Nat.zero_add] at hL))
    | ((with_reducible refine gate_load rfl ?_); first | (refine wpl_load_2 hL rfl rfl (by kernel_rfl) rfl (by first | rfl | assumption) ?_))
    | ((with_reducible refine gate_store (ty := 52) rfl ?_); refine wpl_storeW_1 hL rfl rfl rfl rfl rfl (by kernel_rfl) (by simp [Value.oneCell']) rfl ?_; clear hL; intro w5 hL)
    | ((with_reducible refine gate_store rfl ?_); first | (refine wpl_store1_0 hL rfl rfl (by kernel_rfl) rfl rfl rfl (by first | assumption | (simp; done) | (simp [*]; done)) ?_; clear hL; intro w0_ hL; (try simp only [Act.eval, Array.getD_eq_getD_getElem?, List.getElem?_toArray, List.getElem?_cons_zero, List.getElem?_cons_succ, Option.getD_some, List.setIfInBounds_toArray, List.set_cons_zero, List.set_cons_succ] at hL)))
    | ((with_reducible refine post_gate ?_); exact post1 rfl (res_cell (hL.at_ (i := 1) rfl) rfl (by kernel_rfl) rfl (by kernel_rfl)) rfl ⟨rfl, hL.toBelow⟩))

set_option maxRecDepth 100000 in
set_option maxHeartbeats 400000 in
theorem toGoat_any (x : Int) (y : Int) (u : Int) (v : Int) (rope : Int) (eats : Int) (likes : Int) (w : World) :
    Calls Try.prog 46 #[.agg #[.int .i8 x, .int .i8 y, .int .i8 u, .int .i8 v, .int .i16 rope, .int .i16 eats, .int .i8 likes]] w fun e w' => e = .returned (.agg #[.int .i8 x, .int .i8 y, .int .i8 u, .int .i8 v, .int .i16 rope, .int .i16 eats, .int .i8 likes]) ∧ Below w.heap.size w w' := by
  have hL := Own.start w
  go_enter Try.func46, Try.ntmps46
  go_wp2_with (first
    | ((with_reducible refine gate_dst (N := 1) rfl ?_); refine wpl_box (cs := #[.int .i8 x, .int .i8 y, .int .i8 u, .int .i8 v, .int .i16 rope, .int .i16 eats, .int .i8 likes]) hL rfl rfl rfl ?_; clear hL; intro g1 w1 hL)
    | ((with_reducible refine gate_dst (N := 2) rfl ?_); refine wpl_alloc (z := .agg (#[.int .i8 0, .int .i8 0, .int .i8 0, .int .i8 0, .int .i16 0, .int .i16 0, .int .i8 0])) (cs := #[.int .i8 0, .int .i8 0, .int .i8 0, .int .i8 0, .int .i16 0, .int .i16 0, .int .i8 0]) hL rfl rfl (by kernel_rfl) rfl ?_; clear hL; intro g2 w2 hL)
    | ((with_reducible refine gate_dst (N := 3) rfl ?_); refine wpl_alloc (z := .agg (#[.int .i8 0, .int .i8 0, .int .i8 0, .int .i8 0, .int .i16 0, .int .i16 0, .int .i8 0])) (cs := #[.int .i8 0, .int .i8 0, .int .i8 0, .int .i8 0, .int .i16 0, .int .i16 0, .int .i8 0]) hL rfl rfl (by kernel_rfl) rfl ?_; clear hL; intro g3 w3 hL)
    | ((with_reducible refine gate_load (ty := 63) rfl ?_); refine wpl_loadW_0 hL rfl rfl (by kernel_rfl) rfl rfl (by kernel_rfl) ?_)
    | ((with_reducible refine gate_load (ty := 31) rfl ?_); refine wpl_loadN_2 (off := 0) (vs := #[.int .i8 x, .int .i8 y]) hL 2 rfl rfl (by kernel_rfl) (by kernel_rfl) rfl (by simp) rfl ?_)
    | (go_at_call 28; (with_reducible refine (toSpot_any x y _).mono ?_); rintro e w4 ⟨rfl, hb⟩; replace hL := hL.ext hb; clear hb)
    | ((with_reducible refine gate_store (ty := 38) rfl ?_); refine wpl_storeN_0 (off := 0) (vs := #[.int .i8 x, .int .i8 y]) hL 2 rfl rfl (by kernel_rfl) rfl rfl rfl (by simp [Value.oneCell']) (by simp) ?_; clear hL; intro w5 hL; (try simp only [splice, List.take_zero, List.take_succ_cons, List.drop_succ_cons, List.drop_zero, List.nil_append, List.cons_append, List.append_nil, List.drop_nil, Nat.reduceAdd, List.size_toArray, List.length_cons, List.length_nil, List.take_nil, Nat.zero_add] at hL))
    | ((with_reducible refine gate_load (ty := 31) rfl ?_); refine wpl_loadN_2 (off := 2) (vs := #[.int .i8 u, .int .i8 v]) hL 2 rfl rfl (by kernel_rfl) (by kernel_rfl) rfl (by simp) rfl ?_)
    | (go_at_call 28; (with_reducible refine (toSpot_any u v _).mono ?_); rintro e w4 ⟨rfl, hb⟩; replace hL := hL.ext hb; clear hb)
    | ((with_reducible refine gate_store (ty := 38) rfl ?_); refine wpl_storeN_0 (off := 2) (vs := #[.int .i8 u, .int .i8 v]) hL 2 rfl rfl (by kernel_rfl) rfl rfl rfl (by simp [Value.oneCell']) (by simp) ?_; clear hL; intro w5 hL; (try simp only [splice, List.take_zero, List.take_succ_cons, List.drop_succ_cons, List.drop_zero, List.nil_append, List.cons_append, List.append_nil, List.drop_nil, Nat.reduceAdd, List.size_toArray, List.length_cons, List.length_nil, List.take_nil, Nat.zero_add] at hL))
    | ((with_reducible refine gate_load rfl ?_); first | (refine wpl_load_2 hL rfl rfl (by kernel_rfl) rfl (by first | rfl | assumption) ?_))
    | ((with_reducible refine gate_store (ty := 63) rfl ?_); refine wpl_storeW_1 hL rfl rfl rfl rfl rfl (by kernel_rfl) (by simp [Value.oneCell']) rfl ?_; clear hL; intro w5 hL)
    | ((with_reducible refine gate_store rfl ?_); first | (refine wpl_store1_0 hL rfl rfl (by kernel_rfl) rfl rfl rfl (by first | assumption | (simp; done) | (simp [*]; done)) ?_; clear hL; intro w0_ hL; (try simp only [Act.eval, Array.getD_eq_getD_getElem?, List.getElem?_toArray, List.getElem?_cons_zero, List.getElem?_cons_succ, Option.getD_some, List.setIfInBounds_toArray, List.set_cons_zero, List.set_cons_succ] at hL)))
    | ((with_reducible refine post_gate ?_); exact post1 rfl (res_cell (hL.at_ (i := 1) rfl) rfl (by kernel_rfl) rfl (by kernel_rfl)) rfl ⟨rfl, hL.toBelow⟩))

set_option maxRecDepth 100000 in
set_option maxHeartbeats 400000 in
theorem toHurdle_any (x : Int) (y : Int) (s : Bool) (w : World) :
    Calls Try.prog 184 #[.agg #[.int .i8 x, .int .i8 y, .bool s]] w fun e w' => e = .returned (.agg #[.int .i8 x, .int .i8 y, .bool s]) ∧ Below w.heap.size w w' := by
  have hL := Own.start w
  go_enter Try.func184, Try.ntmps184
  go_wp2_with (first
    | ((with_reducible refine gate_dst (N := 1) rfl ?_); refine wpl_box (cs := #[.int .i8 x, .int .i8 y, .bool s]) hL rfl rfl rfl ?_; clear hL; intro g1 w1 hL)
    | ((with_reducible refine gate_dst (N := 2) rfl ?_); refine wpl_alloc (z := .agg (#[.int .i8 0, .int .i8 0, .bool false])) (cs := #[.int .i8 0, .int .i8 0, .bool false]) hL rfl rfl (by kernel_rfl) rfl ?_; clear hL; intro g2 w2 hL)
    | ((with_reducible refine gate_dst (N := 3) rfl ?_); refine wpl_alloc (z := .agg (#[.int .i8 0, .int .i8 0, .bool false])) (cs := #[.int .i8 0, .int .i8 0, .bool false]) hL rfl rfl (by kernel_rfl) rfl ?_; clear hL; intro g3 w3 hL)
    | ((with_reducible refine gate_load (ty := 75) rfl ?_); refine wpl_loadW_0 hL rfl rfl (by kernel_rfl) rfl rfl (by kernel_rfl) ?_)
    | ((with_reducible refine gate_load (ty := 31) rfl ?_); refine wpl_loadN_2 (off := 0) (vs := #[.int .i8 x, .int .i8 y]) hL 2 rfl rfl (by kernel_rfl) (by kernel_rfl) rfl (by simp) rfl ?_)
    | (go_at_call 28; (with_reducible refine (toSpot_any x y _).mono ?_); rintro e w4 ⟨rfl, hb⟩; replace hL := hL.ext hb; clear hb)
    | ((with_reducible refine gate_store (ty := 38) rfl ?_); refine wpl_storeN_0 (off := 0) (vs := #[.int .i8 x, .int .i8 y]) hL 2 rfl rfl (by kernel_rfl) rfl rfl rfl (by simp [Value.oneCell']) (by simp) ?_; clear hL; intro w5 hL; (try simp only [splice, List.take_zero, List.take_succ_cons, List.drop_succ_cons, List.drop_zero, List.nil_append, List.cons_append, List.append_nil, List.drop_nil, Nat.reduceAdd, List.size_toArray, List.length_cons, List.length_nil, List.take_nil, Nat.zero_add] at hL))
    | ((with_reducible refine gate_load rfl ?_); first | (refine wpl_load_2 hL rfl rfl (by kernel_rfl) rfl (by first | rfl | assumption) ?_))
    | ((with_reducible refine gate_store (ty := 75) rfl ?_); refine wpl_storeW_1 hL rfl rfl rfl rfl rfl (by kernel_rfl) (by simp [Value.oneCell']) rfl ?_; clear hL; intro w5 hL)
    | ((with_reducible refine gate_store rfl ?_); first | (refine wpl_store1_0 hL rfl rfl (by kernel_rfl) rfl rfl rfl (by first | assumption | (simp; done) | (simp [*]; done)) ?_; clear hL; intro w0_ hL; (try simp only [Act.eval, Array.getD_eq_getD_getElem?, List.getElem?_toArray, List.getElem?_cons_zero, List.getElem?_cons_succ, Option.getD_some, List.setIfInBounds_toArray, List.set_cons_zero, List.set_cons_succ] at hL)))
    | ((with_reducible refine post_gate ?_); exact post1 rfl (res_cell (hL.at_ (i := 1) rfl) rfl (by kernel_rfl) rfl (by kernel_rfl)) rfl ⟨rfl, hL.toBelow⟩))

set_option maxRecDepth 100000 in
theorem eqSpot_same (x y : Int) (w : World) :
    Calls Try.prog 62 #[.agg #[.int .i8 x, .int .i8 y], .agg #[.int .i8 x, .int .i8 y]] w fun e w' => e = .returned (.bool true) ∧ Below w.heap.size w w' := by
  have hL := Own.start w
  go_enter Try.func62, Try.ntmps62
  go_wp2_with (first
    | ((with_reducible refine gate_dst (N := 2) rfl ?_); refine wpl_box (cs := #[.int .i8 x, .int .i8 y]) hL rfl rfl rfl ?_; clear hL; intro g2 w2 hL)
    | ((with_reducible refine gate_dst (N := 3) rfl ?_); refine wpl_box (cs := #[.int .i8 x, .int .i8 y]) hL rfl rfl rfl ?_; clear hL; intro g3 w3 hL)
    | ((with_reducible refine gate_load rfl ?_); first | (refine wpl_load_0 hL rfl rfl (by kernel_rfl) rfl (by first | rfl | assumption) ?_) | (refine wpl_load_1 hL rfl rfl (by kernel_rfl) rfl (by first | rfl | assumption) ?_) | (refine wpl_load_2 hL rfl rfl (by kernel_rfl) rfl (by first | rfl | assumption) ?_) | (refine wpl_load_3 hL rfl rfl (by kernel_rfl) rfl (by first | rfl | assumption) ?_) | (refine wpl_load_4 hL rfl rfl (by kernel_rfl) rfl (by first | rfl | assumption) ?_) | (refine wpl_load_5 hL rfl rfl (by kernel_rfl) rfl (by first | rfl | assumption) ?_)))
  go_ret
  exact ⟨rfl, hL.toBelow⟩

set_option maxRecDepth 100000 in
set_option maxHeartbeats 400000 in
theorem eqStake_same (x : Int) (y : Int) (r : Int) (w : World) :
    Calls Try.prog 181 #[.agg #[.int .i8 x, .int .i8 y, .int .i16 r], .agg #[.int .i8 x, .int .i8 y, .int .i16 r]] w fun e w' => e = .returned (.bool true) ∧ Below w.heap.size w w' := by
  have hL := Own.start w
  go_enter Try.func181, Try.ntmps181
  go_wp2_with (first
    | ((with_reducible refine gate_dst (N := 2) rfl ?_); refine wpl_box (cs := #[.int .i8 x, .int .i8 y, .int .i16 r]) hL rfl rfl rfl ?_; clear hL; intro g2 w2 hL)
    | ((with_reducible refine gate_dst (N := 3) rfl ?_); refine wpl_box (cs := #[.int .i8 x, .int .i8 y, .int .i16 r]) hL rfl rfl rfl ?_; clear hL; intro g3 w3 hL)
    | ((with_reducible refine gate_load (ty := 38) rfl ?_); refine wpl_loadN_0 (off := 0) (vs := #[.int .i8 x, .int .i8 y]) hL 2 rfl rfl (by kernel_rfl) (by kernel_rfl) rfl (by simp) rfl ?_)
    | ((with_reducible refine gate_load (ty := 38) rfl ?_); refine wpl_loadN_1 (off := 0) (vs := #[.int .i8 x, .int .i8 y]) hL 2 rfl rfl (by kernel_rfl) (by kernel_rfl) rfl (by simp) rfl ?_)
    | (go_at_call 62; (with_reducible refine (eqSpot_same x y _).mono ?_); rintro e w4 ⟨rfl, hb⟩; replace hL := hL.ext hb; clear hb)
    | ((with_reducible refine gate_load rfl ?_); first | (refine wpl_load_0 hL rfl rfl (by kernel_rfl) rfl (by first | rfl | assumption) ?_) | (refine wpl_load_1 hL rfl rfl (by kernel_rfl) rfl (by first | rfl | assumption) ?_) | (refine wpl_load_2 hL rfl rfl (by kernel_rfl) rfl (by first | rfl | assumption) ?_) | (refine wpl_load_3 hL rfl rfl (by kernel_rfl) rfl (by first | rfl | assumption) ?_) | (refine wpl_load_4 hL rfl rfl (by kernel_rfl) rfl (by first | rfl | assumption) ?_) | (refine wpl_load_5 hL rfl rfl (by kernel_rfl) rfl (by first | rfl | assumption) ?_)))
  go_ret
  exact ⟨rfl, hL.toBelow⟩

set_option maxRecDepth 100000 in
set_option maxHeartbeats 400000 in
theorem eqGoat_same (x : Int) (y : Int) (u : Int) (v : Int) (rope : Int) (eats : Int) (likes : Int) (w : World) :
    Calls Try.prog 189 #[.agg #[.int .i8 x, .int .i8 y, .int .i8 u, .int .i8 v, .int .i16 rope, .int .i16 eats, .int .i8 likes], .agg #[.int .i8 x, .int .i8 y, .int .i8 u, .int .i8 v, .int .i16 rope, .int .i16 eats, .int .i8 likes]] w fun e w' => e = .returned (.bool true) ∧ Below w.heap.size w w' := by
  have hL := Own.start w
  go_enter Try.func189, Try.ntmps189
  go_wp2_with (first
    | ((with_reducible refine gate_dst (N := 2) rfl ?_); refine wpl_box (cs := #[.int .i8 x, .int .i8 y, .int .i8 u, .int .i8 v, .int .i16 rope, .int .i16 eats, .int .i8 likes]) hL rfl rfl rfl ?_; clear hL; intro g2 w2 hL)
    | ((with_reducible refine gate_dst (N := 3) rfl ?_); refine wpl_box (cs := #[.int .i8 x, .int .i8 y, .int .i8 u, .int .i8 v, .int .i16 rope, .int .i16 eats, .int .i8 likes]) hL rfl rfl rfl ?_; clear hL; intro g3 w3 hL)
    | ((with_reducible refine gate_load (ty := 38) rfl ?_); refine wpl_loadN_0 (off := 0) (vs := #[.int .i8 x, .int .i8 y]) hL 2 rfl rfl (by kernel_rfl) (by kernel_rfl) rfl (by simp) rfl ?_)
    | ((with_reducible refine gate_load (ty := 38) rfl ?_); refine wpl_loadN_1 (off := 0) (vs := #[.int .i8 x, .int .i8 y]) hL 2 rfl rfl (by kernel_rfl) (by kernel_rfl) rfl (by simp) rfl ?_)
    | (go_at_call 62; (with_reducible refine (eqSpot_same x y _).mono ?_); rintro e w4 ⟨rfl, hb⟩; replace hL := hL.ext hb; clear hb)
    | ((with_reducible refine gate_load (ty := 38) rfl ?_); refine wpl_loadN_0 (off := 2) (vs := #[.int .i8 u, .int .i8 v]) hL 2 rfl rfl (by kernel_rfl) (by kernel_rfl) rfl (by simp) rfl ?_)
    | ((with_reducible refine gate_load (ty := 38) rfl ?_); refine wpl_loadN_1 (off := 2) (vs := #[.int .i8 u, .int .i8 v]) hL 2 rfl rfl (by kernel_rfl) (by kernel_rfl) rfl (by simp) rfl ?_)
    | (go_at_call 62; (with_reducible refine (eqSpot_same u v _).mono ?_); rintro e w4 ⟨rfl, hb⟩; replace hL := hL.ext hb; clear hb)
    | ((with_reducible refine gate_load rfl ?_); first | (refine wpl_load_0 hL rfl rfl (by kernel_rfl) rfl (by first | rfl | assumption) ?_) | (refine wpl_load_1 hL rfl rfl (by kernel_rfl) rfl (by first | rfl | assumption) ?_) | (refine wpl_load_2 hL rfl rfl (by kernel_rfl) rfl (by first | rfl | assumption) ?_) | (refine wpl_load_3 hL rfl rfl (by kernel_rfl) rfl (by first | rfl | assumption) ?_) | (refine wpl_load_4 hL rfl rfl (by kernel_rfl) rfl (by first | rfl | assumption) ?_) | (refine wpl_load_5 hL rfl rfl (by kernel_rfl) rfl (by first | rfl | assumption) ?_)))
  go_ret
  exact ⟨rfl, hL.toBelow⟩

set_option maxRecDepth 100000 in
set_option maxHeartbeats 400000 in
theorem eqHurdle_same (x : Int) (y : Int) (s : Bool) (w : World) :
    Calls Try.prog 59 #[.agg #[.int .i8 x, .int .i8 y, .bool s], .agg #[.int .i8 x, .int .i8 y, .bool s]] w fun e w' => e = .returned (.bool true) ∧ Below w.heap.size w w' := by
  have hL := Own.start w
  go_enter Try.func59, Try.ntmps59
  go_wp2_with (first
    | ((with_reducible refine gate_dst (N := 2) rfl ?_); refine wpl_box (cs := #[.int .i8 x, .int .i8 y, .bool s]) hL rfl rfl rfl ?_; clear hL; intro g2 w2 hL)
    | ((with_reducible refine gate_dst (N := 3) rfl ?_); refine wpl_box (cs := #[.int .i8 x, .int .i8 y, .bool s]) hL rfl rfl rfl ?_; clear hL; intro g3 w3 hL)
    | ((with_reducible refine gate_load (ty := 38) rfl ?_); refine wpl_loadN_0 (off := 0) (vs := #[.int .i8 x, .int .i8 y]) hL 2 rfl rfl (by kernel_rfl) (by kernel_rfl) rfl (by simp) rfl ?_)
    | ((with_reducible refine gate_load (ty := 38) rfl ?_); refine wpl_loadN_1 (off := 0) (vs := #[.int .i8 x, .int .i8 y]) hL 2 rfl rfl (by kernel_rfl) (by kernel_rfl) rfl (by simp) rfl ?_)
    | (go_at_call 62; (with_reducible refine (eqSpot_same x y _).mono ?_); rintro e w4 ⟨rfl, hb⟩; replace hL := hL.ext hb; clear hb)
    | ((with_reducible refine gate_load rfl ?_); first | (refine wpl_load_0 hL rfl rfl (by kernel_rfl) rfl (by first | rfl | assumption) ?_) | (refine wpl_load_1 hL rfl rfl (by kernel_rfl) rfl (by first | rfl | assumption) ?_) | (refine wpl_load_2 hL rfl rfl (by kernel_rfl) rfl (by first | rfl | assumption) ?_) | (refine wpl_load_3 hL rfl rfl (by kernel_rfl) rfl (by first | rfl | assumption) ?_) | (refine wpl_load_4 hL rfl rfl (by kernel_rfl) rfl (by first | rfl | assumption) ?_) | (refine wpl_load_5 hL rfl rfl (by kernel_rfl) rfl (by first | rfl | assumption) ?_)))
  go_ret
  exact ⟨rfl, hL.toBelow⟩

theorem Sp_cells_len (l : List Sp) : ∀ c ∈ l.map Sp.cells, c.length = 2 := by
  intro c hc
  obtain ⟨s, _, rfl⟩ := List.mem_map.1 hc
  rfl
theorem Sp_cells_one (s : Sp) : ∀ v ∈ s.cells.toArray.toList, v.oneCell' = true := by
  intro v hv
  simp [Sp.cells] at hv
  rcases hv with rfl | rfl <;> rfl

set_option maxRecDepth 100000 in
theorem szSpotS_any (v : Value) (l : List Sp) (left : Int) (w : World) (hl : Sl w 2 v (l.map Sp.cells)) (h0 : 0 ≤ left) (h1 : left ≤ 1048576) :
    Calls Try.prog 25 #[v, .int .i64 left] w fun e w' => e = .returned (.int .i64 (if (l.length : Int) ≤ left then left - l.length else -1)) ∧ w = w' := by
  obtain ⟨A, cap, rfl, hc, hm, _⟩ := hl
  rw [List.length_map] at hc ⊢
  unfold maxLen at hm
  by_cases h : (l.length : Int) ≤ left
  · have hd : decide (left - (l.length : Int) < 0) = false := by simp; omega
    rw [if_pos h]
    go_enter Try.func25, Try.ntmps25
    go_wp2
    go_ret
    exact ⟨rfl, rfl⟩
  · have hd : decide (left - (l.length : Int) < 0) = true := by simp; omega
    rw [if_neg h]
    go_enter Try.func25, Try.ntmps25
    go_wp2
    go_ret
    exact ⟨rfl, rfl⟩

set_option maxRecDepth 100000 in
set_option maxHeartbeats 400000 in
theorem toSpotS_any (v : Value) (l : List Sp) (w : World) (hl : Sl w 2 v (l.map Sp.cells)) (h1 : l.length ≤ 1048576) :
    Calls Try.prog 29 #[v] w fun e w' => ∃ u, e = .returned u ∧ Sl w' 2 u (l.map Sp.cells) ∧ Below w.heap.size w w' := by
  have hL := Own.start w
  have HS := Lib.hid hl
  have HLN := Lib.hid (Sp_cells_len l)
  obtain ⟨A, cap, rfl, hc, hm, _⟩ := hl
  rw [List.length_map] at hc HS ⊢
  have hmm : l.length ≤ maxLen := by unfold maxLen; omega
  clear hc hm
  obtain ⟨N, hN⟩ : ∃ N, l.length = N := ⟨_, rfl⟩
  have HN := Lib.hid hN
  rw [hN] at h1 hmm HS ⊢
  clear hN
  go_enter Try.func29, Try.ntmps29
  go_wp2_with (first
    | (at_make; refine wpl_make (size := 2) (bytes := 2) (z := .agg #[.int .i8 0, .int .i8 0]) hL rfl rfl Try.underlying40 (by kernel_rfl) rfl rfl (by omega) hmm ?_; clear hL; intro g7 c7 w7 hs7 hL; have HS7 := Lib.hid hs7; clear hs7))
  go_loopg [4] N (fun n i wr => ∃ (k : Nat) (o : Array Value), k ≤ N ∧ n = N - k ∧ i = .int .i64 k ∧ Hid (o.size = N * 2) ∧ Hid (∀ j, j < k * 2 → o[j]? = (l.map Sp.cells).flatten[j]?) ∧ Own w.heap.size [] w wr [(g7, 38, o)])
  case atStart => exact ⟨0, _, by omega, rfl, rfl, HS7.out, (fun j hj => by omega : ∀ j, j < 0 * 2 → _), hL⟩
  case round =>
    clear hL
    obtain ⟨k, o, hk, rfl, rfl, HO, HP, hL⟩ := hrel
    by_cases hlt : k < N
    · have HS2 := HS.out.below hL.toBelow
      obtain ⟨A2, cap2, hv2, _, _, hel⟩ := HS2
      injection hv2 with hA hn2 hc2
      obtain ⟨s, hs⟩ : ∃ s, l[k]? = some s := ⟨_, List.getElem?_eq_getElem (by have := HN.out; omega)⟩
      have hmap : (l.map Sp.cells)[k]? = some s.cells := by rw [List.getElem?_map, hs]; rfl
      obtain ⟨hcl, b, off, hA2, hcell⟩ := hel k _ hmap
      have hfit : k * 2 + 2 ≤ o.size := by have := HO.out; omega
      have hflat : ∀ j, j < 2 → (l.map Sp.cells).flatten[k * 2 + j]? = s.cells[j]? := fun j hj => flat_get _ HLN.out k _ hmap j hj
      have HF := Lib.hid hflat
      have HC := Lib.hid hcell
      have h1c := Sp_cells_one s
      have H1C := Lib.hid h1c
      obtain rfl : A = some ⟨b, off, none⟩ := hA.trans hA2
      clear hel hmap hs hA hn2 hc2 hA2 hflat hcell h1c
      go_wp2_with (first
        | ((with_reducible refine gate_load rfl ?_); refine wpl_loadA 2 rfl rfl (by kernel_rfl) rfl (c := s.cells) HC.out (by kernel_rfl) rfl ?_)
        | (go_at_call 28; (refine (toSpot_any s.x s.y _).mono ?_); rintro e w4 ⟨rfl, hb⟩; replace hL := hL.ext hb; clear hb)
        | ((with_reducible refine gate_store rfl ?_); refine wpl_storeN_0 (vs := s.cells.toArray) hL 2 rfl rfl (by kernel_rfl) rfl rfl rfl H1C.out hfit ?_; clear hL; intro w5 hL))
      go_roundg (N - (k + 1))
      case measure => omega
      case rel => exact ⟨k + 1, _, by omega, rfl, by go_num, (splice_size _ _ _ (by exact hfit)).trans HO.out, copy_prefix rfl hfit HF.out HP.out, hL⟩
    · go_wp2
      go_ret
      refine ⟨_, rfl, ?_, hL.toBelow⟩
      have hNk : k = N := by omega
      subst hNk
      exact Sl.of_block HLN.out (by rw [List.length_map]; exact HN.out) hmm (hL.at_ (i := 0) rfl) (fun j hj => HP.out j (by rw [List.length_map, HN.out] at hj; exact hj))

set_option maxRecDepth 100000 in
set_option maxHeartbeats 400000 in
theorem eqSpotS_same (v u : Value) (l : List Sp) (w : World) (hl : Sl w 2 v (l.map Sp.cells)) (hr : Sl w 2 u (l.map Sp.cells)) (h1 : l.length ≤ 1048576) :
    Calls Try.prog 31 #[v, u] w fun e w' => e = .returned (.bool true) ∧ Below w.heap.size w w' := by
  have hL := Own.start w
  have HS := Lib.hid hl
  have HR := Lib.hid hr
  obtain ⟨A, cap, rfl, _, _, _⟩ := hl
  obtain ⟨A', cap', rfl, _, _, _⟩ := hr
  rw [List.length_map] at HS HR ⊢
  obtain ⟨N, hN⟩ : ∃ N, l.length = N := ⟨_, rfl⟩
  have HN := Lib.hid hN
  rw [hN] at h1 HS HR ⊢
  clear hN
  go_enter Try.func31, Try.ntmps31
  go_wp2
  go_loopg [5] N (fun n i wr => ∃ (k : Nat), k ≤ N ∧ n = N - k ∧ i = .int .i64 k ∧ Own w.heap.size [] w wr [])
  case atStart => exact ⟨0, by omega, rfl, rfl, hL⟩
  case round =>
    clear hL
    obtain ⟨k, hk, rfl, rfl, hL⟩ := hrel
    by_cases hlt : k < N
    · have HS2 := HS.out.below hL.toBelow
      have HR2 := HR.out.below hL.toBelow
      obtain ⟨A2, cap2, hv2, _, _, hel⟩ := HS2
      obtain ⟨A3, cap3, hv3, _, _, hel3⟩ := HR2
      injection hv2 with hA hn2 hc2
      injection hv3 with hA' hn3 hc3
      obtain ⟨s, hs⟩ : ∃ s, l[k]? = some s := ⟨_, List.getElem?_eq_getElem (by have := HN.out; omega)⟩
      have hmap : (l.map Sp.cells)[k]? = some s.cells := by rw [List.getElem?_map, hs]; rfl
      obtain ⟨hcl, b, off, hA2, hcell⟩ := hel k _ hmap
      obtain ⟨_, b', off', hA3, hcell3⟩ := hel3 k _ hmap
      have HC := Lib.hid hcell
      have HC3 := Lib.hid hcell3
      obtain rfl : A = some ⟨b, off, none⟩ := hA.trans hA2
      obtain rfl : A' = some ⟨b', off', none⟩ := hA'.trans hA3
      clear hel hel3 hmap hs hA hA' hn2 hn3 hc2 hc3 hA2 hA3 hcell hcell3
      have hi1 : (k : Int) < (N : Int) := by omega
      go_wp2
      refine' Calm.wp_region_calm_lit [.inl _, .inl _, .inl _, .inl _, .inl _, .inl _, .inl _, .inl _, .inl (.bool true), .inl _] (by kernel_rfl) (by kernel_rfl) (by kernel_rfl) ?_
      rotate_left 9
      refine lex_move rfl rfl (by simp only [Act.eval, Array.getD_eq_getD_getElem?, List.getElem?_toArray, List.getElem?_cons_zero, List.getElem?_cons_succ, Option.getD_some]; rfl) rfl ?_
      (try simp only [Act.put, Act.eval, Array.getD_eq_getD_getElem?, List.setIfInBounds_toArray, List.set_cons_zero, List.set_cons_succ, List.getElem?_toArray, List.getElem?_cons_zero, List.getElem?_cons_succ, Option.getD_some, List.getElem_toArray, List.getElem_cons_zero, List.getElem_cons_succ])
      refine lex_move rfl rfl (by simp only [Act.eval, Array.getD_eq_getD_getElem?, List.getElem?_toArray, List.getElem?_cons_zero, List.getElem?_cons_succ, Option.getD_some]; rfl) rfl ?_
      (try simp only [Act.put, Act.eval, Array.getD_eq_getD_getElem?, List.setIfInBounds_toArray, List.set_cons_zero, List.set_cons_succ, List.getElem?_toArray, List.getElem?_cons_zero, List.getElem?_cons_succ, Option.getD_some, List.getElem_toArray, List.getElem_cons_zero, List.getElem_cons_succ])
      refine lex_pure rfl rfl (by intro w'; go_simp; (try go_bits); rfl) ?_
      (try simp only [Act.put, Act.eval, Array.getD_eq_getD_getElem?, List.setIfInBounds_toArray, List.set_cons_zero, List.set_cons_succ, List.getElem?_toArray, List.getElem?_cons_zero, List.getElem?_cons_succ, Option.getD_some, List.getElem_toArray, List.getElem_cons_zero, List.getElem_cons_succ])
      refine lex_loadA _ rfl rfl (by kernel_rfl) rfl (c := s.cells) HC.out rfl (by kernel_rfl) (by rfl) rfl ?_
      (try simp only [Act.put, Act.eval, Array.getD_eq_getD_getElem?, List.setIfInBounds_toArray, List.set_cons_zero, List.set_cons_succ, List.getElem?_toArray, List.getElem?_cons_zero, List.getElem?_cons_succ, Option.getD_some, List.getElem_toArray, List.getElem_cons_zero, List.getElem_cons_succ])
      refine lex_move rfl rfl (by simp only [Act.eval, Array.getD_eq_getD_getElem?, List.getElem?_toArray, List.getElem?_cons_zero, List.getElem?_cons_succ, Option.getD_some]; rfl) rfl ?_
      (try simp only [Act.put, Act.eval, Array.getD_eq_getD_getElem?, List.setIfInBounds_toArray, List.set_cons_zero, List.set_cons_succ, List.getElem?_toArray, List.getElem?_cons_zero, List.getElem?_cons_succ, Option.getD_some, List.getElem_toArray, List.getElem_cons_zero, List.getElem_cons_succ])
      refine lex_move rfl rfl (by simp only [Act.eval, Array.getD_eq_getD_getElem?, List.getElem?_toArray, List.getElem?_cons_zero, List.getElem?_cons_succ, Option.getD_some]; rfl) rfl ?_
      (try simp only [Act.put, Act.eval, Array.getD_eq_getD_getElem?, List.setIfInBounds_toArray, List.set_cons_zero, List.set_cons_succ, List.getElem?_toArray, List.getElem?_cons_zero, List.getElem?_cons_succ, Option.getD_some, List.getElem_toArray, List.getElem_cons_zero, List.getElem_cons_succ])
      refine lex_pure rfl rfl (by intro w'; go_simp; (try go_bits); rfl) ?_
      (try simp only [Act.put, Act.eval, Array.getD_eq_getD_getElem?, List.setIfInBounds_toArray, List.set_cons_zero, List.set_cons_succ, List.getElem?_toArray, List.getElem?_cons_zero, List.getElem?_cons_succ, Option.getD_some, List.getElem_toArray, List.getElem_cons_zero, List.getElem_cons_succ])
      refine lex_loadA _ rfl rfl (by kernel_rfl) rfl (c := s.cells) HC3.out rfl (by kernel_rfl) (by rfl) rfl ?_
      (try simp only [Act.put, Act.eval, Array.getD_eq_getD_getElem?, List.setIfInBounds_toArray, List.set_cons_zero, List.set_cons_succ, List.getElem?_toArray, List.getElem?_cons_zero, List.getElem?_cons_succ, Option.getD_some, List.getElem_toArray, List.getElem_cons_zero, List.getElem_cons_succ])
      refine lex_call Try.func62 (by kernel_rfl) rfl rfl rfl (by simp only [List.map_toArray, List.map_cons, List.map_nil, Act.eval, Array.getD_eq_getD_getElem?, List.getElem?_toArray, List.getElem?_cons_zero, List.getElem?_cons_succ, Option.getD_some]; try rfl) rfl (fun w' hb => eqSpot_same s.x s.y _) ?_
      (try simp only [Act.put, Act.eval, Array.getD_eq_getD_getElem?, List.setIfInBounds_toArray, List.set_cons_zero, List.set_cons_succ, List.getElem?_toArray, List.getElem?_cons_zero, List.getElem?_cons_succ, Option.getD_some, List.getElem_toArray, List.getElem_cons_zero, List.getElem_cons_succ])
      refine lex_pure rfl rfl (by intro w'; go_simp; (try go_bits); rfl) ?_
      (try simp only [Act.put, Act.eval, Array.getD_eq_getD_getElem?, List.setIfInBounds_toArray, List.set_cons_zero, List.set_cons_succ, List.getElem?_toArray, List.getElem?_cons_zero, List.getElem?_cons_succ, Option.getD_some, List.getElem_toArray, List.getElem_cons_zero, List.getElem_cons_succ])
      intro wc hH
      replace hL := hL.ext hH.below
      clear hH
      go_wp2
      go_roundg (N - (k + 1))
      case measure => omega
      case rel => exact ⟨k + 1, by omega, rfl, by go_num, hL⟩
    · go_wp2
      go_ret
      exact ⟨rfl, hL.toBelow⟩

theorem Sk_cells_len (l : List Sk) : ∀ c ∈ l.map Sk.cells, c.length = 3 := by
  intro c hc
  obtain ⟨s, _, rfl⟩ := List.mem_map.1 hc
  rfl
theorem Sk_cells_one (s : Sk) : ∀ v ∈ s.cells.toArray.toList, v.oneCell' = true := by
  intro v hv
  simp [Sk.cells] at hv
  rcases hv with rfl | rfl | rfl <;> rfl

set_option maxRecDepth 100000 in
theorem szStakeS_any (v : Value) (l : List Sk) (left : Int) (w : World) (hl : Sl w 3 v (l.map Sk.cells)) (h0 : 0 ≤ left) (h1 : left ≤ 1048576) :
    Calls Try.prog 70 #[v, .int .i64 left] w fun e w' => e = .returned (.int .i64 (if (l.length : Int) ≤ left then left - l.length else -1)) ∧ w = w' := by
  obtain ⟨A, cap, rfl, hc, hm, _⟩ := hl
  rw [List.length_map] at hc ⊢
  unfold maxLen at hm
  by_cases h : (l.length : Int) ≤ left
  · have hd : decide (left - (l.length : Int) < 0) = false := by simp; omega
    rw [if_pos h]
    go_enter Try.func70, Try.ntmps70
    go_wp2
    go_ret
    exact ⟨rfl, rfl⟩
  · have hd : decide (left - (l.length : Int) < 0) = true := by simp; omega
    rw [if_neg h]
    go_enter Try.func70, Try.ntmps70
    go_wp2
    go_ret
    exact ⟨rfl, rfl⟩

set_option maxRecDepth 100000 in
set_option maxHeartbeats 400000 in
theorem toStakeS_any (v : Value) (l : List Sk) (w : World) (hl : Sl w 3 v (l.map Sk.cells)) (h1 : l.length ≤ 1048576) :
    Calls Try.prog 72 #[v] w fun e w' => ∃ u, e = .returned u ∧ Sl w' 3 u (l.map Sk.cells) ∧ Below w.heap.size w w' := by
  have hL := Own.start w
  have HS := Lib.hid hl
  have HLN := Lib.hid (Sk_cells_len l)
  obtain ⟨A, cap, rfl, hc, hm, _⟩ := hl
  rw [List.length_map] at hc HS ⊢
  have hmm : l.length ≤ maxLen := by unfold maxLen; omega
  clear hc hm
  obtain ⟨N, hN⟩ : ∃ N, l.length = N := ⟨_, rfl⟩
  have HN := Lib.hid hN
  rw [hN] at h1 hmm HS ⊢
  clear hN
  go_enter Try.func72, Try.ntmps72
  go_wp2_with (first
    | (at_make; refine wpl_make (size := 3) (bytes := 4) (z := .agg #[.int .i8 0, .int .i8 0, .int .i16 0]) hL rfl rfl Try.underlying97 (by kernel_rfl) rfl rfl (by omega) hmm ?_; clear hL; intro g7 c7 w7 hs7 hL; have HS7 := Lib.hid hs7; clear hs7))
  go_loopg [4] N (fun n i wr => ∃ (k : Nat) (o : Array Value), k ≤ N ∧ n = N - k ∧ i = .int .i64 k ∧ Hid (o.size = N * 3) ∧ Hid (∀ j, j < k * 3 → o[j]? = (l.map Sk.cells).flatten[j]?) ∧ Own w.heap.size [] w wr [(g7, 52, o)])
  case atStart => exact ⟨0, _, by omega, rfl, rfl, HS7.out, (fun j hj => by omega : ∀ j, j < 0 * 3 → _), hL⟩
  case round =>
    clear hL
    obtain ⟨k, o, hk, rfl, rfl, HO, HP, hL⟩ := hrel
    by_cases hlt : k < N
    · have HS2 := HS.out.below hL.toBelow
      obtain ⟨A2, cap2, hv2, _, _, hel⟩ := HS2
      injection hv2 with hA hn2 hc2
      obtain ⟨s, hs⟩ : ∃ s, l[k]? = some s := ⟨_, List.getElem?_eq_getElem (by have := HN.out; omega)⟩
      have hmap : (l.map Sk.cells)[k]? = some s.cells := by rw [List.getElem?_map, hs]; rfl
      obtain ⟨hcl, b, off, hA2, hcell⟩ := hel k _ hmap
      have hfit : k * 3 + 3 ≤ o.size := by have := HO.out; omega
      have hflat : ∀ j, j < 3 → (l.map Sk.cells).flatten[k * 3 + j]? = s.cells[j]? := fun j hj => flat_get _ HLN.out k _ hmap j hj
      have HF := Lib.hid hflat
      have HC := Lib.hid hcell
      have h1c := Sk_cells_one s
      have H1C := Lib.hid h1c
      obtain rfl : A = some ⟨b, off, none⟩ := hA.trans hA2
      clear hel hmap hs hA hn2 hc2 hA2 hflat hcell h1c
      go_wp2_with (first
        | ((with_reducible refine gate_load rfl ?_); refine wpl_loadA 3 rfl rfl (by kernel_rfl) rfl (c := s.cells) HC.out (by kernel_rfl) rfl ?_)
        | (go_at_call 37; (refine (toStake_any s.x s.y s.r _).mono ?_); rintro e w4 ⟨rfl, hb⟩; replace hL := hL.ext hb; clear hb)
        | ((with_reducible refine gate_store rfl ?_); refine wpl_storeN_0 (vs := s.cells.toArray) hL 3 rfl rfl (by kernel_rfl) rfl rfl rfl H1C.out hfit ?_; clear hL; intro w5 hL))
      go_roundg (N - (k + 1))
      case measure => omega
      case rel => exact ⟨k + 1, _, by omega, rfl, by go_num, (splice_size _ _ _ (by exact hfit)).trans HO.out, copy_prefix rfl hfit HF.out HP.out, hL⟩
    · go_wp2
      go_ret
      refine ⟨_, rfl, ?_, hL.toBelow⟩
      have hNk : k = N := by omega
      subst hNk
      exact Sl.of_block HLN.out (by rw [List.length_map]; exact HN.out) hmm (hL.at_ (i := 0) rfl) (fun j hj => HP.out j (by rw [List.length_map, HN.out] at hj; exact hj))

set_option maxRecDepth 100000 in
set_option maxHeartbeats 400000 in
theorem eqStakeS_same (v u : Value) (l : List Sk) (w : World) (hl : Sl w 3 v (l.map Sk.cells)) (hr : Sl w 3 u (l.map Sk.cells)) (h1 : l.length ≤ 1048576) :
    Calls Try.prog 74 #[v, u] w fun e w' => e = .returned (.bool true) ∧ Below w.heap.size w w' := by
  have hL := Own.start w
  have HS := Lib.hid hl
  have HR := Lib.hid hr
  obtain ⟨A, cap, rfl, _, _, _⟩ := hl
  obtain ⟨A', cap', rfl, _, _, _⟩ := hr
  rw [List.length_map] at HS HR ⊢
  obtain ⟨N, hN⟩ : ∃ N, l.length = N := ⟨_, rfl⟩
  have HN := Lib.hid hN
  rw [hN] at h1 HS HR ⊢
  clear hN
  go_enter Try.func74, Try.ntmps74
  go_wp2
  go_loopg [5] N (fun n i wr => ∃ (k : Nat), k ≤ N ∧ n = N - k ∧ i = .int .i64 k ∧ Own w.heap.size [] w wr [])
  case atStart => exact ⟨0, by omega, rfl, rfl, hL⟩
  case round =>
    clear hL
    obtain ⟨k, hk, rfl, rfl, hL⟩ := hrel
    by_cases hlt : k < N
    · have HS2 := HS.out.below hL.toBelow
      have HR2 := HR.out.below hL.toBelow
      obtain ⟨A2, cap2, hv2, _, _, hel⟩ := HS2
      obtain ⟨A3, cap3, hv3, _, _, hel3⟩ := HR2
      injection hv2 with hA hn2 hc2
      injection hv3 with hA' hn3 hc3
      obtain ⟨s, hs⟩ : ∃ s, l[k]? = some s := ⟨_, List.getElem?_eq_getElem (by have := HN.out; omega)⟩
      have hmap : (l.map Sk.cells)[k]? = some s.cells := by rw [List.getElem?_map, hs]; rfl
      obtain ⟨hcl, b, off, hA2, hcell⟩ := hel k _ hmap
      obtain ⟨_, b', off', hA3, hcell3⟩ := hel3 k _ hmap
      have HC := Lib.hid hcell
      have HC3 := Lib.hid hcell3
      obtain rfl : A = some ⟨b, off, none⟩ := hA.trans hA2
      obtain rfl : A' = some ⟨b', off', none⟩ := hA'.trans hA3
      clear hel hel3 hmap hs hA hA' hn2 hn3 hc2 hc3 hA2 hA3 hcell hcell3
      have hi1 : (k : Int) < (N : Int) := by omega
      go_wp2
      refine' Calm.wp_region_calm_lit [.inl _, .inl _, .inl _, .inl _, .inl _, .inl _, .inl _, .inl _, .inl (.bool true), .inl _] (by kernel_rfl) (by kernel_rfl) (by kernel_rfl) ?_
      rotate_left 9
      refine lex_move rfl rfl (by simp only [Act.eval, Array.getD_eq_getD_getElem?, List.getElem?_toArray, List.getElem?_cons_zero, List.getElem?_cons_succ, Option.getD_some]; rfl) rfl ?_
      (try simp only [Act.put, Act.eval, Array.getD_eq_getD_getElem?, List.setIfInBounds_toArray, List.set_cons_zero, List.set_cons_succ, List.getElem?_toArray, List.getElem?_cons_zero, List.getElem?_cons_succ, Option.getD_some, List.getElem_toArray, List.getElem_cons_zero, List.getElem_cons_succ])
      refine lex_move rfl rfl (by simp only [Act.eval, Array.getD_eq_getD_getElem?, List.getElem?_toArray, List.getElem?_cons_zero, List.getElem?_cons_succ, Option.getD_some]; rfl) rfl ?_
      (try simp only [Act.put, Act.eval, Array.getD_eq_getD_getElem?, List.setIfInBounds_toArray, List.set_cons_zero, List.set_cons_succ, List.getElem?_toArray, List.getElem?_cons_zero, List.getElem?_cons_succ, Option.getD_some, List.getElem_toArray, List.getElem_cons_zero, List.getElem_cons_succ])
      refine lex_pure rfl rfl (by intro w'; go_simp; (try go_bits); rfl) ?_
      (try simp only [Act.put, Act.eval, Array.getD_eq_getD_getElem?, List.setIfInBounds_toArray, List.set_cons_zero, List.set_cons_succ, List.getElem?_toArray, List.getElem?_cons_zero, List.getElem?_cons_succ, Option.getD_some, List.getElem_toArray, List.getElem_cons_zero, List.getElem_cons_succ])
      refine lex_loadA _ rfl rfl (by kernel_rfl) rfl (c := s.cells) HC.out rfl (by kernel_rfl) (by rfl) rfl ?_
      (try simp only [Act.put, Act.eval, Array.getD_eq_getD_getElem?, List.setIfInBounds_toArray, List.set_cons_zero, List.set_cons_succ, List.getElem?_toArray, List.getElem?_cons_zero, List.getElem?_cons_succ, Option.getD_some, List.getElem_toArray, List.getElem_cons_zero, List.getElem_cons_succ])
      refine lex_move rfl rfl (by simp only [Act.eval, Array.getD_eq_getD_getElem?, List.getElem?_toArray, List.getElem?_cons_zero, List.getElem?_cons_succ, Option.getD_some]; rfl) rfl ?_
      (try simp only [Act.put, Act.eval, Array.getD_eq_getD_getElem?, List.setIfInBounds_toArray, List.set_cons_zero, List.set_cons_succ, List.getElem?_toArray, List.getElem?_cons_zero, List.getElem?_cons_succ, Option.getD_some, List.getElem_toArray, List.getElem_cons_zero, List.getElem_cons_succ])
      refine lex_move rfl rfl (by simp only [Act.eval, Array.getD_eq_getD_getElem?, List.getElem?_toArray, List.getElem?_cons_zero, List.getElem?_cons_succ, Option.getD_some]; rfl) rfl ?_
      (try simp only [Act.put, Act.eval, Array.getD_eq_getD_getElem?, List.setIfInBounds_toArray, List.set_cons_zero, List.set_cons_succ, List.getElem?_toArray, List.getElem?_cons_zero, List.getElem?_cons_succ, Option.getD_some, List.getElem_toArray, List.getElem_cons_zero, List.getElem_cons_succ])
      refine lex_pure rfl rfl (by intro w'; go_simp; (try go_bits); rfl) ?_
      (try simp only [Act.put, Act.eval, Array.getD_eq_getD_getElem?, List.setIfInBounds_toArray, List.set_cons_zero, List.set_cons_succ, List.getElem?_toArray, List.getElem?_cons_zero, List.getElem?_cons_succ, Option.getD_some, List.getElem_toArray, List.getElem_cons_zero, List.getElem_cons_succ])
      refine lex_loadA _ rfl rfl (by kernel_rfl) rfl (c := s.cells) HC3.out rfl (by kernel_rfl) (by rfl) rfl ?_
      (try simp only [Act.put, Act.eval, Array.getD_eq_getD_getElem?, List.setIfInBounds_toArray, List.set_cons_zero, List.set_cons_succ, List.getElem?_toArray, List.getElem?_cons_zero, List.getElem?_cons_succ, Option.getD_some, List.getElem_toArray, List.getElem_cons_zero, List.getElem_cons_succ])
      refine lex_call Try.func181 (by kernel_rfl) rfl rfl rfl (by simp only [List.map_toArray, List.map_cons, List.map_nil, Act.eval, Array.getD_eq_getD_getElem?, List.getElem?_toArray, List.getElem?_cons_zero, List.getElem?_cons_succ, Option.getD_some]; try rfl) rfl (fun w' hb => eqStake_same s.x s.y s.r _) ?_
      (try simp only [Act.put, Act.eval, Array.getD_eq_getD_getElem?, List.setIfInBounds_toArray, List.set_cons_zero, List.set_cons_succ, List.getElem?_toArray, List.getElem?_cons_zero, List.getElem?_cons_succ, Option.getD_some, List.getElem_toArray, List.getElem_cons_zero, List.getElem_cons_succ])
      refine lex_pure rfl rfl (by intro w'; go_simp; (try go_bits); rfl) ?_
      (try simp only [Act.put, Act.eval, Array.getD_eq_getD_getElem?, List.setIfInBounds_toArray, List.set_cons_zero, List.set_cons_succ, List.getElem?_toArray, List.getElem?_cons_zero, List.getElem?_cons_succ, Option.getD_some, List.getElem_toArray, List.getElem_cons_zero, List.getElem_cons_succ])
      intro wc hH
      replace hL := hL.ext hH.below
      clear hH
      go_wp2
      go_roundg (N - (k + 1))
      case measure => omega
      case rel => exact ⟨k + 1, by omega, rfl, by go_num, hL⟩
    · go_wp2
      go_ret
      exact ⟨rfl, hL.toBelow⟩

theorem Gt_cells_len (l : List Gt) : ∀ c ∈ l.map Gt.cells, c.length = 7 := by
  intro c hc
  obtain ⟨s, _, rfl⟩ := List.mem_map.1 hc
  rfl
theorem Gt_cells_one (s : Gt) : ∀ v ∈ s.cells.toArray.toList, v.oneCell' = true := by
  intro v hv
  simp [Gt.cells] at hv
  rcases hv with rfl | rfl | rfl | rfl | rfl | rfl | rfl <;> rfl

set_option maxRecDepth 100000 in
theorem szGoatS_any (v : Value) (l : List Gt) (left : Int) (w : World) (hl : Sl w 7 v (l.map Gt.cells)) (h0 : 0 ≤ left) (h1 : left ≤ 1048576) :
    Calls Try.prog 79 #[v, .int .i64 left] w fun e w' => e = .returned (.int .i64 (if (l.length : Int) ≤ left then left - l.length else -1)) ∧ w = w' := by
  obtain ⟨A, cap, rfl, hc, hm, _⟩ := hl
  rw [List.length_map] at hc ⊢
  unfold maxLen at hm
  by_cases h : (l.length : Int) ≤ left
  · have hd : decide (left - (l.length : Int) < 0) = false := by simp; omega
    rw [if_pos h]
    go_enter Try.func79, Try.ntmps79
    go_wp2
    go_ret
    exact ⟨rfl, rfl⟩
  · have hd : decide (left - (l.length : Int) < 0) = true := by simp; omega
    rw [if_neg h]
    go_enter Try.func79, Try.ntmps79
    go_wp2
    go_ret
    exact ⟨rfl, rfl⟩

set_option maxRecDepth 100000 in
set_option maxHeartbeats 400000 in
theorem toGoatS_any (v : Value) (l : List Gt) (w : World) (hl : Sl w 7 v (l.map Gt.cells)) (h1 : l.length ≤ 1048576) :
    Calls Try.prog 81 #[v] w fun e w' => ∃ u, e = .returned u ∧ Sl w' 7 u (l.map Gt.cells) ∧ Below w.heap.size w w' := by
  have hL := Own.start w
  have HS := Lib.hid hl
  have HLN := Lib.hid (Gt_cells_len l)
  obtain ⟨A, cap, rfl, hc, hm, _⟩ := hl
  rw [List.length_map] at hc HS ⊢
  have hmm : l.length ≤ maxLen := by unfold maxLen; omega
  clear hc hm
  obtain ⟨N, hN⟩ : ∃ N, l.length = N := ⟨_, rfl⟩
  have HN := Lib.hid hN
  rw [hN] at h1 hmm HS ⊢
  clear hN
  go_enter Try.func81, Try.ntmps81
  go_wp2_with (first
    | (at_make; refine wpl_make (size := 7) (bytes := 10) (z := .agg #[.int .i8 0, .int .i8 0, .int .i8 0, .int .i8 0, .int .i16 0, .int .i16 0, .int .i8 0]) hL rfl rfl Try.underlying111 (by kernel_rfl) rfl rfl (by omega) hmm ?_; clear hL; intro g7 c7 w7 hs7 hL; have HS7 := Lib.hid hs7; clear hs7))
  go_loopg [4] N (fun n i wr => ∃ (k : Nat) (o : Array Value), k ≤ N ∧ n = N - k ∧ i = .int .i64 k ∧ Hid (o.size = N * 7) ∧ Hid (∀ j, j < k * 7 → o[j]? = (l.map Gt.cells).flatten[j]?) ∧ Own w.heap.size [] w wr [(g7, 63, o)])
  case atStart => exact ⟨0, _, by omega, rfl, rfl, HS7.out, (fun j hj => by omega : ∀ j, j < 0 * 7 → _), hL⟩
  case round =>
    clear hL
    obtain ⟨k, o, hk, rfl, rfl, HO, HP, hL⟩ := hrel
    by_cases hlt : k < N
    · have HS2 := HS.out.below hL.toBelow
      obtain ⟨A2, cap2, hv2, _, _, hel⟩ := HS2
      injection hv2 with hA hn2 hc2
      obtain ⟨s, hs⟩ : ∃ s, l[k]? = some s := ⟨_, List.getElem?_eq_getElem (by have := HN.out; omega)⟩
      have hmap : (l.map Gt.cells)[k]? = some s.cells := by rw [List.getElem?_map, hs]; rfl
      obtain ⟨hcl, b, off, hA2, hcell⟩ := hel k _ hmap
      have hfit : k * 7 + 7 ≤ o.size := by have := HO.out; omega
      have hflat : ∀ j, j < 7 → (l.map Gt.cells).flatten[k * 7 + j]? = s.cells[j]? := fun j hj => flat_get _ HLN.out k _ hmap j hj
      have HF := Lib.hid hflat
      have HC := Lib.hid hcell
      have h1c := Gt_cells_one s
      have H1C := Lib.hid h1c
      obtain rfl : A = some ⟨b, off, none⟩ := hA.trans hA2
      clear hel hmap hs hA hn2 hc2 hA2 hflat hcell h1c
      go_wp2_with (first
        | ((with_reducible refine gate_load rfl ?_); refine wpl_loadA 7 rfl rfl (by kernel_rfl) rfl (c := s.cells) HC.out (by kernel_rfl) rfl ?_)
        | (go_at_call 46; (refine (toGoat_any s.x s.y s.u s.v s.rope s.eats s.likes _).mono ?_); rintro e w4 ⟨rfl, hb⟩; replace hL := hL.ext hb; clear hb)
        | ((with_reducible refine gate_store rfl ?_); refine wpl_storeN_0 (vs := s.cells.toArray) hL 7 rfl rfl (by kernel_rfl) rfl rfl rfl H1C.out hfit ?_; clear hL; intro w5 hL))
      go_roundg (N - (k + 1))
      case measure => omega
      case rel => exact ⟨k + 1, _, by omega, rfl, by go_num, (splice_size _ _ _ (by exact hfit)).trans HO.out, copy_prefix rfl hfit HF.out HP.out, hL⟩
    · go_wp2
      go_ret
      refine ⟨_, rfl, ?_, hL.toBelow⟩
      have hNk : k = N := by omega
      subst hNk
      exact Sl.of_block HLN.out (by rw [List.length_map]; exact HN.out) hmm (hL.at_ (i := 0) rfl) (fun j hj => HP.out j (by rw [List.length_map, HN.out] at hj; exact hj))

set_option maxRecDepth 100000 in
set_option maxHeartbeats 400000 in
theorem eqGoatS_same (v u : Value) (l : List Gt) (w : World) (hl : Sl w 7 v (l.map Gt.cells)) (hr : Sl w 7 u (l.map Gt.cells)) (h1 : l.length ≤ 1048576) :
    Calls Try.prog 84 #[v, u] w fun e w' => e = .returned (.bool true) ∧ Below w.heap.size w w' := by
  have hL := Own.start w
  have HS := Lib.hid hl
  have HR := Lib.hid hr
  obtain ⟨A, cap, rfl, _, _, _⟩ := hl
  obtain ⟨A', cap', rfl, _, _, _⟩ := hr
  rw [List.length_map] at HS HR ⊢
  obtain ⟨N, hN⟩ : ∃ N, l.length = N := ⟨_, rfl⟩
  have HN := Lib.hid hN
  rw [hN] at h1 HS HR ⊢
  clear hN
  go_enter Try.func84, Try.ntmps84
  go_wp2
  go_loopg [5] N (fun n i wr => ∃ (k : Nat), k ≤ N ∧ n = N - k ∧ i = .int .i64 k ∧ Own w.heap.size [] w wr [])
  case atStart => exact ⟨0, by omega, rfl, rfl, hL⟩
  case round =>
    clear hL
    obtain ⟨k, hk, rfl, rfl, hL⟩ := hrel
    by_cases hlt : k < N
    · have HS2 := HS.out.below hL.toBelow
      have HR2 := HR.out.below hL.toBelow
      obtain ⟨A2, cap2, hv2, _, _, hel⟩ := HS2
      obtain ⟨A3, cap3, hv3, _, _, hel3⟩ := HR2
      injection hv2 with hA hn2 hc2
      injection hv3 with hA' hn3 hc3
      obtain ⟨s, hs⟩ : ∃ s, l[k]? = some s := ⟨_, List.getElem?_eq_getElem (by have := HN.out; omega)⟩
      have hmap : (l.map Gt.cells)[k]? = some s.cells := by rw [List.getElem?_map, hs]; rfl
      obtain ⟨hcl, b, off, hA2, hcell⟩ := hel k _ hmap
      obtain ⟨_, b', off', hA3, hcell3⟩ := hel3 k _ hmap
      have HC := Lib.hid hcell
      have HC3 := Lib.hid hcell3
      obtain rfl : A = some ⟨b, off, none⟩ := hA.trans hA2
      obtain rfl : A' = some ⟨b', off', none⟩ := hA'.trans hA3
      clear hel hel3 hmap hs hA hA' hn2 hn3 hc2 hc3 hA2 hA3 hcell hcell3
      have hi1 : (k : Int) < (N : Int) := by omega
      go_wp2
      refine' Calm.wp_region_calm_lit [.inl _, .inl _, .inl _, .inl _, .inl _, .inl _, .inl _, .inl _, .inl (.bool true), .inl _] (by kernel_rfl) (by kernel_rfl) (by kernel_rfl) ?_
      rotate_left 9
      refine lex_move rfl rfl (by simp only [Act.eval, Array.getD_eq_getD_getElem?, List.getElem?_toArray, List.getElem?_cons_zero, List.getElem?_cons_succ, Option.getD_some]; rfl) rfl ?_
      (try simp only [Act.put, Act.eval, Array.getD_eq_getD_getElem?, List.setIfInBounds_toArray, List.set_cons_zero, List.set_cons_succ, List.getElem?_toArray, List.getElem?_cons_zero, List.getElem?_cons_succ, Option.getD_some, List.getElem_toArray, List.getElem_cons_zero, List.getElem_cons_succ])
      refine lex_move rfl rfl (by simp only [Act.eval, Array.getD_eq_getD_getElem?, List.getElem?_toArray, List.getElem?_cons_zero, List.getElem?_cons_succ, Option.getD_some]; rfl) rfl ?_
      (try simp only [Act.put, Act.eval, Array.getD_eq_getD_getElem?, List.setIfInBounds_toArray, List.set_cons_zero, List.set_cons_succ, List.getElem?_toArray, List.getElem?_cons_zero, List.getElem?_cons_succ, Option.getD_some, List.getElem_toArray, List.getElem_cons_zero, List.getElem_cons_succ])
      refine lex_pure rfl rfl (by intro w'; go_simp; (try go_bits); rfl) ?_
      (try simp only [Act.put, Act.eval, Array.getD_eq_getD_getElem?, List.setIfInBounds_toArray, List.set_cons_zero, List.set_cons_succ, List.getElem?_toArray, List.getElem?_cons_zero, List.getElem?_cons_succ, Option.getD_some, List.getElem_toArray, List.getElem_cons_zero, List.getElem_cons_succ])
      refine lex_loadA _ rfl rfl (by kernel_rfl) rfl (c := s.cells) HC.out rfl (by kernel_rfl) (by rfl) rfl ?_
      (try simp only [Act.put, Act.eval, Array.getD_eq_getD_getElem?, List.setIfInBounds_toArray, List.set_cons_zero, List.set_cons_succ, List.getElem?_toArray, List.getElem?_cons_zero, List.getElem?_cons_succ, Option.getD_some, List.getElem_toArray, List.getElem_cons_zero, List.getElem_cons_succ])
      refine lex_move rfl rfl (by simp only [Act.eval, Array.getD_eq_getD_getElem?, List.getElem?_toArray, List.getElem?_cons_zero, List.getElem?_cons_succ, Option.getD_some]; rfl) rfl ?_
      (try simp only [Act.put, Act.eval, Array.getD_eq_getD_getElem?, List.setIfInBounds_toArray, List.set_cons_zero, List.set_cons_succ, List.getElem?_toArray, List.getElem?_cons_zero, List.getElem?_cons_succ, Option.getD_some, List.getElem_toArray, List.getElem_cons_zero, List.getElem_cons_succ])
      refine lex_move rfl rfl (by simp only [Act.eval, Array.getD_eq_getD_getElem?, List.getElem?_toArray, List.getElem?_cons_zero, List.getElem?_cons_succ, Option.getD_some]; rfl) rfl ?_
      (try simp only [Act.put, Act.eval, Array.getD_eq_getD_getElem?, List.setIfInBounds_toArray, List.set_cons_zero, List.set_cons_succ, List.getElem?_toArray, List.getElem?_cons_zero, List.getElem?_cons_succ, Option.getD_some, List.getElem_toArray, List.getElem_cons_zero, List.getElem_cons_succ])
      refine lex_pure rfl rfl (by intro w'; go_simp; (try go_bits); rfl) ?_
      (try simp only [Act.put, Act.eval, Array.getD_eq_getD_getElem?, List.setIfInBounds_toArray, List.set_cons_zero, List.set_cons_succ, List.getElem?_toArray, List.getElem?_cons_zero, List.getElem?_cons_succ, Option.getD_some, List.getElem_toArray, List.getElem_cons_zero, List.getElem_cons_succ])
      refine lex_loadA _ rfl rfl (by kernel_rfl) rfl (c := s.cells) HC3.out rfl (by kernel_rfl) (by rfl) rfl ?_
      (try simp only [Act.put, Act.eval, Array.getD_eq_getD_getElem?, List.setIfInBounds_toArray, List.set_cons_zero, List.set_cons_succ, List.getElem?_toArray, List.getElem?_cons_zero, List.getElem?_cons_succ, Option.getD_some, List.getElem_toArray, List.getElem_cons_zero, List.getElem_cons_succ])
      refine lex_call Try.func189 (by kernel_rfl) rfl rfl rfl (by simp only [List.map_toArray, List.map_cons, List.map_nil, Act.eval, Array.getD_eq_getD_getElem?, List.getElem?_toArray, List.getElem?_cons_zero, List.getElem?_cons_succ, Option.getD_some]; try rfl) rfl (fun w' hb => eqGoat_same s.x s.y s.u s.v s.rope s.eats s.likes _) ?_
      (try simp only [Act.put, Act.eval, Array.getD_eq_getD_getElem?, List.setIfInBounds_toArray, List.set_cons_zero, List.set_cons_succ, List.getElem?_toArray, List.getElem?_cons_zero, List.getElem?_cons_succ, Option.getD_some, List.getElem_toArray, List.getElem_cons_zero, List.getElem_cons_succ])
      refine lex_pure rfl rfl (by intro w'; go_simp; (try go_bits); rfl) ?_
      (try simp only [Act.put, Act.eval, Array.getD_eq_getD_getElem?, List.setIfInBounds_toArray, List.set_cons_zero, List.set_cons_succ, List.getElem?_toArray, List.getElem?_cons_zero, List.getElem?_cons_succ, Option.getD_some, List.getElem_toArray, List.getElem_cons_zero, List.getElem_cons_succ])
      intro wc hH
      replace hL := hL.ext hH.below
      clear hH
      go_wp2
      go_roundg (N - (k + 1))
      case measure => omega
      case rel => exact ⟨k + 1, by omega, rfl, by go_num, hL⟩
    · go_wp2
      go_ret
      exact ⟨rfl, hL.toBelow⟩

theorem Hd_cells_len (l : List Hd) : ∀ c ∈ l.map Hd.cells, c.length = 3 := by
  intro c hc
  obtain ⟨s, _, rfl⟩ := List.mem_map.1 hc
  rfl
theorem Hd_cells_one (s : Hd) : ∀ v ∈ s.cells.toArray.toList, v.oneCell' = true := by
  intro v hv
  simp [Hd.cells] at hv
  rcases hv with rfl | rfl | rfl <;> rfl

set_option maxRecDepth 100000 in
theorem szHurdleS_any (v : Value) (l : List Hd) (left : Int) (w : World) (hl : Sl w 3 v (l.map Hd.cells)) (h0 : 0 ≤ left) (h1 : left ≤ 1048576) :
    Calls Try.prog 75 #[v, .int .i64 left] w fun e w' => e = .returned (.int .i64 (if (l.length : Int) ≤ left then left - l.length else -1)) ∧ w = w' := by
  obtain ⟨A, cap, rfl, hc, hm, _⟩ := hl
  rw [List.length_map] at hc ⊢
  unfold maxLen at hm
  by_cases h : (l.length : Int) ≤ left
  · have hd : decide (left - (l.length : Int) < 0) = false := by simp; omega
    rw [if_pos h]
    go_enter Try.func75, Try.ntmps75
    go_wp2
    go_ret
    exact ⟨rfl, rfl⟩
  · have hd : decide (left - (l.length : Int) < 0) = true := by simp; omega
    rw [if_neg h]
    go_enter Try.func75, Try.ntmps75
    go_wp2
    go_ret
    exact ⟨rfl, rfl⟩

set_option maxRecDepth 100000 in
set_option maxHeartbeats 400000 in
theorem toHurdleS_any (v : Value) (l : List Hd) (w : World) (hl : Sl w 3 v (l.map Hd.cells)) (h1 : l.length ≤ 1048576) :
    Calls Try.prog 77 #[v] w fun e w' => ∃ u, e = .returned u ∧ Sl w' 3 u (l.map Hd.cells) ∧ Below w.heap.size w w' := by
  have hL := Own.start w
  have HS := Lib.hid hl
  have HLN := Lib.hid (Hd_cells_len l)
  obtain ⟨A, cap, rfl, hc, hm, _⟩ := hl
  rw [List.length_map] at hc HS ⊢
  have hmm : l.length ≤ maxLen := by unfold maxLen; omega
  clear hc hm
  obtain ⟨N, hN⟩ : ∃ N, l.length = N := ⟨_, rfl⟩
  have HN := Lib.hid hN
  rw [hN] at h1 hmm HS ⊢
  clear hN
  go_enter Try.func77, Try.ntmps77
  go_wp2_with (first
    | (at_make; refine wpl_make (size := 3) (bytes := 3) (z := .agg #[.int .i8 0, .int .i8 0, .bool false]) hL rfl rfl Try.underlying66 (by kernel_rfl) rfl rfl (by omega) hmm ?_; clear hL; intro g7 c7 w7 hs7 hL; have HS7 := Lib.hid hs7; clear hs7))
  go_loopg [4] N (fun n i wr => ∃ (k : Nat) (o : Array Value), k ≤ N ∧ n = N - k ∧ i = .int .i64 k ∧ Hid (o.size = N * 3) ∧ Hid (∀ j, j < k * 3 → o[j]? = (l.map Hd.cells).flatten[j]?) ∧ Own w.heap.size [] w wr [(g7, 75, o)])
  case atStart => exact ⟨0, _, by omega, rfl, rfl, HS7.out, (fun j hj => by omega : ∀ j, j < 0 * 3 → _), hL⟩
  case round =>
    clear hL
    obtain ⟨k, o, hk, rfl, rfl, HO, HP, hL⟩ := hrel
    by_cases hlt : k < N
    · have HS2 := HS.out.below hL.toBelow
      obtain ⟨A2, cap2, hv2, _, _, hel⟩ := HS2
      injection hv2 with hA hn2 hc2
      obtain ⟨s, hs⟩ : ∃ s, l[k]? = some s := ⟨_, List.getElem?_eq_getElem (by have := HN.out; omega)⟩
      have hmap : (l.map Hd.cells)[k]? = some s.cells := by rw [List.getElem?_map, hs]; rfl
      obtain ⟨hcl, b, off, hA2, hcell⟩ := hel k _ hmap
      have hfit : k * 3 + 3 ≤ o.size := by have := HO.out; omega
      have hflat : ∀ j, j < 3 → (l.map Hd.cells).flatten[k * 3 + j]? = s.cells[j]? := fun j hj => flat_get _ HLN.out k _ hmap j hj
      have HF := Lib.hid hflat
      have HC := Lib.hid hcell
      have h1c := Hd_cells_one s
      have H1C := Lib.hid h1c
      obtain rfl : A = some ⟨b, off, none⟩ := hA.trans hA2
      clear hel hmap hs hA hn2 hc2 hA2 hflat hcell h1c
      go_wp2_with (first
        | ((with_reducible refine gate_load rfl ?_); refine wpl_loadA 3 rfl rfl (by kernel_rfl) rfl (c := s.cells) HC.out (by kernel_rfl) rfl ?_)
        | (go_at_call 184; (refine (toHurdle_any s.x s.y s.s _).mono ?_); rintro e w4 ⟨rfl, hb⟩; replace hL := hL.ext hb; clear hb)
        | ((with_reducible refine gate_store rfl ?_); refine wpl_storeN_0 (vs := s.cells.toArray) hL 3 rfl rfl (by kernel_rfl) rfl rfl rfl H1C.out hfit ?_; clear hL; intro w5 hL))
      go_roundg (N - (k + 1))
      case measure => omega
      case rel => exact ⟨k + 1, _, by omega, rfl, by go_num, (splice_size _ _ _ (by exact hfit)).trans HO.out, copy_prefix rfl hfit HF.out HP.out, hL⟩
    · go_wp2
      go_ret
      refine ⟨_, rfl, ?_, hL.toBelow⟩
      have hNk : k = N := by omega
      subst hNk
      exact Sl.of_block HLN.out (by rw [List.length_map]; exact HN.out) hmm (hL.at_ (i := 0) rfl) (fun j hj => HP.out j (by rw [List.length_map, HN.out] at hj; exact hj))

set_option maxRecDepth 100000 in
set_option maxHeartbeats 400000 in
theorem eqHurdleS_same (v u : Value) (l : List Hd) (w : World) (hl : Sl w 3 v (l.map Hd.cells)) (hr : Sl w 3 u (l.map Hd.cells)) (h1 : l.length ≤ 1048576) :
    Calls Try.prog 50 #[v, u] w fun e w' => e = .returned (.bool true) ∧ Below w.heap.size w w' := by
  have hL := Own.start w
  have HS := Lib.hid hl
  have HR := Lib.hid hr
  obtain ⟨A, cap, rfl, _, _, _⟩ := hl
  obtain ⟨A', cap', rfl, _, _, _⟩ := hr
  rw [List.length_map] at HS HR ⊢
  obtain ⟨N, hN⟩ : ∃ N, l.length = N := ⟨_, rfl⟩
  have HN := Lib.hid hN
  rw [hN] at h1 HS HR ⊢
  clear hN
  go_enter Try.func50, Try.ntmps50
  go_wp2
  go_loopg [5] N (fun n i wr => ∃ (k : Nat), k ≤ N ∧ n = N - k ∧ i = .int .i64 k ∧ Own w.heap.size [] w wr [])
  case atStart => exact ⟨0, by omega, rfl, rfl, hL⟩
  case round =>
    clear hL
    obtain ⟨k, hk, rfl, rfl, hL⟩ := hrel
    by_cases hlt : k < N
    · have HS2 := HS.out.below hL.toBelow
      have HR2 := HR.out.below hL.toBelow
      obtain ⟨A2, cap2, hv2, _, _, hel⟩ := HS2
      obtain ⟨A3, cap3, hv3, _, _, hel3⟩ := HR2
      injection hv2 with hA hn2 hc2
      injection hv3 with hA' hn3 hc3
      obtain ⟨s, hs⟩ : ∃ s, l[k]? = some s := ⟨_, List.getElem?_eq_getElem (by have := HN.out; omega)⟩
      have hmap : (l.map Hd.cells)[k]? = some s.cells := by rw [List.getElem?_map, hs]; rfl
      obtain ⟨hcl, b, off, hA2, hcell⟩ := hel k _ hmap
      obtain ⟨_, b', off', hA3, hcell3⟩ := hel3 k _ hmap
      have HC := Lib.hid hcell
      have HC3 := Lib.hid hcell3
      obtain rfl : A = some ⟨b, off, none⟩ := hA.trans hA2
      obtain rfl : A' = some ⟨b', off', none⟩ := hA'.trans hA3
      clear hel hel3 hmap hs hA hA' hn2 hn3 hc2 hc3 hA2 hA3 hcell hcell3
      have hi1 : (k : Int) < (N : Int) := by omega
      go_wp2
      refine' Calm.wp_region_calm_lit [.inl _, .inl _, .inl _, .inl _, .inl _, .inl _, .inl _, .inl _, .inl (.bool true), .inl _] (by kernel_rfl) (by kernel_rfl) (by kernel_rfl) ?_
      rotate_left 9
      refine lex_move rfl rfl (by simp only [Act.eval, Array.getD_eq_getD_getElem?, List.getElem?_toArray, List.getElem?_cons_zero, List.getElem?_cons_succ, Option.getD_some]; rfl) rfl ?_
      (try simp only [Act.put, Act.eval, Array.getD_eq_getD_getElem?, List.setIfInBounds_toArray, List.set_cons_zero, List.set_cons_succ, List.getElem?_toArray, List.getElem?_cons_zero, List.getElem?_cons_succ, Option.getD_some, List.getElem_toArray, List.getElem_cons_zero, List.getElem_cons_succ])
      refine lex_move rfl rfl (by simp only [Act.eval, Array.getD_eq_getD_getElem?, List.getElem?_toArray, List.getElem?_cons_zero, List.getElem?_cons_succ, Option.getD_some]; rfl) rfl ?_
      (try simp only [Act.put, Act.eval, Array.getD_eq_getD_getElem?, List.setIfInBounds_toArray, List.set_cons_zero, List.set_cons_succ, List.getElem?_toArray, List.getElem?_cons_zero, List.getElem?_cons_succ, Option.getD_some, List.getElem_toArray, List.getElem_cons_zero, List.getElem_cons_succ])
      refine lex_pure rfl rfl (by intro w'; go_simp; (try go_bits); rfl) ?_
      (try simp only [Act.put, Act.eval, Array.getD_eq_getD_getElem?, List.setIfInBounds_toArray, List.set_cons_zero, List.set_cons_succ, List.getElem?_toArray, List.getElem?_cons_zero, List.getElem?_cons_succ, Option.getD_some, List.getElem_toArray, List.getElem_cons_zero, List.getElem_cons_succ])
      refine lex_loadA _ rfl rfl (by kernel_rfl) rfl (c := s.cells) HC.out rfl (by kernel_rfl) (by rfl) rfl ?_
      (try simp only [Act.put, Act.eval, Array.getD_eq_getD_getElem?, List.setIfInBounds_toArray, List.set_cons_zero, List.set_cons_succ, List.getElem?_toArray, List.getElem?_cons_zero, List.getElem?_cons_succ, Option.getD_some, List.getElem_toArray, List.getElem_cons_zero, List.getElem_cons_succ])
      refine lex_move rfl rfl (by simp only [Act.eval, Array.getD_eq_getD_getElem?, List.getElem?_toArray, List.getElem?_cons_zero, List.getElem?_cons_succ, Option.getD_some]; rfl) rfl ?_
      (try simp only [Act.put, Act.eval, Array.getD_eq_getD_getElem?, List.setIfInBounds_toArray, List.set_cons_zero, List.set_cons_succ, List.getElem?_toArray, List.getElem?_cons_zero, List.getElem?_cons_succ, Option.getD_some, List.getElem_toArray, List.getElem_cons_zero, List.getElem_cons_succ])
      refine lex_move rfl rfl (by simp only [Act.eval, Array.getD_eq_getD_getElem?, List.getElem?_toArray, List.getElem?_cons_zero, List.getElem?_cons_succ, Option.getD_some]; rfl) rfl ?_
      (try simp only [Act.put, Act.eval, Array.getD_eq_getD_getElem?, List.setIfInBounds_toArray, List.set_cons_zero, List.set_cons_succ, List.getElem?_toArray, List.getElem?_cons_zero, List.getElem?_cons_succ, Option.getD_some, List.getElem_toArray, List.getElem_cons_zero, List.getElem_cons_succ])
      refine lex_pure rfl rfl (by intro w'; go_simp; (try go_bits); rfl) ?_
      (try simp only [Act.put, Act.eval, Array.getD_eq_getD_getElem?, List.setIfInBounds_toArray, List.set_cons_zero, List.set_cons_succ, List.getElem?_toArray, List.getElem?_cons_zero, List.getElem?_cons_succ, Option.getD_some, List.getElem_toArray, List.getElem_cons_zero, List.getElem_cons_succ])
      refine lex_loadA _ rfl rfl (by kernel_rfl) rfl (c := s.cells) HC3.out rfl (by kernel_rfl) (by rfl) rfl ?_
      (try simp only [Act.put, Act.eval, Array.getD_eq_getD_getElem?, List.setIfInBounds_toArray, List.set_cons_zero, List.set_cons_succ, List.getElem?_toArray, List.getElem?_cons_zero, List.getElem?_cons_succ, Option.getD_some, List.getElem_toArray, List.getElem_cons_zero, List.getElem_cons_succ])
      refine lex_call Try.func59 (by kernel_rfl) rfl rfl rfl (by simp only [List.map_toArray, List.map_cons, List.map_nil, Act.eval, Array.getD_eq_getD_getElem?, List.getElem?_toArray, List.getElem?_cons_zero, List.getElem?_cons_succ, Option.getD_some]; try rfl) rfl (fun w' hb => eqHurdle_same s.x s.y s.s _) ?_
      (try simp only [Act.put, Act.eval, Array.getD_eq_getD_getElem?, List.setIfInBounds_toArray, List.set_cons_zero, List.set_cons_succ, List.getElem?_toArray, List.getElem?_cons_zero, List.getElem?_cons_succ, Option.getD_some, List.getElem_toArray, List.getElem_cons_zero, List.getElem_cons_succ])
      refine lex_pure rfl rfl (by intro w'; go_simp; (try go_bits); rfl) ?_
      (try simp only [Act.put, Act.eval, Array.getD_eq_getD_getElem?, List.setIfInBounds_toArray, List.set_cons_zero, List.set_cons_succ, List.getElem?_toArray, List.getElem?_cons_zero, List.getElem?_cons_succ, Option.getD_some, List.getElem_toArray, List.getElem_cons_zero, List.getElem_cons_succ])
      intro wc hH
      replace hL := hL.ext hH.below
      clear hH
      go_wp2
      go_roundg (N - (k + 1))
      case measure => omega
      case rel => exact ⟨k + 1, by omega, rfl, by go_num, hL⟩
    · go_wp2
      go_ret
      exact ⟨rfl, hL.toBelow⟩

end Go.Proofs.Ytfefkkpcjcnmcaa
