import Derived.Test.YtpifngdmlmfnhaaQC06
import Derived.Test.YtpifngdmlmfnhaaQC09
/- Stakes: two slices of stakes alike. No condition. -/
namespace Go.Proofs.Ytpifngdmlmfnhaa
set_option linter.unusedVariables false
set_option linter.unusedSimpArgs false
open Go.RowKit Mem

def skZ : Sk := ⟨0, 0, 0⟩
end Go.Proofs.Ytpifngdmlmfnhaa
/- Stakes: validity. No condition. -/
namespace Go.Proofs.Ytpifngdmlmfnhaa
set_option linter.unusedVariables false
set_option linter.unusedSimpArgs false
open Go.RowKit Mem
attribute [local irreducible] Calm.wpLex
theorem Mem.Own.tail {B : Nat} {w0 w : World} {x : Nat × TypeId × Array Value} {L : List (Nat × TypeId × Array Value)} (h : Own B [] w0 w (x :: L)) : Own B [] w0 w L :=
  h.drop 1 (fun y hy => by
    have : y ∈ x :: L := List.mem_of_mem_take hy
    rcases h.low y this with e | e
    · exact e
    · cases e)
theorem block_below {w w' : World} {g : Nat} {o : Obj} (h : w.heap[g]? = some o) (hb : Below w.heap.size w w') : w'.heap[g]? = some o := by
  rw [hb.block g (Array.getElem?_eq_some_iff.1 h).1]; exact h
theorem Sl.take {w : World} {sz : Nat} {A : Option Addr} {n cap : Nat} {xs : List (List Value)} (h : Sl w sz (.slice A n cap) xs) (k : Nat) (hk : k ≤ xs.length) : Sl w sz (.slice A k cap) (xs.take k) := by
  obtain ⟨A', cap', hv, h1, h2, h3⟩ := h
  injection hv with e1 e2 e3
  subst e1; subst e3
  refine ⟨A, cap, ?_, by rw [List.length_take]; omega, h2, fun i c hc => ?_⟩
  · rw [List.length_take, Nat.min_eq_left hk]
  · rw [List.getElem?_take] at hc
    split at hc
    · exact h3 i c hc
    · cases hc

def atEq (a b : Sk) : Bool := decide (a.x = b.x) && decide (a.y = b.y)
def stOk (p : Nat → Int) (s : Sk) : Bool := isC (p 0) (p 1) s.x s.y && inB s.r 0 200
def sameAt (l : List Sk) (i : Nat) : Bool := (l.take i).any fun t => atEq t (l.getD i skZ)
def itemOk (p : Nat → Int) (l : List Sk) (i : Nat) : Bool := stOk p (l.getD i skZ) && !(sameAt l i)
def validStk (p : Nat → Int) (l : List Sk) : Bool := validP p && (decide (l.length ≤ 12) && (List.range l.length).all (itemOk p l))

set_option maxRecDepth 100000 in
set_option maxHeartbeats 1000000 in
theorem stkClosure_any (s t : Sk) (g : Nat) (w : World) (hg : w.heap[g]? = some (.cells #[.int .i8 t.x, .int .i8 t.y, .int .i16 t.r] 132 (0, 0))) :
    Calls Try.prog 239 #[.agg #[.int .i8 s.x, .int .i8 s.y, .int .i16 s.r], .pointer (some ⟨g, 0, none⟩)] w fun e w' => e = .returned (.bool (atEq s t)) ∧ Below w.heap.size w w' := by
  have hL := Own.startAt w hg
  go_enter Try.func239, Try.ntmps239
  go_wp2_with (first
    | ((with_reducible refine gate_dst (N := 2) rfl ?_); refine wpl_box (cs := #[.int .i8 s.x, .int .i8 s.y, .int .i16 s.r]) hL rfl rfl rfl ?_; clear hL; intro g2 w2 hL)
    | ((with_reducible refine gate_load rfl ?_); refine wpl_loadN_0 (off := 0) (vs := #[.int .i8 s.x, .int .i8 s.y]) hL 2 rfl rfl (by kernel_rfl) (by kernel_rfl) rfl (by simp) rfl ?_)
    | ((with_reducible refine gate_load rfl ?_); refine wpl_loadN_1 (off := 0) (vs := #[.int .i8 t.x, .int .i8 t.y]) hL 2 rfl rfl (by kernel_rfl) (by kernel_rfl) rfl (by simp) rfl ?_))
  all_goals (go_ret; exact ⟨by simp [atEq, *], hL.toBelow1 hg (hL.at_ (i := 1) rfl)⟩)

set_option maxRecDepth 100000 in
set_option maxHeartbeats 1000000 in
theorem idxStk_any (v : Value) (l : List Sk) (t : Sk) (g : Nat) (w : World) (hl : Sl w 3 v (l.map Sk.cells)) (hg : w.heap[g]? = some (.cells #[.int .i8 t.x, .int .i8 t.y, .int .i16 t.r] 132 (0, 0))) :
    Calls Try.prog 245 #[v, .func (.func 239) #[] #[.pointer (some ⟨g, 0, none⟩)]] w fun e w' => ∃ r, e = .returned (.int .i64 r) ∧ (decide (0 ≤ r) = l.any fun s => atEq s t) ∧ Below w.heap.size w w' := by
  have hL := Own.start w
  have HS := Lib.hid hl
  have HW := Lib.hid hg
  obtain ⟨A, cap, rfl, hc1, hm1, _⟩ := hl
  rw [List.length_map] at HS hc1 ⊢
  unfold maxLen at hm1
  obtain ⟨N, hN⟩ : ∃ N, l.length = N := ⟨_, rfl⟩
  have HN := Lib.hid hN
  rw [hN] at HS hc1 ⊢
  clear hN hg
  go_enter Try.func245, Try.ntmps245
  go_wp2
  go_loopg [8] N (fun n i wr => ∃ (k : Nat), k ≤ N ∧ n = N - k ∧ i = .int .i64 k ∧ Hid (∀ j, j < k → atEq (l.getD j skZ) t = false) ∧ Own w.heap.size [] w wr [])
  case atStart => exact ⟨0, by omega, rfl, rfl, (fun j hj => by omega), hL⟩
  case round =>
    clear hL
    obtain ⟨k, hk, rfl, rfl, HA, hL⟩ := hrel
    by_cases hlt : k < N
    · have HS2 := HS.out.below hL.toBelow
      have HW2 := Lib.hid (block_below HW.out hL.toBelow)
      obtain ⟨A2, cap2, hv2, _, _, hel⟩ := HS2
      injection hv2 with hA hn2 hc2
      obtain ⟨s, hs⟩ : ∃ s, l[k]? = some s := ⟨_, List.getElem?_eq_getElem (by have := HN.out; omega)⟩
      have hgd : l.getD k skZ = s := by simp [List.getD_eq_getElem?_getD, hs]
      have HSK := Lib.hid hs
      have HGD := Lib.hid hgd
      have hmap : (l.map Sk.cells)[k]? = some s.cells := by rw [List.getElem?_map, hs]; rfl
      obtain ⟨hcl, b, off, hA2, hcell⟩ := hel k _ hmap
      have HC := Lib.hid hcell
      obtain rfl : A = some ⟨b, off, none⟩ := hA.trans hA2
      clear hel hmap hs hgd hA hn2 hc2 hA2 hcell
      have hi1 : (k : Int) < (N : Int) := by omega
      obtain ⟨bb, hbb⟩ : ∃ bb, atEq s t = bb := ⟨_, rfl⟩
      have HB := Lib.hid hbb
      cases bb with
      | false =>
        go_wp2_with (first
          | ((with_reducible refine gate_load rfl ?_); refine wpl_loadA 3 rfl rfl (by kernel_rfl) rfl (c := s.cells) HC.out (by kernel_rfl) rfl ?_)
          | (go_at_call 239; (refine (stkClosure_any s t g _ HW2.out).mono ?_); rintro e w4 ⟨rfl, hb⟩; rw [hbb]; replace hL := hL.ext hb; clear hb))
        go_roundg (N - (k + 1))
        case measure => omega
        case rel => exact ⟨k + 1, by omega, rfl, by go_num, upTo_step HA.out (by rw [HGD.out]; exact HB.out), hL⟩
      | true =>
        go_wp2_with (first
          | ((with_reducible refine gate_load rfl ?_); refine wpl_loadA 3 rfl rfl (by kernel_rfl) rfl (c := s.cells) HC.out (by kernel_rfl) rfl ?_)
          | (go_at_call 239; (refine (stkClosure_any s t g _ HW2.out).mono ?_); rintro e w4 ⟨rfl, hb⟩; rw [hbb]; replace hL := hL.ext hb; clear hb))
        go_ret
        refine ⟨k, rfl, ?_, hL.toBelow⟩
        have : (l.any fun s => atEq s t) = true := List.any_eq_true.2 ⟨s, List.mem_of_getElem? HSK.out, HB.out⟩
        rw [this]; simp
    · go_wp2
      go_ret
      refine ⟨-1, rfl, ?_, hL.toBelow⟩
      have : (l.any fun s => atEq s t) = false := by
        rw [List.any_eq_false]
        intro s hs
        obtain ⟨j, hj⟩ := List.mem_iff_getElem?.1 hs
        have hjl : j < l.length := (List.getElem?_eq_some_iff.1 hj).1
        have := HA.out j (by have := HN.out; omega)
        simp [List.getD_eq_getElem?_getD, hj] at this
        simp [this]
      rw [this]; simp
set_option maxRecDepth 100000 in
theorem hasStk_any (v : Value) (l : List Sk) (t : Sk) (g : Nat) (w : World) (hl : Sl w 3 v (l.map Sk.cells)) (hg : w.heap[g]? = some (.cells #[.int .i8 t.x, .int .i8 t.y, .int .i16 t.r] 132 (0, 0))) :
    Calls Try.prog 238 #[v, .func (.func 239) #[] #[.pointer (some ⟨g, 0, none⟩)]] w fun e w' => e = .returned (.bool (l.any fun s => atEq s t)) ∧ Below w.heap.size w w' := by
  go_enter Try.func238, Try.ntmps238
  go_wp2_with (first
    | (go_at_call 245; (with_reducible refine (idxStk_any v l t g _ hl hg).mono ?_); rintro e w4 ⟨r, rfl, hr, hb⟩))
  go_ret
  exact ⟨by rw [← hr]; rfl, hb⟩
end Go.Proofs.Ytpifngdmlmfnhaa
