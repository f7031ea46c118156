import Derived.ChangeMaps4
import Derived.Test.YtnfdefeafhepkaaQG08
import Derived.Test.YtnfdefeafhepkaaQG11
import Derived.Test.YtnfdefeafhepkaaQG12
/- Maps whose keys are cells: what a lookup finds, what an update leaves. Plain theorems; no condition. -/
namespace Go.Proofs.Ytnfdefeafhepkaa
set_option linter.unusedVariables false
set_option linter.unusedSimpArgs false
open Go Go.RowKit Mem Wk
open Classical
def sv (s : Sp) : Value := .agg #[.int .i8 s.x, .int .i8 s.y]
theorem sv_inj {s t : Sp} : sv s = sv t ↔ s = t := by
  obtain ⟨a, b⟩ := s
  obtain ⟨c, d⟩ := t
  simp [sv]
theorem run_ckInt (e : Bool) (n : Nat) (u : Value) (w : World) : (Instr.checkKey e (n + 1) 22 u).run Try.prog w = .ok () w := by
  unfold Instr.checkKey
  simp only [run_underlying u_i8, Sem.run_bind, Result.andThen_ok]
  cases u <;> rfl
theorem run_checkKey (e : Bool) (s : Sp) (w : World) : (Instr.checkKey e 10000 66 (sv s)).run Try.prog w = .ok () w := by
  unfold sv
  rw [show (10000 : Nat) = 9998 + 1 + 1 by rfl]
  unfold Instr.checkKey
  simp only [run_underlying Try.underlying66, Sem.run_bind, Result.andThen_ok]
  simp [part_0, part_1, run_ckInt]
def spotKeys (es : List MapEntry) : Prop := ∀ e ∈ es, ∃ t, e.key = sv t
noncomputable def mfind (s : Sp) : List MapEntry → Nat → Option (Nat × Value)
  | [], _ => none
  | e :: es, i => if e.key = sv s then some (i, e.val) else mfind s es (i + 1)
theorem run_findAsking (s : Sp) (w : World) : ∀ (es : List MapEntry) (i : Nat), spotKeys es → (Instr.findAsking 66 (sv s) es i).run Try.prog w = .ok (mfind s es i) w
  | [], _, _ => rfl
  | e :: es, i, h => by
    obtain ⟨t, ht⟩ := h e (by simp)
    have ih := run_findAsking s w es (i + 1) fun x hx => h x (by simp [hx])
    unfold Instr.findAsking mfind
    have hq : (Op.equal 66 (sv s) e.key).run Try.prog w = .ok (decide (s.x = t.x) && decide (s.y = t.y)) w := by rw [ht]; exact run_eqSpot _ _ _ _ w
    simp only [Sem.run_bind, hq, Result.andThen_ok]
    by_cases hst : t = s
    · subst hst; rw [if_pos ht]; simp
    · rw [if_neg (fun q => hst (sv_inj.1 (ht.symm.trans q)))]
      have hb : (decide (s.x = t.x) && decide (s.y = t.y)) = false := by
        obtain ⟨a, b⟩ := s
        obtain ⟨c, d⟩ := t
        simp at hst ⊢
        intro e1 e2
        exact hst e1.symm e2.symm
      rw [hb]
      simpa using ih
theorem run_findKey (s : Sp) (w : World) (es : List MapEntry) (h : spotKeys es) : (Instr.findKey 66 (sv s) es).run Try.prog w = .ok (mfind s es 0) w := by
  unfold Instr.findKey
  simp only [run_underlying Try.underlying66, Sem.run_bind, Result.andThen_ok]
  cases es with
  | nil => rfl
  | cons e es =>
    have hn : ∀ fs, Instr.findNow (.struct fs) (sv s) (e :: es) 0 = none := fun fs => by
      unfold Instr.findNow Instr.sameNow
      rfl
    rw [hn]
    exact run_findAsking s w (e :: es) 0 h
/-- the map's object answers f -/
def MapIs (o : Obj) (f : Sp → Option Value) : Prop := ∃ es ck, o = .map es ck ∧ spotKeys es.toList ∧ ∀ s, (mfind s es.toList 0).map (·.2) = f s
theorem MapIs.new : MapIs (.map #[] 0) (fun _ => none) := ⟨#[], 0, rfl, fun e h => by simp at h, fun s => rfl⟩
theorem run_lookup {t e : TypeId} {z : Value} {b : Nat} {o : Obj} {f : Sp → Option Value} (s : Sp) (w : World) (ht : Try.prog.underlying t = some (.map 66 e)) (hz : (zeroValue e).run Try.prog w = .ok z w) (hb : w.heap[b]? = some o) (hm : MapIs o f) :
    (Instr.lookup t (.map (some b)) (sv s) false).run Try.prog w = .ok ((f s).getD z) w := by
  obtain ⟨es, ck, rfl, hk, hf⟩ := hm
  unfold Instr.lookup
  have hg : (getObj b).run Try.prog w = .ok (.map es ck) w := by simp [getObj, Sem.run, hb]
  simp only [run_underlying ht, Sem.run_bind, Result.andThen_ok, hg, run_checkKey, run_findKey s w es.toList hk, Sem.run_pure]
  rw [← hf s]
  cases mfind s es.toList 0 with
  | none => simp [hz]
  | some p => simp
theorem mfind_push (t : Sp) (x : MapEntry) : ∀ (es : List MapEntry) (k : Nat), (mfind t (es ++ [x]) k).map (·.2) = ((mfind t es k).map (·.2)).or (if x.key = sv t then some x.val else none)
  | [], k => by
    simp only [List.nil_append, mfind]
    split <;> rfl
  | e :: es, k => by
    simp only [List.cons_append, mfind]
    split
    · rfl
    · exact mfind_push t x es (k + 1)
theorem mfind_mod (s : Sp) (v : Value) : ∀ (es : List MapEntry) (k i : Nat) (v0 : Value), mfind s es k = some (i, v0) → k ≤ i ∧ (∃ e, es[i - k]? = some e ∧ e.key = sv s) ∧ ∀ t, (mfind t (es.modify (i - k) fun e => { e with key := sv s, val := v }) k).map (·.2) = if t = s then some v else (mfind t es k).map (·.2)
  | [], k, i, v0, h => by cases h
  | e :: es, k, i, v0, h => by
    unfold mfind at h
    split at h
    · rename_i he
      injection h with h; injection h with h1 h2
      subst h1
      refine ⟨Nat.le_refl _, ⟨e, by simp, he⟩, fun t => ?_⟩
      rw [Nat.sub_self]
      simp only [List.modify_zero_cons, mfind, he]
      by_cases hts : t = s
      · subst hts; simp
      · have hq : ¬ sv s = sv t := fun q => hts (sv_inj.1 q).symm
        rw [if_neg hq, if_neg hts, if_neg hq]
    · rename_i he
      obtain ⟨h1, ⟨e', h2, h2'⟩, h3⟩ := mfind_mod s v es (k + 1) i v0 h
      refine ⟨by omega, ⟨e', by rw [show i - k = (i - (k + 1)) + 1 by omega]; simpa using h2, h2'⟩, fun t => ?_⟩
      rw [show i - k = (i - (k + 1)) + 1 by omega, List.modify_succ_cons]
      simp only [mfind]
      by_cases hts : t = s
      · subst hts
        rw [if_neg he, h3, if_pos rfl, if_pos rfl]
      · rw [if_neg hts]
        split
        · rfl
        · rw [h3, if_neg hts]
theorem sameBits_sv (s : Sp) : Instr.sameBits 10000 (sv s) (sv s) = true := by
  unfold sv
  rw [show (10000 : Nat) = 9999 + 1 by rfl]
  simp [Instr.sameBits]
theorem run_mapUpdate {t e : TypeId} {b : Nat} {o : Obj} {f : Sp → Option Value} (s : Sp) (v : Value) (w : World) (ht : Try.prog.underlying t = some (.map 66 e)) (hb : w.heap[b]? = some o) (hm : MapIs o f) :
    ∃ o', (Instr.mapUpdate t (.map (some b)) (sv s) v).run Try.prog w = .ok () (Go.ChangeMaps.setBlock w b o') ∧ MapIs o' (fun u => if u = s then some v else f u) := by
  obtain ⟨es, ck, rfl, hk, hf⟩ := hm
  have hg : (getObj b).run Try.prog w = .ok (.map es ck) w := by simp [getObj, Sem.run, hb]
  have hlt : b < w.heap.size := (Array.getElem?_eq_some_iff.1 hb).1
  have hset : ∀ o', (setObj b o').run Try.prog w = .ok () (Go.ChangeMaps.setBlock w b o') := fun o' => by simp only [setObj, Sem.run, Go.ChangeMaps.setBlock, hb]
  unfold Instr.mapUpdate
  simp only [run_underlying ht, Sem.run_bind, Result.andThen_ok, hg, run_checkKey, run_findKey s w es.toList hk, Sem.run_pure]
  rcases hfd : mfind s es.toList 0 with _ | ⟨i, v0⟩
  · refine ⟨_, hset _, _, _, rfl, fun x hx => ?_, fun u => ?_⟩
    · simp at hx
      rcases hx with hx | rfl
      · exact hk x (by simpa using hx)
      · exact ⟨s, rfl⟩
    · rw [Array.toList_push, mfind_push, hf u]
      show (f u).or (if sv s = sv u then some v else none) = if u = s then some v else f u
      by_cases hus : u = s
      · subst hus
        have := hf u
        rw [hfd] at this
        simp [← this]
      · rw [if_neg hus, if_neg (fun q => hus (sv_inj.1 q).symm)]; simp
  · obtain ⟨_, ⟨e', he', hke⟩, h3⟩ := mfind_mod s v es.toList 0 i v0 hfd
    rw [Nat.sub_zero] at he' h3
    have hei : es[i]? = some e' := by simpa using he'
    have hks : (Instr.keyThatStays (((es[i]?).map (·.key)).getD (sv s)) (sv s)).run Try.prog w = .ok (sv s) w := by
      rw [hei]
      simp only [Option.map_some, Option.getD_some, hke]
      unfold Instr.keyThatStays
      rw [if_pos (sameBits_sv s)]
      rfl
    simp only [Sem.run_bind, hks, Result.andThen_ok]
    refine ⟨_, hset _, _, _, rfl, fun x hx => ?_, fun u => ?_⟩
    · rw [Array.toList_modify] at hx
      obtain ⟨j, hj⟩ := List.getElem?_of_mem hx
      rw [List.getElem?_modify] at hj
      cases hq : es.toList[j]? with
      | none => simp [hq] at hj
      | some y =>
        rw [hq] at hj
        by_cases hij : i = j
        · simp [hij] at hj; subst hj; exact ⟨s, rfl⟩
        · simp [hij] at hj; subst hj; exact hk y (List.mem_of_getElem? hq)
    · rw [Array.toList_modify, h3, hf u]
theorem run_makeMap (t : TypeId) (w : World) : (Instr.makeMap t none).run Try.prog w = .ok (.map (some w.heap.size)) (w.alloc (.map #[] 0)) := rfl
namespace Wk
variable {n : Nat} {O : List Nat} {w0 : World} {l : List (Nat × Value)} {L : List (Nat × TypeId × Array Value)} {Q : Exit → Act → World → Prop} {ops : Array Oper} {o : Oper} {rest : List Oper} {d : Nat} {v : Value} {x y z : Operand}
/-- all that stands up to a block: the world in which that block is the last -/
def upto (w : World) (k : Nat) : World := { w with heap := w.heap.extract 0 k }
theorem upto_size {w : World} {k : Nat} (h : k ≤ w.heap.size) : (upto w k).heap.size = k := by simp [upto]; omega
theorem upto_get {w : World} {k j : Nat} (h : j < k) : (upto w k).heap[j]? = w.heap[j]? := by
  simp only [upto]
  rw [Array.getElem?_extract]
  simp only [Nat.sub_zero, Nat.zero_add]
  split
  · rfl
  · rw [Array.getElem?_eq_none (by omega)]
/-- the base is set anew: the blocks that a walk has made so far are told as old ones that it may write -/
theorem Kn.rebase {w : World} {k : Nat} (h : Kn O w0 w L) (hk : k ≤ w.heap.size) : Kn (L.map (·.1)) (upto w k) w L :=
  ⟨rfl, rfl, rfl, by rw [upto_size hk]; exact hk, Nat.le_refl _, fun j hj _ => (upto_get (by rwa [upto_size hk] at hj)).symm, fun b hb => .inr (List.mem_map_of_mem hb), h.has, h.nodup⟩
/-- a walk whose base was set anew has left what stood ahead of it -/
theorem Kn.belowO {w1 w : World} {k : Nat} (h : Kn O w1 w L) (hO : ∀ b ∈ O, k ≤ b) (hb : Below k w0 w1) (hk : k ≤ w1.heap.size) : Below k w0 w :=
  ⟨h.os.trans hb.os, h.tape.trans hb.tape, h.output.trans hb.output, Nat.le_trans hb.size h.size, fun j hj => by
    rw [← hb.block j hj]
    refine h.keep j (by omega) fun b hbL e => ?_
    rcases h.low b hbL with h1 | h1
    · omega
    · have := hO _ h1; omega⟩
/-- a loop whose base may be another in each round -/
def RdW {ι : Type} (n : Nat) (μ : ι → Nat) (Pf : ι → Prop) (Of : ι → List Nat) (wf : ι → World) (lf : ι → List (Nat × Value)) (Lf : ι → List (Nat × TypeId × Array Value)) (m : Nat) (a : Act) (w : World) : Prop := ∃ j, μ j < m ∧ Pf j ∧ Fr n (lf j) a ∧ Kn (Of j) (wf j) w (Lf j)
theorem c_loopW {P : Program} {ι : Type} {c : Code} (μ : ι → Nat) (Pf : ι → Prop) (Of : ι → List Nat) (wf : ι → World) (lf : ι → List (Nat × Value)) (Lf : ι → List (Nat × TypeId × Array Value)) (i : ι) (hP : Pf i) (hO : O = Of i) (hw0 : w0 = wf i) (hs : Sub l (lf i)) (hL0 : L = Lf i)
    (round : ∀ i, Pf i → C P (Exit.then (RdW n μ Pf Of wf lf Lf (μ i)) Q) n (Of i) (wf i) c (lf i) (Lf i)) : C P Q n O w0 (.loop c) l L := fun a w hF hL => by
  subst hL0; subst hO; subst hw0
  refine wp_loopI (fun m a w => ∃ j, μ j = m ∧ Pf j ∧ Fr n (lf j) a ∧ Kn (Of j) (wf j) w (Lf j)) (m := μ i) ⟨i, rfl, hP, hF.sub hs, hL⟩ ?_
  rintro m a w ⟨j, rfl, h1, h2, h3⟩
  refine Code.wp_mono ?_ (round j h1 a w h2 h3)
  intro e a' w' hq
  cases e with
  | normal => obtain ⟨j', hm, hP', hF', hL'⟩ := hq; exact ⟨μ j', hm, j', rfl, hP', hF', hL'⟩
  | _ => exact hq
/-- a map is made: the base is set anew, up to the map -/
theorem s_mkMap {t : TypeId} (ho : o.op = .makeMap t none) (hg : o.guard = none) (hd : o.dst = some d) (hn : Nat.blt d n = true)
    (h : ∀ b w1, Below w0.heap.size w0 w1 → w1.heap.size = b + 1 → (∀ k ∈ L.map (·.1), k < b) → (∀ x ∈ L, w0.heap.size ≤ x.1 ∨ x.1 ∈ O) → w1.heap[b]? = some (.map #[] 0) → S Try.prog ops Q n (L.map (·.1)) w1 rest ((d, .map (some b)) :: l) L) (hO : O = []) : S Try.prog ops Q n O w0 (o :: rest) l L := fun a w hF hL => by
  subst hO
  have hlt : ∀ x ∈ L, x.1 < w.heap.size := fun x hx => (Array.getElem?_eq_some_iff.1 (hL.has x hx)).1
  have hr : (execOp a.eval o).run Try.prog w = .ok (.value (.map (some w.heap.size))) (w.alloc (.map #[] 0)) := by
    have := run_makeMap t w
    simp [execOp, ho, this]
  have hb : Below w.heap.size w (w.alloc (.map #[] 0)) := Below.alloc ⟨rfl, rfl, rfl, Nat.le_refl _, fun _ _ => rfl⟩ (Nat.le_refl _) _
  have hL1 : Kn [] w0 (w.alloc (.map #[] 0)) L := Own.ext hL hb
  have hz : (w.alloc (.map #[] 0)).heap.size = w.heap.size + 1 := by simp
  have hsz : w0.heap.size ≤ w.heap.size := hL.size
  have hB := hL1.toBelow
  refine wpl_run hg hr ?_
  rw [hd]
  refine h w.heap.size (upto (w.alloc (.map #[] 0)) (w.heap.size + 1)) ⟨hB.os, hB.tape, hB.output, ?_, fun j hj => ?_⟩ (upto_size (by omega)) (fun k hk => ?_) hL.low ?_ _ _ (hF.put hn _) (hL1.rebase (by omega))
  · rw [upto_size (by omega)]; omega
  · rw [upto_get (by omega)]; exact hB.block j hj
  · obtain ⟨x, hx, rfl⟩ := List.mem_map.1 hk; exact hlt x hx
  · rw [upto_get (by omega)]; exact heap_alloc_new w _
/-- a map is asked -/
theorem r_lookup {t e : TypeId} {zz : Value} {b : Nat} {ob : Obj} {f : Sp → Option Value} {s : Sp} (ho : o.op = .lookup t x y false) (hx : ev l x = some (.map (some b))) (hy : ev l y = some (sv s)) (ht : Try.prog.underlying t = some (.map 66 e)) (hz : ∀ w, (zeroValue e).run Try.prog w = .ok zz w) (hb : w0.heap[b]? = some ob) (hO : b ∉ O) (hm : MapIs ob f) : Rn Try.prog n O w0 l L o ((f s).getD zz) := fun a w hF hL => by
  have hlt : b < w0.heap.size := (Array.getElem?_eq_some_iff.1 hb).1
  have hbw : w.heap[b]? = some ob := by
    rw [← hb]
    refine hL.keep b hlt fun k hk e => ?_
    rcases hL.low k hk with h1 | h1
    · omega
    · exact hO (e ▸ h1)
  have := run_lookup s w ht (hz w) hbw hm
  simp [execOp, ho, hF.eval hx, hF.eval hy, this]
/-- a map is told: the base is another -/
theorem s_mapU {t e : TypeId} {b : Nat} {ob : Obj} {f : Sp → Option Value} {s : Sp} (ho : o.op = .mapUpdate t x y z) (hx : ev l x = some (.map (some b))) (hy : ev l y = some (sv s)) (hz : ev l z = some v) (ht : Try.prog.underlying t = some (.map 66 e)) (hb : w0.heap[b]? = some ob) (hO : b ∉ O) (hm : MapIs ob f) (hg : o.guard = none) (hd : o.dst = none)
    (h : ∀ ob', MapIs ob' (fun u => if u = s then some v else f u) → S Try.prog ops Q n O (Go.ChangeMaps.setBlock w0 b ob') rest l L) : S Try.prog ops Q n O w0 (o :: rest) l L := fun a w hF hL => by
  have hlt : b < w0.heap.size := (Array.getElem?_eq_some_iff.1 hb).1
  have hnl : ∀ k ∈ L, k.1 ≠ b := fun k hk e => by
    rcases hL.low k hk with h1 | h1
    · omega
    · exact hO (e ▸ h1)
  have hbw : w.heap[b]? = some ob := by rw [← hb]; exact hL.keep b hlt hnl
  obtain ⟨o', hr, hm'⟩ := run_mapUpdate s v w ht hbw hm
  have hr' : (execOp a.eval o).run Try.prog w = .ok .skip (Go.ChangeMaps.setBlock w b o') := by
    simp [execOp, ho, hF.eval hx, hF.eval hy, hF.eval hz, hr]
  refine wpl_skip hg hr' ?_
  rw [hd]
  refine h o' hm' _ _ hF ⟨hL.os, hL.tape, hL.output, by simpa [Go.ChangeMaps.setBlock] using hL.size, by simp [Go.ChangeMaps.setBlock], fun j hj hne => ?_, fun k hk => ?_, fun k hk => ?_, hL.nodup⟩
  · simp only [Go.ChangeMaps.setBlock, Array.size_setIfInBounds] at hj ⊢
    by_cases e : b = j
    · subst e
      have hlw : b < w.heap.size := Nat.lt_of_lt_of_le hlt hL.size
      simp [hlt, hlw]
    · rw [Array.getElem?_setIfInBounds_ne e, Array.getElem?_setIfInBounds_ne e]
      exact hL.keep j hj hne
  · simpa [Go.ChangeMaps.setBlock] using hL.low k hk
  · simp only [Go.ChangeMaps.setBlock]
    rw [Array.getElem?_setIfInBounds_ne (fun e => hnl k hk e.symm)]
    exact hL.has k hk
end Wk
end Go.Proofs.Ytnfdefeafhepkaa
/- append of a foreign slice; slices of slices; clear. Plain theorems, no condition but that lengths are not beyond all bounds. -/
namespace Go.Proofs.Ytnfdefeafhepkaa.Wk
set_option linter.unusedVariables false
set_option linter.unusedSimpArgs false
open Go Go.RowKit Mem
variable {P : Program} {n : Nat} {O : List Nat} {w0 : World} {l : List (Nat × Value)} {L pre post : List (Nat × TypeId × Array Value)} {Q : Exit → Act → World → Prop} {ops : Array Oper} {o : Oper} {rest : List Oper} {d : Nat} {x y z : Operand}
/-- What append gives; and what stands then. -/
theorem run_appA {t ty e : TypeId} {z : Value} {sz bytes : Nat} (ht : P.underlying t = some (.slice e)) (hi : (P.info? e).map (fun i => (i.zero, i.size, i.bytes)) = some (some z, sz, bytes)) (hzs : z.cells.size = sz) (hsz : 0 < sz)
    {w : World} {g k cap : Nat} {cur : Array Value} {xs : List Value} (hA : Ap sz k cap cur xs) (hL : Kn O w0 w (pre ++ (g, e, cur) :: post)) (hO : g ∉ O) {ad : Addr} {m c : Nat} {news : List Value} (hl : news.length = m * sz) (hnews : ∀ j u, news[j]? = some u → w.cell? (ad.add j) = some u) (h1 : ∀ u ∈ news, u.oneCell' = true)
    (h63 : k + m ≤ maxLen) (hbytes : (k + m) * bytes ≤ 140737488355328) :
    ∃ g' cap' cur' w', (Builtin.append_ #[t, t] ty #[.slice (some ⟨g, 0, none⟩) k cap, .slice (some ad) m c]).run P w = .ok (.slice (some ⟨g', 0, none⟩) (k + m) cap') w' ∧ Ap sz (k + m) cap' cur' (xs ++ news) ∧ Kn O w0 w' (pre ++ (g', e, cur') :: post) := by
  obtain ⟨i, q1, q2, q3, q4⟩ := info_parts hi
  subst q3; subst q4
  have hg := hL.has (g, e, cur) (by simp)
  have hlen : (xs ++ news).length = (k + m) * i.size := by rw [List.length_append, hA.len, hl, Nat.add_mul]
  by_cases hroom : k + m ≤ cap
  · have hfit : k * i.size + news.length ≤ cur.size := by rw [hl, hA.size, ← Nat.add_mul]; exact Nat.mul_le_mul_right _ hroom
    have hr := run_append_room (P := P) w t ty e i ht q1 g k cap cur hg ad m c news hl hnews h1 hroom hfit
    refine ⟨g, cap, (cur.toList.take (k * i.size) ++ news ++ cur.toList.drop (k * i.size + news.length)).toArray, _, hr, ⟨hlen, hroom, hA.max, ?_, ?_⟩, ?_⟩
    · have := hA.size
      simp only [List.size_toArray, List.length_append, List.length_take, List.length_drop, Array.length_toList]
      omega
    · rw [hA.take, ← hlen]
      exact List.take_left
    · have hp : Kn O w0 w ((g, e, cur) :: (pre ++ post)) := hL.perm List.perm_middle
      exact Kn.perm (L := (g, e, _) :: (pre ++ post)) (Own.put hp (i := 0) rfl _) List.perm_middle.symm
  · have holds : ∀ j u, xs[j]? = some u → w.cell? ((⟨g, 0, none⟩ : Addr).add j) = some u := fun j u hu => by
      rw [add_lit0, Nat.zero_add, cell_of_row w g j cur e (0, 0) hg]
      rw [← hA.take, List.getElem?_take] at hu
      split at hu
      · simpa using hu
      · cases hu
    have hsmall : k + m ≤ 9223372036854775807 := by simp only [maxLen] at h63; omega
    have hle := hA.le
    have hr := run_append_grow (P := P) w t ty e i z ht q1 q2 ⟨g, 0, none⟩ k cap xs hA.len holds ad m c news hl hnews (by omega) (by omega) (growslice_fits (by omega) hbytes)
    have hge := grownCap_ge w (k + m) cap e
    refine ⟨w.heap.size, grownCap w (k + m) cap e, xs.toArray ++ news.toArray ++ Builtin.zeroCells z.cells (grownCap w (k + m) cap e - (k + m)), _, hr, ⟨hlen, hge, grownCap_le_maxLen w (k + m) cap e h63, ?_, ?_⟩, ?_⟩
    · simp only [Array.size_append, List.size_toArray, size_zeroCells, hzs, hA.len, hl, ← Nat.add_mul]
      congr 1
      omega
    · simp only [Array.toList_append, List.append_assoc]
      rw [← List.append_assoc, ← hlen]
      exact List.take_left
    · exact Kn.swapIn (b := (w.heap.size, e, _)) (a := (g, e, cur)) (Own.new (Own.drew hL) e _) hO
theorem flat_get {sz : Nat} : ∀ (xs : List (List Value)), (∀ c ∈ xs, c.length = sz) → ∀ (j : Nat) (u : Value), xs.flatten[j]? = some u → ∃ i c k, xs[i]? = some c ∧ c[k]? = some u ∧ j = i * sz + k
  | [], _, j, u, h => by simp at h
  | c :: xs, hl, j, u, h => by
    rw [List.flatten_cons] at h
    have hc := hl c (by simp)
    by_cases hj : j < c.length
    · rw [List.getElem?_append_left hj] at h
      exact ⟨0, c, j, rfl, h, by omega⟩
    · rw [List.getElem?_append_right (by omega)] at h
      obtain ⟨i, d, k, h1, h2, h3⟩ := flat_get xs (fun d hd => hl d (by simp [hd])) _ u h
      exact ⟨i + 1, d, k, by simpa using h1, h2, by rw [Nat.succ_mul]; omega⟩
theorem flat_len {sz : Nat} : ∀ (xs : List (List Value)), (∀ c ∈ xs, c.length = sz) → xs.flatten.length = xs.length * sz
  | [], _ => by simp
  | c :: xs, hl => by
    rw [List.flatten_cons, List.length_append, flat_len xs (fun d hd => hl d (by simp [hd])), hl c (by simp), List.length_cons, Nat.succ_mul]; omega
theorem SlA.len {w : World} {sz : Nat} {A : Option Addr} {xs : List (List Value)} (h : SlA O w sz A xs) : ∀ c ∈ xs, c.length = sz := fun c hc => by
  obtain ⟨i, hi⟩ := List.mem_iff_getElem?.1 hc
  exact (h i c hi).1
theorem SlA.news {w : World} {sz b off : Nat} {xs : List (List Value)} (h : SlA O w sz (some ⟨b, off, none⟩) xs) : ∀ j u, xs.flatten[j]? = some u → w.cell? ((⟨b, off, none⟩ : Addr).add j) = some u := fun j u hu => by
  obtain ⟨i, c, k, h1, h2, h3⟩ := flat_get xs h.len j u hu
  obtain ⟨_, b', off', e, _, hc⟩ := h i c h1
  injection e with e; injection e with e1 e2; subst e1; subst e2
  have := hc k u h2
  rw [h3]
  have ea : (⟨b, off, none⟩ : Addr).add (i * sz + k) = ⟨b, off + i * sz + k, none⟩ := by unfold Addr.add; split <;> simp_all [Nat.add_assoc]
  rw [ea]; exact this
theorem SlA.mono {w w' : World} {sz : Nat} {A : Option Addr} {xs : List (List Value)} (h : SlA [] w sz A xs) (hL : Kn [] w w' L) : SlA [] w' sz A xs := fun i c hc => by
  obtain ⟨a, b, d, e, g, h'⟩ := h i c hc
  exact ⟨a, b, d, e, g, fun j u hu => Kn.oldc hL (h' j u hu) g⟩
/-- append(own, foreign...) -/
theorem s_appS {t e : TypeId} {zz : Value} {sz bytes : Nat} (ho : o.op = .call { callee := .builtin .append, args := #[x, y], argTypes := #[t, t] }) (ht : P.underlying t = some (.slice e)) (hi : (P.info? e).map (fun i => (i.zero, i.size, i.bytes)) = some (some zz, sz, bytes)) (hzs : zz.cells.size = sz) (hsz : 0 < sz)
    {g k cap : Nat} {cur : Array Value} {cs : List Value} (hA : Ap sz k cap cur cs) {b off m c : Nat} {xs : List (List Value)} (hS : SlA [] w0 sz (some ⟨b, off, none⟩) xs) (hm : m = xs.length) (hx : ev l x = some (.slice (some ⟨g, 0, none⟩) k cap)) (hy : ev l y = some (.slice (some ⟨b, off, none⟩) m c)) (h1 : ∀ u ∈ xs.flatten, u.oneCell' = true)
    (h63 : k + m ≤ maxLen) (hbytes : (k + m) * bytes ≤ 140737488355328) (hg : o.guard = none) (hd : o.dst = some d) (hdn : Nat.blt d n = true)
    (h : ∀ g' cap' cur', Ap sz (k + m) cap' cur' (cs ++ xs.flatten) → S P ops Q n [] w0 rest ((d, .slice (some ⟨g', 0, none⟩) (k + m) cap') :: l) (pre ++ (g', e, cur') :: post)) : S P ops Q n [] w0 (o :: rest) l (pre ++ (g, e, cur) :: post) := fun a w hF hL =>
  wpList_plain hg fun K hK => by
    have hl : xs.flatten.length = m * sz := by rw [flat_len xs hS.len, hm]
    obtain ⟨g', cap', cur', w', hr, hA', hL'⟩ := run_appA (P := P) (ty := o.type) (c := c) ht hi hzs hsz hA hL (by simp) hl (hS.mono hL).news h1 h63 hbytes
    unfold Oper.wp execOp
    simp only [ho, resolve, invoke, builtin, Sem.run_bind, Sem.run_pure, Result.andThen_ok, List.map_toArray, List.map_cons, List.map_nil, hF.eval hx, hF.eval hy, hr]
    show K (a.put o.dst _) w'
    rw [hd]
    exact hK _ _ (h g' cap' cur' hA' _ _ (hF.put hdn _) hL')
theorem sliced_0 (g off h m s : Nat) : sliced (some ⟨g, off, none⟩) 0 h m s = .slice (some ⟨g, off, none⟩) h m := by
  unfold sliced; split
  · simp
  · simp [add_lit0]
theorem sliced_l {g off l h m s : Nat} (hl : l < m) : sliced (some ⟨g, off, none⟩) l h m s = .slice (some ⟨g, off + l * s, none⟩) (h - l) (m - l) := by
  unfold sliced; rw [if_neg (by omega)]
  simp only [Option.map_some]
  congr 2
  unfold Addr.add; split <;> simp_all
/-- s[:h] -/
theorem r_slcH (tb : Tb P) {t el sz : Nat} {g off len cap h : Nat} {kd : IntKind} (ho : o.op = .slice t x none (some y) none) (hx : ev l x = some (.slice (some ⟨g, off, none⟩) len cap)) (hy : ev l y = some (.int kd (h : Int))) (ht : lkT tb.l t = some (el, sz)) (hle : h ≤ cap) : Rn P n O w0 l L o (.slice (some ⟨g, off, none⟩) h cap) := fun a w hF hL => by
  have hu := (tb.slice ht).1
  have he : P.underlying t = some (.slice (P.elem t)) := by rw [hu]; simp [Program.elem, hu]
  have hel : P.elem t = el := by simp [Program.elem, hu]
  have hs := run_size (tb.slice ht).2 w
  simp only [execOp, ho, Option.map_none, Option.map_some, hF.eval hx, hF.eval hy, Sem.run_bind, run_sliceAt_slice w t _ _ _ _ he, run_slice_h w t (some ⟨g, off, none⟩) len cap he kd (h : Int) (by omega) (by omega), hel, hs, Result.andThen_ok, Int.toNat_natCast, sliced_0, Sem.run_pure]
/-- s[l:] -/
theorem r_slcL (tb : Tb P) {t el sz : Nat} {g off len cap i : Nat} {kd : IntKind} (ho : o.op = .slice t x (some y) none none) (hx : ev l x = some (.slice (some ⟨g, off, none⟩) len cap)) (hy : ev l y = some (.int kd (i : Int))) (ht : lkT tb.l t = some (el, sz)) (hle : i ≤ len) (hlt : i < cap) : Rn P n O w0 l L o (.slice (some ⟨g, off + i * sz, none⟩) (len - i) (cap - i)) := fun a w hF hL => by
  have hu := (tb.slice ht).1
  have he : P.underlying t = some (.slice (P.elem t)) := by rw [hu]; simp [Program.elem, hu]
  have hel : P.elem t = el := by simp [Program.elem, hu]
  have hs := run_size (tb.slice ht).2 w
  simp only [execOp, ho, Option.map_none, Option.map_some, hF.eval hx, hF.eval hy, Sem.run_bind, run_sliceAt_slice w t _ _ _ _ he, run_slice_l w t (some ⟨g, off, none⟩) len cap he kd (i : Int) (by omega) (by omega), hel, hs, Result.andThen_ok, Int.toNat_natCast, sliced_l hlt, Sem.run_pure]
theorem run_clear {t el ty : TypeId} {zz : Value} {sz bytes : Nat} (ht : P.underlying t = some (.slice el)) (hi : (P.info? el).map (fun i => (i.zero, i.size, i.bytes)) = some (some zz, sz, bytes)) (hzs : zz.cells.size = sz) (hz1 : ∀ u ∈ zz.cells.toList, u.oneCell' = true)
    {w : World} {g off m c : Nat} {T : TypeId} {cs : Array Value} (hg : w.heap[g]? = some (.cells cs T (0, 0))) (hm : 0 < m) (hfit : off + m * sz ≤ cs.size) :
    (Builtin.clear_ #[t] ty #[.slice (some ⟨g, off, none⟩) m c]).run P w = .ok (.tuple #[]) (w.setRow g (splice cs off (Builtin.zeroCells zz.cells m))) := by
  obtain ⟨i, q1, q2, q3, q4⟩ := info_parts hi
  have hzv : (zeroValue el).run P w = .ok zz w := by simp [zeroValue, typeInfo, q1, q2]
  have hsz : (Builtin.zeroCells zz.cells m).toList.length = m * sz := by rw [Array.length_toList, size_zeroCells, hzs]
  have h1 : ∀ v ∈ (Builtin.zeroCells zz.cells m).toList, v.oneCell' = true := by
    intro v hv
    unfold Builtin.zeroCells at hv
    simp at hv
    obtain ⟨j, hj, rfl⟩ := hv
    have hs : 0 < zz.cells.size := by
      rcases Nat.eq_zero_or_pos zz.cells.size with e | e
      · rw [e] at hj; simp at hj
      · exact e
    have hlt := Nat.mod_lt j hs
    rw [getElem!_pos zz.cells _ hlt]
    exact hz1 _ (by simp)
  have hst := run_storeCells_at P g off T (Builtin.zeroCells zz.cells m).toList 0 cs w hg (by rw [hsz]; omega) h1
  unfold Builtin.clear_
  obtain ⟨m', rfl⟩ : ∃ m', m = m' + 1 := ⟨m - 1, by omega⟩
  simp only [List.getElem?_toArray, List.getElem?_cons_zero, Sem.run_bind, run_underlying ht, Result.andThen_ok, hzv, hst, Sem.run_pure, Nat.add_zero]
  simp [splice]
end Go.Proofs.Ytnfdefeafhepkaa.Wk
