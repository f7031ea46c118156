import Derived.Test.YtnafnhpajkhgkaaQW18
import Derived.Test.YtnafnhpajkhgkaaQW43
import Derived.Test.YtnafnhpajkhgkaaQW44
/- Cells in order, each once: the program's. No condition but a length of at most 2^20. -/
namespace Go.Proofs.Ytnafnhpajkhgkaa
set_option linter.unusedVariables false
set_option linter.unusedSimpArgs false
open Go.RowKit Mem Wk Go.Sort
attribute [local irreducible] Calls Wk.S Wk.C Wk.E Wk.X Wk.T Wk.anV Wk.orV Wk.andV Wk.shlV Wk.shrV Calm.wpLex cpF ordL
def SrtS (L : List Sp) (n cap : Nat) (cs : Array Value) : Prop := ∃ M : List Sp, M.Perm L ∧ (M.Pairwise fun a b => ltOf cmS b a = false) ∧ Ap 2 n cap cs (flS M)
theorem sortS_m (L : List Sp) (g n cap : Nat) (cur : Array Value) (w : World) (hA : Ap 2 n cap cur (flS L)) (hg : w.heap[g]? = some (.cells cur 52 (0, 0))) (hn : L.length ≤ 1048576) (hin : ∀ s ∈ L, inR s) :
    Calls Try.prog 81 #[.slice (some ⟨g, 0, none⟩) n cap, .func (.func 54) #[] #[]] w fun e w' => e = .returned (.tuple #[]) ∧ ∃ cs', SrtS L n cap cs' ∧ Upd w w' g 52 cs' :=
  (sortS_any L g n cap cur w hA hg hn hin).mono fun e w' ⟨he, M, cs', h1, h2, h3, h4⟩ => ⟨he, cs', ⟨M, h1, h2, h3⟩, h4⟩
theorem cptS_m (L : List Sp) (g n cap : Nat) (cur : Array Value) (w : World) (hq : SrtS L n cap cur) (hg : w.heap[g]? = some (.cells cur 52 (0, 0))) (hn : L.length ≤ 1048576) (hin : ∀ s ∈ L, inR s) :
    Calls Try.prog 82 #[.slice (some ⟨g, 0, none⟩) n cap] w fun e w' => e = .returned (.slice (some ⟨g, 0, none⟩) (ordL L).length cap) ∧ ∃ cs', Ap 2 (ordL L).length cap cs' (flS (ordL L)) ∧ Upd w w' g 52 cs' := by
  obtain ⟨M, hp, hs, hA⟩ := hq
  rw [← ord_of hin hp hs]
  exact cptS_any M g n cap cur w hA hg (by rw [hp.length_eq]; exact hn)
set_option maxRecDepth 100000 in
theorem ordered_any (L : List Sp) (b off cap : Nat) (w : World) (hS : SlA [] w 2 (some ⟨b, off, none⟩) (L.map Sp.cells)) (hn : L.length ≤ 1048576) (hin : ∀ s ∈ L, inR s) :
    Calls Try.prog 41 #[.slice (some ⟨b, off, none⟩) L.length cap] w (NewS 52 2 (flS (ordL L)) w) := by
  refine enter1 Try.func41 rfl rfl rfl (Own.start w) ?_
  repeat' (first
    | (refine s_g ?_; first
      | (refine s_k 0 rfl ?_; refine s_val rfl rfl rfl (r_move rfl rfl) ?_)
      | (refine s_k 1 rfl ?_; refine s_val rfl rfl rfl (r_assign rfl rfl) ?_)
      | (refine s_k 35 rfl ?_; first | (refine s_callN Try.func51 (by kernel_rfl) rfl rfl rfl rfl rfl rfl (fun w hL => clone_any L b off cap w (hS.at_ hL) hn) fun g k capk cur hA => ?_) | (refine s_callM0 Try.func81 (by kernel_rfl) rfl rfl rfl rfl rfl rfl (fun w hL hg => sortS_m L _ _ _ _ w hA hg hn hin) fun cs hp => ?_) | (refine s_callM0 Try.func82 (by kernel_rfl) rfl rfl rfl rfl rfl rfl (fun w hL hg => cptS_m L _ _ _ _ w hp hg hn hin) fun cs hp => ?_))
      | refine s_nil ?_)
    | (refine c_g ?_; first | refine c_seq ?_ | refine c_region ?_ | (refine c_gc ?_; first | refine c_cond1 rfl zTr ?_ | refine c_cond0 rfl zTr ?_ | refine z_condd1 rfl ?_ | refine z_condd0 rfl ?_ | refine z_conddn1 rfl ?_ | refine z_conddn0 rfl ?_ | refine c_condd rfl (fun hc => ?_) (fun hc => ?_) | refine c_conddn rfl (fun hc => ?_) (fun hc => ?_) | refine c_condn rfl (fun hc => ?_) (fun hc => ?_) | refine c_cond rfl (fun hc => ?_) (fun hc => ?_)) | refine c_block ?_ | refine c_skip ?_ | refine c_exit ?_ | refine c_ret ?_)
    | (refine e_g ?_; first | refine e_then ?_ | refine e_blkn ?_ | refine e_thenx ?_ | refine e_thenr ?_ | refine e_blkr ?_ | refine e_blkx ?_ | refine e_blky rfl ?_)
    | (refine e_ret1 (by simp) rfl (re_tmp rfl) fun w hL => NewS.of hp hL m0))
end Go.Proofs.Ytnafnhpajkhgkaa
