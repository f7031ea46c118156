import Derived.Test.YtnfdefeafhepkaaQI06
import Derived.Test.YtnfdefeafhepkaaQI08
import Derived.Test.YtnfdefeafhepkaaQI10
import Derived.Test.YtnfdefeafhepkaaQI12
import Derived.Test.YtnfdefeafhepkaaQI17
import Derived.Test.YtnfdefeafhepkaaQI19
import Derived.Test.YtnfdefeafhepkaaQI20
import Derived.Test.YtnfdefeafhepkaaQI21
set_option linter.unusedVariables false
set_option linter.unusedSimpArgs false
namespace Go.Proofs.Ytnfdefeafhepkaa
open Go.RowKit Mem Wk
theorem SlA.away {w0 w : World} {sz : Nat} {A : Option Addr} {xs : List (List Value)} {L : List (Nat × TypeId × Array Value)} {g : Nat} {T : TypeId} {cs : Array Value} (h : SlA [] w0 sz A xs) (hL : Kn [] w0 w L) (hm : (g, T, cs) ∈ L) (hsz : 0 < sz) : SlA [g] w sz A xs := fun i c hc => by
  obtain ⟨hl, b, off, hA, hb, hcell⟩ := h i c hc
  refine ⟨hl, b, off, hA, ?_, fun j u hu => Kn.oldc hL (hcell j u hu) hb⟩
  have hge := (hL.low _ hm).resolve_right (by simp)
  have h0 : c[0]? = some (c[0]'(by omega)) := List.getElem?_eq_getElem _
  have hlt := World.block_lt_of_cell? w0 _ (hcell 0 _ h0)
  simp only at hlt hge
  simp; omega
attribute [local irreducible] Calls Wk.S Wk.C Wk.E Wk.X Wk.T Wk.Y Wk.anV Wk.orV Wk.andV Wk.shlV Wk.shrV Calm.wpLex CalmB.wpLex
def srcC (A : Option Addr) (n cap : Nat) (at_ seed : Int) : Array Value := #[.slice A n cap, .int .i64 at_, .int .u64 seed]
def byC (bs : List Int) : List (List Value) := bs.map fun b => [Value.int .u8 b]
theorem and255 (a : Int) : 0 ≤ Wk.andV .u64 a 255 ∧ Wk.andV .u64 a 255 ≤ 255 := by
  unfold Wk.andV
  have h1 : (BitVec.ofInt (IntKind.bits .u64) a &&& BitVec.ofInt (IntKind.bits .u64) 255).toNat ≤ 255 := by
    rw [BitVec.toNat_and]
    exact Nat.le_trans Nat.and_le_right (by decide)
  generalize (BitVec.ofInt (IntKind.bits .u64) a &&& BitVec.ofInt (IntKind.bits .u64) 255).toNat = m at *
  have h2 : IntKind.u64.wrap (m : Int) = m := wrap_in (by simp only [Wk.lo, Wk.hi]; omega)
  rw [h2]; omega
theorem Wk.r_ldSb {P : Program} {n : Nat} {O : List Nat} {w0 : World} {l : List (Nat × Value)} {L : List (Nat × TypeId × Array Value)} {o : Oper} {x : Operand} (tb : Tb P) {ty i : Nat} {A : Option Addr} {xs : List (List Value)} {v : Value} (ho : o.op = .load ty x) (hS : SlA O w0 1 A xs) (hx : ev l x = some (.pointer (some (sadr A (i * 1))))) (hc : xs[i]? = some [v]) (ht : lkT tb.s ty = some (false, 1)) : Rn P n O w0 l L o v := fun a w hF hL => by
  obtain ⟨_, b, off, hA, hb, hcell⟩ := hS i _ hc
  subst hA
  have h0 := hcell 0 v rfl
  have h1 := Kn.oldc hL h0 hb
  exact run_load1 ho (tb.one ht).1 (hF.eval hx) (by simpa [sadr] using h1)
def sdN (bs : List Int) (at_ sd : Int) : Int := IntKind.u64.wrap (IntKind.u64.wrap (IntKind.u64.wrap (sd * 6364136223846793005) + (if at_ < bs.length then bs.getD at_.toNat 0 else 0)) + 1442695040888963407)
def nxV (bs : List Int) (at_ sd : Int) : Int := if at_ < bs.length then bs.getD at_.toNat 0 else Wk.andV .u64 (Wk.shrV .u64 (sdN bs at_ sd) 40) 255
def pkV (bs : List Int) (n at_ sd : Int) : Int × Int × Int :=
  if n ≤ 1 then (0, at_, sd) else if 200 < n then ((nxV bs at_ sd * 256 + nxV bs (at_ + 1) (sdN bs at_ sd)).tmod n, at_ + 1 + 1, sdN bs (at_ + 1) (sdN bs at_ sd)) else ((nxV bs at_ sd).tmod n, at_ + 1, sdN bs at_ sd)
theorem nxV_rng {bs : List Int} (hb : ∀ b ∈ bs, 0 ≤ b ∧ b ≤ 255) (at_ sd : Int) (h0 : 0 ≤ at_) : 0 ≤ nxV bs at_ sd ∧ nxV bs at_ sd ≤ 255 := by
  unfold nxV
  split
  · rename_i h
    have hk : at_.toNat < bs.length := by omega
    have e : bs.getD at_.toNat 0 = bs[at_.toNat] := by simp [List.getD_eq_getElem?_getD, hk]
    rw [e]; exact hb _ (List.getElem_mem hk)
  · exact and255 _
set_option maxRecDepth 100000 in
set_option maxHeartbeats 1600000 in
theorem next_any (bs : List Int) (A : Option Addr) (cap gs : Nat) (at_ seed : Int) (w : World) (hS : SlA [gs] w 1 A (byC bs)) (hb : ∀ b ∈ bs, 0 ≤ b ∧ b ≤ 255) (hn : bs.length ≤ 1048576) (h0 : 0 ≤ at_) (h1 : at_ ≤ 1048576) (hg : w.heap[gs]? = some (.cells (srcC A bs.length cap at_ seed) 167 (0, 0))) :
    Calls Try.prog 120 #[.pointer (some ⟨gs, 0, none⟩)] w fun e w' => e = .returned (.int .i64 (nxV bs at_ seed)) ∧ Upd w w' gs 167 (srcC A bs.length cap (at_ + 1) (sdN bs at_ seed)) := by
  have hw3 : ∀ a, IntKind.i64.wrap (Wk.andV .u64 a 255) = Wk.andV .u64 a 255 := fun a => by have := and255 a; exact wrap_in (by simp only [Wk.lo, Wk.hi]; omega)
  by_cases hlt : at_ < bs.length
  · obtain ⟨k, rfl⟩ : ∃ k : Nat, at_ = (k : Int) := ⟨at_.toNat, by omega⟩
    have hkl : k < bs.length := by omega
    have hx : bs[k]? = some bs[k] := List.getElem?_eq_getElem hkl
    have hxc : (byC bs)[k]? = some [Value.int .u8 bs[k]] := by unfold byC; rw [List.getElem?_map, hx]; rfl
    have hkl' : k < (byC bs).length := by simpa [byC] using hkl
    have hbr := hb _ (List.getElem_mem hkl)
    have e1 : nxV bs (k : Int) seed = bs[k] := by unfold nxV; rw [if_pos hlt]; simp [List.getD_eq_getElem?_getD, hkl]
    have e2 : sdN bs (k : Int) seed = IntKind.u64.wrap (IntKind.u64.wrap (IntKind.u64.wrap (seed * 6364136223846793005) + bs[k]) + 1442695040888963407) := by unfold sdN; rw [if_pos hlt]; simp [List.getD_eq_getElem?_getD, hkl]
    rw [e1, e2]
    unfold srcC at hg ⊢
    clear e1 e2
    generalize bs[k] = b at *
    have hw1 : IntKind.i64.wrap b = b := wrap_in (by simp only [Wk.lo, Wk.hi]; omega)
    have hw2 : IntKind.u64.wrap b = b := wrap_in (by simp only [Wk.lo, Wk.hi]; omega)
    refine enter1 Try.func120 rfl rfl rfl (Own.startAt w hg) ?_
    repeat' (first | (refine s_g ?_; first | (refine s_k 0 rfl ?_; refine zsv (r_move rfl rfl) ?_) | (refine s_k 23 rfl ?_; first | refine zsv (r_field tb rfl rfl rfl) ?_ | refine zsv (r_fieldS tb rfl rfl rfl) ?_) | (refine s_k 8 rfl ?_; first | refine zsv (r_ldSb tb rfl hS rfl hxc rfl) ?_ | (refine' s_val rfl rfl rfl (r_ldv rfl rfl ?qm ?qv) ?_; (case qm => (exact zMm)); (case qv => (exact zLe))) | (refine' s_val rfl rfl rfl (r_ldo rfl rfl ?qw (by simp) ?qv) ?_; (case qw => assumption); (case qv => (exact zLe)))) | (refine s_k 1 rfl ?_; refine zsv (r_assign rfl rfl) ?_) | (refine s_k 13 rfl ?_; first | refine zsv (r_mul (k := .u64) rfl rfl rfl rfl) ?_ | refine zsv (r_add (k := .u64) rfl rfl rfl rfl) ?_ | refine zsv (r_lss rfl rfl rfl) ?_ | refine zsv (r_add rfl rfl rfl zWr) ?_ | refine zsv (r_leq rfl rfl rfl) ?_ | refine zsv (r_mul rfl rfl rfl zWr) ?_ | refine zsv (r_and rfl rfl rfl) ?_ | refine zsv (r_shr rfl rfl rfl (by omega)) ?_) | (refine s_k 15 rfl ?_; first | refine zsv (r_conv tb rfl rfl rfl rfl hw1) ?_ | refine zsv (r_conv tb rfl rfl rfl rfl hw2) ?_ | refine zsv (r_conv tb rfl rfl rfl rfl zWr) ?_) | (refine s_k 25 rfl ?_; first | refine zsv (r_ixS tb rfl hS rfl rfl rfl (by simp [byC]) hkl') ?_ | refine zsv (r_ixN tb rfl rfl rfl rfl (by omega)) ?_ | refine zsv (r_ixA tb rfl rfl rfl rfl (by omega) (by omega)) ?_ | refine zsv (r_ixO tb rfl rfl rfl rfl (by omega)) ?_) | (refine s_k 9 rfl ?_; (first | refine s_st1 tb rfl rfl rfl rfl rfl rfl rfl rfl ?_ | refine s_stA tb rfl rfl rfl rfl zSz rfl rfl ?_); (first | refine' st0 ?qs ?_ | refine' st1 ?qs ?_ | refine' st2 ?qs ?_ | refine' st3 ?qs ?_ | refine' st4 ?qs ?_ | refine' st5 ?qs ?_ | refine' st6 ?qs ?_ | refine' st7 ?qs ?_ | refine' st8 ?qs ?_ | refine' st9 ?qs ?_ | refine' st10 ?qs ?_ | refine' st11 ?qs ?_); (case qs => (first | exact set_one (by simp) rfl | exact zSet)); (first | ((refine absA0 (fun c => c = #[.slice A bs.length cap, .int .i64 ((k : Int) + 1), .int .u64 seed]) rfl fun c5 hc5 => ?_; subst hc5)) | ((refine absA0 (fun c => c = #[.slice A bs.length cap, .int .i64 ((k : Int) + 1), .int .u64 (IntKind.u64.wrap (IntKind.u64.wrap (IntKind.u64.wrap (seed * 6364136223846793005) + b) + 1442695040888963407))]) rfl fun c5 hc5 => ?_; subst hc5)) | skip)) | (refine s_k 36 rfl ?_; refine zsv (r_len tb rfl rfl rfl) ?_) | (refine s_k 12 rfl ?_; refine zsv (r_nil rfl rfl) ?_) | refine s_nil ?_) | (refine c_g ?_; first | refine c_seq ?_ | refine c_region ?_ | (refine c_gc ?_; first | refine c_cond1 rfl zTr ?_ | refine c_cond0 rfl zTr ?_) | refine c_block ?_ | refine c_skip ?_ | refine c_exit ?_ | refine c_ret ?_) | (refine e_g ?_; first | refine e_then ?_ | refine e_blkn ?_ | refine e_thenx ?_ | refine e_thenr ?_ | refine e_blkr ?_ | refine e_blkx ?_ | refine e_blky rfl ?_) | (refine x_g ?_; first | (refine x_k 0 rfl ?_; (refine zxv (r_move rfl rfl) ?hp ?_; (case hp => exact rfl))) | (refine x_k 23 rfl ?_; first | (refine zxv (r_field tb rfl rfl rfl) ?hp ?_; (case hp => exact rfl)) | (refine zxv (r_fieldS tb rfl rfl rfl) ?hp ?_; (case hp => exact rfl))) | (refine x_k 8 rfl ?_; first | (refine zxv (r_ldSb tb rfl hS rfl hxc rfl) ?hp ?_; (case hp => exact rfl)) | (refine' x_val rfl rfl rfl (r_ldv rfl rfl ?qm ?qv) ?hp ?_; (case qm => (exact zMm)); (case qv => (exact zLe)); (case hp => exact rfl)) | (refine' x_val rfl rfl rfl (r_ldo rfl rfl ?qw (by simp) ?qv) ?hp ?_; (case qw => assumption); (case qv => (exact zLe)); (case hp => exact rfl))) | (refine x_k 1 rfl ?_; (refine zxv (r_assign rfl rfl) ?hp ?_; (case hp => exact rfl))) | (refine x_k 13 rfl ?_; first | (refine zxv (r_mul (k := .u64) rfl rfl rfl rfl) ?hp ?_; (case hp => exact rfl)) | (refine zxv (r_add (k := .u64) rfl rfl rfl rfl) ?hp ?_; (case hp => exact rfl)) | (refine zxv (r_lss rfl rfl rfl) ?hp ?_; (case hp => exact rfl)) | (refine zxv (r_add rfl rfl rfl zWr) ?hp ?_; (case hp => exact rfl)) | (refine zxv (r_leq rfl rfl rfl) ?hp ?_; (case hp => exact rfl)) | (refine zxv (r_mul rfl rfl rfl zWr) ?hp ?_; (case hp => exact rfl)) | (refine zxv (r_and rfl rfl rfl) ?hp ?_; (case hp => exact rfl)) | (refine zxv (r_shr rfl rfl rfl (by omega)) ?hp ?_; (case hp => exact rfl))) | (refine x_k 15 rfl ?_; first | (refine zxv (r_conv tb rfl rfl rfl rfl hw1) ?hp ?_; (case hp => exact rfl)) | (refine zxv (r_conv tb rfl rfl rfl rfl hw2) ?hp ?_; (case hp => exact rfl)) | (refine zxv (r_conv tb rfl rfl rfl rfl zWr) ?hp ?_; (case hp => exact rfl))) | (refine x_k 25 rfl ?_; first | (refine zxv (r_ixS tb rfl hS rfl rfl rfl (by simp [byC]) hkl') ?hp ?_; (case hp => exact rfl)) | (refine zxv (r_ixN tb rfl rfl rfl rfl (by omega)) ?hp ?_; (case hp => exact rfl)) | (refine zxv (r_ixA tb rfl rfl rfl rfl (by omega) (by omega)) ?hp ?_; (case hp => exact rfl)) | (refine zxv (r_ixO tb rfl rfl rfl rfl (by omega)) ?hp ?_; (case hp => exact rfl))) | (refine x_k 9 rfl ?_; first | (refine' x_putA0 tb rfl rfl rfl rfl zSz ?qs zSz rfl rfl ?hp ?_; (case qs => (first | exact set_one (by simp) rfl | exact zSet)); (case hp => exact rfl)) | (refine' x_putA1 tb rfl rfl rfl rfl zSz ?qs zSz rfl rfl ?hp ?_; (case qs => (first | exact set_one (by simp) rfl | exact zSet)); (case hp => exact rfl)) | (refine' x_putA2 tb rfl rfl rfl rfl zSz ?qs zSz rfl rfl ?hp ?_; (case qs => (first | exact set_one (by simp) rfl | exact zSet)); (case hp => exact rfl))) | (refine x_k 36 rfl ?_; (refine zxv (r_len tb rfl rfl rfl) ?hp ?_; (case hp => exact rfl))) | (refine x_k 12 rfl ?_; (refine zxv (r_nil rfl rfl) ?hp ?_; (case hp => exact rfl))) | refine x_nil0 ?_ | refine x_nil ?_) | (refine' c_drawX (id := 2) [(.inl _ : zQ), (.inl _ : zQ), (.inl _ : zQ), (.inl _ : zQ), (.inl _ : zQ), (.inl _ : zQ), (.inl _ : zQ), (.inl _ : zQ), (.inl _ : zQ), (.inl _ : zQ)] (by kernel_rfl) (by kernel_rfl) (by kernel_rfl) ?_) | (refine' c_drawX (id := 3) [(.inl _ : zQ), (.inl _ : zQ), (.inl _ : zQ), (.inl _ : zQ), (.inl _ : zQ), (.inl _ : zQ), (.inl _ : zQ), (.inl _ : zQ), (.inl _ : zQ), (.inl _ : zQ), (.inl _ : zQ), (.inl _ : zQ)] (by kernel_rfl) (by kernel_rfl) (by kernel_rfl) ?_) | (refine' c_drawX (id := 6) [(.inl _ : zQ), (.inl _ : zQ), (.inl _ : zQ), (.inl _ : zQ), (.inl _ : zQ), (.inl _ : zQ), (.inl _ : zQ), (.inl _ : zQ), (.inl _ : zQ), (.inl _ : zQ)] (by kernel_rfl) (by kernel_rfl) (by kernel_rfl) ?_) | (refine e_ret1 (by simp) rfl (re_tmp rfl) fun w hL => ⟨rfl, Upd.of hL m0⟩))
  · have hw0 : IntKind.u64.wrap 0 = 0 := by decide
    have e1 : nxV bs at_ seed = Wk.andV .u64 (Wk.shrV .u64 (sdN bs at_ seed) 40) 255 := by unfold nxV; rw [if_neg hlt]
    have e2 : sdN bs at_ seed = IntKind.u64.wrap (IntKind.u64.wrap (IntKind.u64.wrap (seed * 6364136223846793005) + 0) + 1442695040888963407) := by unfold sdN; rw [if_neg hlt]
    rw [e1, e2]
    unfold srcC at hg ⊢
    clear e1 e2
    refine enter1 Try.func120 rfl rfl rfl (Own.startAt w hg) ?_
    repeat' (first | (refine s_g ?_; first | (refine s_k 0 rfl ?_; refine zsv (r_move rfl rfl) ?_) | (refine s_k 23 rfl ?_; first | refine zsv (r_field tb rfl rfl rfl) ?_ | refine zsv (r_fieldS tb rfl rfl rfl) ?_) | (refine s_k 8 rfl ?_; first | (refine' s_val rfl rfl rfl (r_ldv rfl rfl ?qm ?qv) ?_; (case qm => (exact zMm)); (case qv => (exact zLe))) | (refine' s_val rfl rfl rfl (r_ldo rfl rfl ?qw (by simp) ?qv) ?_; (case qw => assumption); (case qv => (exact zLe)))) | (refine s_k 1 rfl ?_; refine zsv (r_assign rfl rfl) ?_) | (refine s_k 13 rfl ?_; first | refine zsv (r_mul (k := .u64) rfl rfl rfl rfl) ?_ | refine zsv (r_add (k := .u64) rfl rfl rfl rfl) ?_ | refine zsv (r_lss rfl rfl rfl) ?_ | refine zsv (r_add rfl rfl rfl zWr) ?_ | refine zsv (r_leq rfl rfl rfl) ?_ | refine zsv (r_mul rfl rfl rfl zWr) ?_ | refine zsv (r_and rfl rfl rfl) ?_ | refine zsv (r_shr rfl rfl rfl (by omega)) ?_) | (refine s_k 15 rfl ?_; first | refine zsv (r_conv tb rfl rfl rfl rfl hw0) ?_ | refine zsv (r_conv tb rfl rfl rfl rfl (hw3 _)) ?_ | refine zsv (r_conv tb rfl rfl rfl rfl zWr) ?_) | (refine s_k 25 rfl ?_; first | refine zsv (r_ixN tb rfl rfl rfl rfl (by omega)) ?_ | refine zsv (r_ixA tb rfl rfl rfl rfl (by omega) (by omega)) ?_ | refine zsv (r_ixO tb rfl rfl rfl rfl (by omega)) ?_) | (refine s_k 9 rfl ?_; (first | refine s_st1 tb rfl rfl rfl rfl rfl rfl rfl rfl ?_ | refine s_stA tb rfl rfl rfl rfl zSz rfl rfl ?_); (first | refine' st0 ?qs ?_ | refine' st1 ?qs ?_ | refine' st2 ?qs ?_ | refine' st3 ?qs ?_ | refine' st4 ?qs ?_ | refine' st5 ?qs ?_ | refine' st6 ?qs ?_ | refine' st7 ?qs ?_ | refine' st8 ?qs ?_ | refine' st9 ?qs ?_ | refine' st10 ?qs ?_ | refine' st11 ?qs ?_); (case qs => (first | exact set_one (by simp) rfl | exact zSet)); (first | ((refine absA0 (fun c => c = #[.slice A bs.length cap, .int .i64 (at_ + 1), .int .u64 seed]) rfl fun c5 hc5 => ?_; subst hc5)) | ((refine absA0 (fun c => c = #[.slice A bs.length cap, .int .i64 (at_ + 1), .int .u64 (IntKind.u64.wrap (IntKind.u64.wrap (IntKind.u64.wrap (seed * 6364136223846793005) + 0) + 1442695040888963407))]) rfl fun c5 hc5 => ?_; subst hc5)) | skip)) | (refine s_k 36 rfl ?_; refine zsv (r_len tb rfl rfl rfl) ?_) | (refine s_k 12 rfl ?_; refine zsv (r_nil rfl rfl) ?_) | refine s_nil ?_) | (refine c_g ?_; first | refine c_seq ?_ | refine c_region ?_ | (refine c_gc ?_; first | refine c_cond1 rfl zTr ?_ | refine c_cond0 rfl zTr ?_) | refine c_block ?_ | refine c_skip ?_ | refine c_exit ?_ | refine c_ret ?_) | (refine e_g ?_; first | refine e_then ?_ | refine e_blkn ?_ | refine e_thenx ?_ | refine e_thenr ?_ | refine e_blkr ?_ | refine e_blkx ?_ | refine e_blky rfl ?_) | (refine x_g ?_; first | (refine x_k 0 rfl ?_; (refine zxv (r_move rfl rfl) ?hp ?_; (case hp => exact rfl))) | (refine x_k 23 rfl ?_; first | (refine zxv (r_field tb rfl rfl rfl) ?hp ?_; (case hp => exact rfl)) | (refine zxv (r_fieldS tb rfl rfl rfl) ?hp ?_; (case hp => exact rfl))) | (refine x_k 8 rfl ?_; first | (refine' x_val rfl rfl rfl (r_ldv rfl rfl ?qm ?qv) ?hp ?_; (case qm => (exact zMm)); (case qv => (exact zLe)); (case hp => exact rfl)) | (refine' x_val rfl rfl rfl (r_ldo rfl rfl ?qw (by simp) ?qv) ?hp ?_; (case qw => assumption); (case qv => (exact zLe)); (case hp => exact rfl))) | (refine x_k 1 rfl ?_; (refine zxv (r_assign rfl rfl) ?hp ?_; (case hp => exact rfl))) | (refine x_k 13 rfl ?_; first | (refine zxv (r_mul (k := .u64) rfl rfl rfl rfl) ?hp ?_; (case hp => exact rfl)) | (refine zxv (r_add (k := .u64) rfl rfl rfl rfl) ?hp ?_; (case hp => exact rfl)) | (refine zxv (r_lss rfl rfl rfl) ?hp ?_; (case hp => exact rfl)) | (refine zxv (r_add rfl rfl rfl zWr) ?hp ?_; (case hp => exact rfl)) | (refine zxv (r_leq rfl rfl rfl) ?hp ?_; (case hp => exact rfl)) | (refine zxv (r_mul rfl rfl rfl zWr) ?hp ?_; (case hp => exact rfl)) | (refine zxv (r_and rfl rfl rfl) ?hp ?_; (case hp => exact rfl)) | (refine zxv (r_shr rfl rfl rfl (by omega)) ?hp ?_; (case hp => exact rfl))) | (refine x_k 15 rfl ?_; first | (refine zxv (r_conv tb rfl rfl rfl rfl hw0) ?hp ?_; (case hp => exact rfl)) | (refine zxv (r_conv tb rfl rfl rfl rfl (hw3 _)) ?hp ?_; (case hp => exact rfl)) | (refine zxv (r_conv tb rfl rfl rfl rfl zWr) ?hp ?_; (case hp => exact rfl))) | (refine x_k 25 rfl ?_; first | (refine zxv (r_ixN tb rfl rfl rfl rfl (by omega)) ?hp ?_; (case hp => exact rfl)) | (refine zxv (r_ixA tb rfl rfl rfl rfl (by omega) (by omega)) ?hp ?_; (case hp => exact rfl)) | (refine zxv (r_ixO tb rfl rfl rfl rfl (by omega)) ?hp ?_; (case hp => exact rfl))) | (refine x_k 9 rfl ?_; first | (refine' x_putA0 tb rfl rfl rfl rfl zSz ?qs zSz rfl rfl ?hp ?_; (case qs => (first | exact set_one (by simp) rfl | exact zSet)); (case hp => exact rfl)) | (refine' x_putA1 tb rfl rfl rfl rfl zSz ?qs zSz rfl rfl ?hp ?_; (case qs => (first | exact set_one (by simp) rfl | exact zSet)); (case hp => exact rfl)) | (refine' x_putA2 tb rfl rfl rfl rfl zSz ?qs zSz rfl rfl ?hp ?_; (case qs => (first | exact set_one (by simp) rfl | exact zSet)); (case hp => exact rfl))) | (refine x_k 36 rfl ?_; (refine zxv (r_len tb rfl rfl rfl) ?hp ?_; (case hp => exact rfl))) | (refine x_k 12 rfl ?_; (refine zxv (r_nil rfl rfl) ?hp ?_; (case hp => exact rfl))) | refine x_nil0 ?_ | refine x_nil ?_) | (refine' c_drawX (id := 2) [(.inl _ : zQ), (.inl _ : zQ), (.inl _ : zQ), (.inl _ : zQ), (.inl _ : zQ), (.inl _ : zQ), (.inl _ : zQ), (.inl _ : zQ), (.inl _ : zQ), (.inl _ : zQ)] (by kernel_rfl) (by kernel_rfl) (by kernel_rfl) ?_) | (refine' c_drawX (id := 6) [(.inl _ : zQ), (.inl _ : zQ), (.inl _ : zQ), (.inl _ : zQ), (.inl _ : zQ), (.inl _ : zQ), (.inl _ : zQ), (.inl _ : zQ), (.inl _ : zQ), (.inl _ : zQ)] (by kernel_rfl) (by kernel_rfl) (by kernel_rfl) ?_) | (refine e_ret1 (by simp) rfl (re_tmp rfl) fun w hL => ⟨rfl, Upd.of hL m0⟩))
theorem pkV_ok {bs : List Int} (hb : ∀ b ∈ bs, 0 ≤ b ∧ b ≤ 255) (n at_ sd : Int) (h0 : 0 ≤ at_) : 0 ≤ (pkV bs n at_ sd).1 ∧ ((pkV bs n at_ sd).1 < n ∨ (pkV bs n at_ sd).1 = 0) ∧ at_ ≤ (pkV bs n at_ sd).2.1 ∧ (pkV bs n at_ sd).2.1 ≤ at_ + 2 := by
  have h1 := nxV_rng hb at_ sd h0
  have h2 := nxV_rng hb (at_ + 1) (sdN bs at_ sd) (by omega)
  unfold pkV
  split
  · exact ⟨by simp, Or.inr rfl, by simp, by simp only; omega⟩
  · split
    · exact ⟨Int.tmod_nonneg _ (by omega), Or.inl (Int.tmod_lt_of_pos _ (by omega)), by simp only; omega, by simp only; omega⟩
    · exact ⟨Int.tmod_nonneg _ (by omega), Or.inl (Int.tmod_lt_of_pos _ (by omega)), by simp only; omega, by simp only; omega⟩
set_option maxRecDepth 100000 in
set_option maxHeartbeats 1600000 in
theorem pick_any (bs : List Int) (A : Option Addr) (cap gs : Nat) (at_ seed n : Int) (w : World) (hS : SlA [gs] w 1 A (byC bs)) (hb : ∀ b ∈ bs, 0 ≤ b ∧ b ≤ 255) (hn : bs.length ≤ 1048576) (h0 : 0 ≤ at_) (h1 : at_ ≤ 1048000) (hg : w.heap[gs]? = some (.cells (srcC A bs.length cap at_ seed) 167 (0, 0))) :
    Calls Try.prog 66 #[.pointer (some ⟨gs, 0, none⟩), .int .i64 n] w fun e w' => e = .returned (.int .i64 (pkV bs n at_ seed).1) ∧ ∃ cs', cs' = srcC A bs.length cap (pkV bs n at_ seed).2.1 (pkV bs n at_ seed).2.2 ∧ Upd w w' gs 167 cs' := by
  have hnx := fun w' (hL : SlA [gs] w' 1 A (byC bs)) at2 sd2 ha hb2 hg2 => next_any bs A cap gs at2 sd2 w' hL hb hn ha hb2 hg2
  have r1 := nxV_rng hb at_ seed h0
  have r2 := nxV_rng hb (at_ + 1) (sdN bs at_ seed) (by omega)
  unfold pkV
  by_cases hn1 : n ≤ 1
  · rw [if_pos hn1]
    refine enter2 Try.func66 rfl rfl rfl (Own.startAt w hg) ?_
    repeat' (first | (refine s_g ?_; first | (refine s_k 0 rfl ?_; refine zsv (r_move rfl rfl) ?_) | (refine s_k 1 rfl ?_; refine zsv (r_assign rfl rfl) ?_) | (refine s_k 13 rfl ?_; first | refine zsv (r_add rfl rfl rfl zWr) ?_ | refine zsv (r_leq rfl rfl rfl) ?_ | refine zsv (r_gtr rfl rfl rfl) ?_ | refine zsv (r_mul rfl rfl rfl zWr) ?_) | refine s_nil ?_) | (refine c_g ?_; first | refine c_seq ?_ | refine c_region ?_ | (refine c_gc ?_; first | refine c_cond1 rfl zTr ?_ | refine c_cond0 rfl zTr ?_) | refine c_block ?_ | refine c_skip ?_ | refine c_exit ?_ | refine c_ret ?_) | (refine e_g ?_; first | refine e_then ?_ | refine e_blkn ?_ | refine e_thenx ?_ | refine e_thenr ?_ | refine e_blkr ?_ | refine e_blkx ?_ | refine e_blky rfl ?_) | (refine e_ret1 (by simp) rfl (re_tmp rfl) fun w hL => ⟨rfl, _, rfl, Upd.of hL m0⟩))
  · rw [if_neg hn1]
    have h1a := fun w hL hg => hnx w hL at_ seed h0 (by omega) hg
    have h1b := fun w hL hg => hnx w hL (at_ + 1) (sdN bs at_ seed) (by omega) (by omega) hg
    generalize nxV bs at_ seed = u1 at *
    generalize nxV bs (at_ + 1) (sdN bs at_ seed) = u2 at *
    generalize sdN bs at_ seed = s1 at *
    generalize sdN bs (at_ + 1) s1 = s2 at *
    by_cases hn2 : 200 < n
    · rw [if_pos hn2]
      refine enter2 Try.func66 rfl rfl rfl (Own.startAt w hg) ?_
      repeat' (first | (refine s_g ?_; first | (refine s_k 0 rfl ?_; refine zsv (r_move rfl rfl) ?_) | (refine s_k 1 rfl ?_; refine zsv (r_assign rfl rfl) ?_) | (refine s_k 13 rfl ?_; first | refine zsv (r_rem rfl rfl rfl (by omega) rfl) ?_ | refine zsv (r_add rfl rfl rfl zWr) ?_ | refine zsv (r_leq rfl rfl rfl) ?_ | refine zsv (r_gtr rfl rfl rfl) ?_ | refine zsv (r_mul rfl rfl rfl zWr) ?_) | (refine s_k 35 rfl ?_; first | (refine s_callM0 (Pf := fun c => c = srcC A bs.length cap (at_ + 1) s1) Try.func120 (by kernel_rfl) rfl rfl rfl rfl rfl rfl (fun w hL hg => (h1a w (hS.at_ hL) hg).mono fun e w' ⟨he, hu⟩ => ⟨he, _, rfl, hu⟩) fun cs5 hcs5 => ?_; subst hcs5) | (refine s_callM0 (Pf := fun c => c = srcC A bs.length cap (at_ + 1 + 1) s2) Try.func120 (by kernel_rfl) rfl rfl rfl rfl rfl rfl (fun w hL hg => (h1b w (hS.at_ hL) hg).mono fun e w' ⟨he, hu⟩ => ⟨he, _, rfl, hu⟩) fun cs5 hcs5 => ?_; subst hcs5)) | refine s_nil ?_) | (refine c_g ?_; first | refine c_seq ?_ | refine c_region ?_ | (refine c_gc ?_; first | refine c_cond1 rfl zTr ?_ | refine c_cond0 rfl zTr ?_) | refine c_block ?_ | refine c_skip ?_ | refine c_exit ?_ | refine c_ret ?_) | (refine e_g ?_; first | refine e_then ?_ | refine e_blkn ?_ | refine e_thenx ?_ | refine e_thenr ?_ | refine e_blkr ?_ | refine e_blkx ?_ | refine e_blky rfl ?_) | (refine e_ret1 (by simp) rfl (re_tmp rfl) fun w hL => ⟨rfl, _, rfl, Upd.of hL m0⟩))
    · rw [if_neg hn2]
      refine enter2 Try.func66 rfl rfl rfl (Own.startAt w hg) ?_
      repeat' (first | (refine s_g ?_; first | (refine s_k 0 rfl ?_; refine zsv (r_move rfl rfl) ?_) | (refine s_k 1 rfl ?_; refine zsv (r_assign rfl rfl) ?_) | (refine s_k 13 rfl ?_; first | refine zsv (r_rem rfl rfl rfl (by omega) rfl) ?_ | refine zsv (r_add rfl rfl rfl zWr) ?_ | refine zsv (r_leq rfl rfl rfl) ?_ | refine zsv (r_gtr rfl rfl rfl) ?_ | refine zsv (r_mul rfl rfl rfl zWr) ?_) | (refine s_k 35 rfl ?_; (refine s_callM0 (Pf := fun c => c = srcC A bs.length cap (at_ + 1) s1) Try.func120 (by kernel_rfl) rfl rfl rfl rfl rfl rfl (fun w hL hg => (h1a w (hS.at_ hL) hg).mono fun e w' ⟨he, hu⟩ => ⟨he, _, rfl, hu⟩) fun cs5 hcs5 => ?_; subst hcs5)) | refine s_nil ?_) | (refine c_g ?_; first | refine c_seq ?_ | refine c_region ?_ | (refine c_gc ?_; first | refine c_cond1 rfl zTr ?_ | refine c_cond0 rfl zTr ?_) | refine c_block ?_ | refine c_skip ?_ | refine c_exit ?_ | refine c_ret ?_) | (refine e_g ?_; first | refine e_then ?_ | refine e_blkn ?_ | refine e_thenx ?_ | refine e_thenr ?_ | refine e_blkr ?_ | refine e_blkx ?_ | refine e_blky rfl ?_) | (refine e_ret1 (by simp) rfl (re_tmp rfl) fun w hL => ⟨rfl, _, rfl, Upd.of hL m0⟩))
set_option maxRecDepth 100000 in
theorem one_any (bs : List Int) (A : Option Addr) (cap gs : Nat) (at_ seed n : Int) (w : World) (hS : SlA [gs] w 1 A (byC bs)) (hb : ∀ b ∈ bs, 0 ≤ b ∧ b ≤ 255) (hn : bs.length ≤ 1048576) (h0 : 0 ≤ at_) (h1 : at_ ≤ 1048000) (hg : w.heap[gs]? = some (.cells (srcC A bs.length cap at_ seed) 167 (0, 0))) :
    Calls Try.prog 116 #[.pointer (some ⟨gs, 0, none⟩), .int .i64 n] w fun e w' => e = .returned (.bool (decide ((pkV bs n at_ seed).1 = 0))) ∧ ∃ cs', cs' = srcC A bs.length cap (pkV bs n at_ seed).2.1 (pkV bs n at_ seed).2.2 ∧ Upd w w' gs 167 cs' := by
  have hpk := fun w hS hg => pick_any bs A cap gs at_ seed n w hS hb hn h0 h1 hg
  generalize pkV bs n at_ seed = q at *
  obtain ⟨r, at1, sd1⟩ := q
  refine enter2 Try.func116 rfl rfl rfl (Own.startAt w hg) ?_
  repeat' (first | (refine s_g ?_; first | (refine s_k 0 rfl ?_; refine zsv (r_move rfl rfl) ?_) | (refine s_k 1 rfl ?_; refine zsv (r_assign rfl rfl) ?_) | (refine s_k 13 rfl ?_; refine zsv (r_eql rfl rfl rfl) ?_) | (refine s_k 35 rfl ?_; (refine s_callM0 Try.func66 (by kernel_rfl) rfl rfl rfl rfl rfl rfl (fun w hL hg => hpk w (hS.at_ hL) hg) fun cs5 hcs5 => ?_; subst hcs5)) | refine s_nil ?_) | (refine c_g ?_; first | refine c_seq ?_ | refine c_region ?_ | (refine c_gc ?_; first | refine c_cond1 rfl zTr ?_ | refine c_cond0 rfl zTr ?_) | refine c_block ?_ | refine c_skip ?_ | refine c_exit ?_ | refine c_ret ?_) | (refine e_g ?_; first | refine e_then ?_ | refine e_blkn ?_ | refine e_thenx ?_ | refine e_thenr ?_ | refine e_blkr ?_ | refine e_blkx ?_ | refine e_blky rfl ?_) | (refine e_ret1 (by simp) rfl (re_tmp rfl) fun w hL => ⟨rfl, _, rfl, Upd.of hL m0⟩))
theorem uL00 (v : Value) (hv : v.oneCell' = true) (w : World) : (Instr.build 167 #[(0, v)]).run Try.prog w = .ok (.agg #[v, .int .i64 0, .int .u64 0]) w := by
  cases v <;> first | (simp [Value.oneCell'] at hv; done) | kernel_rfl
def NewSrc (A : Option Addr) (n cap : Nat) (w : World) (e : Ending) (w' : World) : Prop := ∃ g, e = .returned (.pointer (some ⟨g, 0, none⟩)) ∧ Kn [] w w' [(g, 167, srcC A n cap 0 0)]
set_option maxRecDepth 100000 in
theorem from_any (A : Option Addr) (n cap : Nat) (w : World) : Calls Try.prog 64 #[.slice A n cap] w (NewSrc A n cap w) := by
  refine enter1 Try.func64 rfl rfl rfl (Own.start w) ?_
  repeat' (first | (refine s_g ?_; first | (refine s_k 0 rfl ?_; refine zsv (r_move rfl rfl) ?_) | (refine s_k 1 rfl ?_; refine zsv (r_assign rfl rfl) ?_) | (refine s_k 4 rfl ?_; first | refine s_boxA rfl rfl rfl rfl rfl fun blk => ?_ | refine s_box1 rfl rfl rfl rfl rfl rfl fun blk => ?_) | (refine s_k 5 rfl ?_; refine zsv (r_build rfl rfl (fun w => uL00 _ rfl w)) ?_) | refine s_nil ?_) | (refine c_g ?_; first | refine c_seq ?_ | refine c_region ?_ | (refine c_gc ?_; first | refine c_cond1 rfl zTr ?_ | refine c_cond0 rfl zTr ?_) | refine c_block ?_ | refine c_skip ?_ | refine c_exit ?_ | refine c_ret ?_) | (refine e_g ?_; first | refine e_then ?_ | refine e_blkn ?_ | refine e_thenx ?_ | refine e_thenr ?_ | refine e_blkr ?_ | refine e_blkx ?_ | refine e_blky rfl ?_) | (refine e_ret1 (by simp) rfl (re_tmp rfl) fun w hL => ⟨_, rfl, hL⟩))
theorem s_from {P : Program} {ops : Array Oper} {Q : Exit → Act → World → Prop} {n : Nat} {O : List Nat} {w0 : World} {o : Oper} {rest : List Oper} {l : List (Nat × Value)} {L : List (Nat × TypeId × Array Value)} {f : FuncId} {fn : Func} {xs : Array Operand} {ts : Array TypeId} {vs : List Value} {d : Nat} {A : Option Addr} {k cap : Nat} (hf : P.funcs[f]? = some fn) (hname : (fn.name == "runtime.NumGoroutine") = false) (hb : fn.body.isSome = true) (hg : o.guard = none) (hd : o.dst = some d) (hn : Nat.blt d n = true)
    (hop : o.op = .call { callee := .value (.func f), args := xs, argTypes := ts }) (hargs : evs l xs.toList = some vs) (hc : ∀ w, Kn O w0 w L → Calls P f vs.toArray w (NewSrc A k cap w)) (h : ∀ g, Wk.S P ops Q n O w0 rest ((d, .pointer (some ⟨g, 0, none⟩)) :: l) ((g, 167, srcC A k cap 0 0) :: L)) : Wk.S P ops Q n O w0 (o :: rest) l L :=
  s_callR (ι := Nat) (fun _ => True) (fun g => .pointer (some ⟨g, 0, none⟩)) (fun g => (g, 167, srcC A k cap 0 0) :: L) hf hname hb hg hd hn hop hargs
    (fun w hL => (hc w hL).mono fun e w' ⟨g, he, hN⟩ => ⟨g, trivial, he, Kn.app hL hN⟩) (fun g _ => h g)
end Go.Proofs.Ytnfdefeafhepkaa
namespace Go.Proofs.Ytnfdefeafhepkaa
open Go.RowKit Mem Wk
attribute [local irreducible] Calls Wk.S Wk.C Wk.E Wk.X Wk.T Wk.anV Wk.orV Wk.andV Wk.shlV Wk.shrV Calm.wpLex
def sdOf (s : Bool) : Int := if s then 2 else 1
def isH (p : Nat → Int) (h : Hd) : Bool := isC (p 0) (p 1) h.x h.y && isC (p 0) (p 1) (nextX h.x (sdOf h.s)) (nextY h.y (sdOf h.s))
end Go.Proofs.Ytnfdefeafhepkaa
namespace Go.Proofs.Ytnfdefeafhepkaa
open Go.RowKit Mem Wk
attribute [local irreducible] Calls Wk.S Wk.C Wk.E Wk.X Wk.T Wk.anV Wk.orV Wk.andV Wk.shlV Wk.shrV Calm.wpLex
theorem Wk.r_ldSp {P : Program} {n : Nat} {O : List Nat} {w0 : World} {l : List (Nat × Value)} {L : List (Nat × TypeId × Array Value)} {o : Oper} {x : Operand} (tb : Tb P) {ty sz i m j e : Nat} {A : Option Addr} {xs : List (List Value)} {c c' : List Value} (ho : o.op = .load ty x) (hS : SlA O w0 sz A xs) (hx : ev l x = some (.pointer (some (sadr A e)))) (he : e = i * sz + j) (hc : xs[i]? = some c) (hp : (c.drop j).take m = c') (ht : lkT tb.s ty = some (true, m)) (hfit : c'.length = m) : Rn P n O w0 l L o (.agg c'.toArray) := fun a w hF hL => by
  obtain ⟨hl, b, off, hA, hb, hcell⟩ := hS i c hc
  subst hA; subst he
  refine run_loadA ho (tb.agg ht).1 (b := b) (off := off + i * sz + j) (by simpa [sadr, Nat.add_assoc] using hF.eval hx) (fun k u hu => ?_) (tb.agg ht).2 hfit
  subst hp
  rw [List.getElem?_take] at hu
  split at hu
  · rw [List.getElem?_drop] at hu
    have := hcell (j + k) u hu
    rw [show off + i * sz + j + k = off + i * sz + (j + k) by omega]
    exact Kn.oldc hL this hb
  · cases hu
end Go.Proofs.Ytnfdefeafhepkaa
namespace Go.Proofs.Ytnfdefeafhepkaa
open Go.RowKit Mem Wk

attribute [local irreducible] Calls Wk.S Wk.C Wk.E Wk.X Wk.T Wk.anV Wk.orV Wk.andV Wk.shlV Wk.shrV Calm.wpLex
def flH (l : List Hd) : List Value := (l.map Hd.cells).flatten
theorem Wk.Ap.hd {n cap : Nat} {cur : Array Value} {l : List Hd} (h : Ap 3 n cap cur (flH l)) {i : Nat} {s : Hd} (hi : l[i]? = some s) : (0 + i * 3 + 3 ≤ cur.size ∧ cur.extract (0 + i * 3) (0 + i * 3 + 3) = #[.int .i8 s.x, .int .i8 s.y, .bool s.s]) ∧ 0 + i * 3 + 0 + 2 ≤ cur.size ∧ cur.extract (0 + i * 3 + 0) (0 + i * 3 + 0 + 2) = #[.int .i8 s.x, .int .i8 s.y] := by
  simp only [Nat.zero_add, Nat.add_zero]
  have hx : (l.map Hd.cells)[i]? = some s.cells := by simp [hi]
  have he := h.elem (lenHd l) hx
  have h0 : cur[i * 3 + 0]? = some (.int .i8 s.x) := he 0 (by omega)
  have h1 : cur[i * 3 + 1]? = some (.int .i8 s.y) := he 1 (by omega)
  have h2 : cur[i * 3 + 2]? = some (.bool s.s) := he 2 (by omega)
  obtain ⟨q0, e0⟩ := Array.getElem?_eq_some_iff.1 h0
  obtain ⟨q1, e1⟩ := Array.getElem?_eq_some_iff.1 h1
  obtain ⟨q2, e2⟩ := Array.getElem?_eq_some_iff.1 h2
  refine ⟨⟨by omega, ?_⟩, by omega, ?_⟩
  · apply Array.ext
    · simp; omega
    · intro j hj1 hj2
      simp only [List.size_toArray, List.length_cons, List.length_nil] at hj2
      rcases (by omega : j = 0 ∨ j = 1 ∨ j = 2) with rfl | rfl | rfl <;> simp_all [Array.getElem_extract]
  · apply Array.ext
    · simp; omega
    · intro j hj1 hj2
      simp only [List.size_toArray, List.length_cons, List.length_nil] at hj2
      rcases (by omega : j = 0 ∨ j = 1) with rfl | rfl <;> simp_all [Array.getElem_extract]
end Go.Proofs.Ytnfdefeafhepkaa
namespace Go.Proofs.Ytnfdefeafhepkaa
open Go.RowKit Mem Wk
attribute [local irreducible] Calls Wk.S Wk.C Wk.E Wk.X Wk.T Wk.anV Wk.orV Wk.andV Wk.shlV Wk.shrV Calm.wpLex
theorem validP_dims {p : Nat → Int} (h : validP p = true) : p 0 = ((p 0).toNat : Int) ∧ p 1 = ((p 1).toNat : Int) ∧ (p 0).toNat ≤ 10 ∧ (p 1).toNat ≤ 10 := by
  unfold validP at h
  simp only [Bool.and_eq_true] at h
  obtain ⟨h0, h1, _⟩ := h
  unfold inB at h0 h1
  simp at h0 h1
  omega
theorem isH_cells {p : Nat → Int} {h : Hd} (hh : isH p h = true) : isC (p 0) (p 1) h.x h.y = true ∧ isC (p 0) (p 1) (nextX h.x (sdOf h.s)) (nextY h.y (sdOf h.s)) = true := by
  unfold isH at hh; simpa using hh
end Go.Proofs.Ytnfdefeafhepkaa
namespace Go.Proofs.Ytnfdefeafhepkaa
open Go.RowKit Mem Wk
attribute [local irreducible] Calls Wk.S Wk.C Wk.E Wk.X Wk.T Wk.anV Wk.orV Wk.andV Wk.shlV Wk.shrV Calm.wpLex
theorem Pv.setGrassA {p : Nat → Int} {cs : Array Value} {x y v : Int} (hp : Pv p cs) (hx : 0 ≤ x ∧ x < 10) (hy : 0 ≤ y ∧ y < 10) (h3 : -32768 ≤ v ∧ v ≤ 32767) : Pv (upd p (gi x y) v) (cs.setIfInBounds (0 + 2 + y.toNat * 10 + x.toNat * 1) (.int .i16 v)) := by
  have h := gi_lt hx hy
  have e : 0 + 2 + y.toNat * 10 + x.toNat * 1 = gi x y := by unfold gi; omega
  rw [e]; exact hp.setGrass h.1 h.2 h3
def base (a b : Int) : Nat → Int := upd (upd (fun _ => 0) 0 a) 1 b
theorem putP_keep (q : Nat → Int) (x y : Int) (s on : Bool) {i : Nat} (h : i < 102) : putP q x y s on i = q i := by
  unfold putP; split <;> exact upd_ne _ _ (by omega)
end Go.Proofs.Ytnfdefeafhepkaa
