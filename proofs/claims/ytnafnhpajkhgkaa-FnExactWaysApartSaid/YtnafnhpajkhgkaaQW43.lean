import Derived.Shelf.SlSortCmp.WholeK
import Derived.Test.YtnafnhpajkhgkaaProg
import Derived.Test.YtnafnhpajkhgkaaQW22
import Derived.Test.YtnafnhpajkhgkaaQW26
import Derived.Test.YtnafnhpajkhgkaaQW27
/- The library's sort lies in this program. No condition. -/
namespace Go.Proofs.Ytnafnhpajkhgkaa
open Go.Shelf
def sortSp_ren : Go.Shelf.Ren := ⟨fun | 6 => 81 | 15 => 99 | 14 => 104 | 28 => 117 | 29 => 118 | 20 => 120 | 21 => 121 | 22 => 122 | 23 => 123 | 24 => 124 | 25 => 125 | 26 => 126 | 27 => 127 | 46 => 133 | 47 => 129 | 48 => 130 | 49 => 134 | 50 => 135 | 57 => 137 | n => n, fun | 22 => 36 | 24 => 52 | 25 => 96 | 3 => 3 | 39 => 115 | 0 => 0 | 53 => 157 | 55 => 159 | 4 => 4 | 46 => 150 | 45 => 149 | 50 => 154 | 5 => 5 | 9 => 9 | 66 => 166 | 70 => 170 | 76 => 174 | 77 => 175 | n => n, fun | n => n⟩
theorem sortSp : SlLaysF0.n6 Try.prog sortSp_ren := {
  mixed := by kernel_rfl
  f6 := ⟨Try.f81.name, by decide, Try.func81.trans (congrArg some (by kernel_rfl))⟩
  f14 := ⟨Try.f104.name, by decide, Try.func104.trans (congrArg some (by kernel_rfl))⟩
  f15 := Try.func99.trans (congrArg some (by kernel_rfl))
  f20 := ⟨Try.f120.name, by decide, Try.func120.trans (congrArg some (by kernel_rfl))⟩
  f21 := ⟨Try.f121.name, by decide, Try.func121.trans (congrArg some (by kernel_rfl))⟩
  f22 := ⟨Try.f122.name, by decide, Try.func122.trans (congrArg some (by kernel_rfl))⟩
  f23 := ⟨Try.f123.name, by decide, Try.func123.trans (congrArg some (by kernel_rfl))⟩
  f24 := ⟨Try.f124.name, by decide, Try.func124.trans (congrArg some (by kernel_rfl))⟩
  f25 := ⟨Try.f125.name, by decide, Try.func125.trans (congrArg some (by kernel_rfl))⟩
  f26 := ⟨Try.f126.name, by decide, Try.func126.trans (congrArg some (by kernel_rfl))⟩
  f27 := ⟨Try.f127.name, by decide, Try.func127.trans (congrArg some (by kernel_rfl))⟩
  f28 := Try.func117.trans (congrArg some (by kernel_rfl))
  f29 := Try.func118.trans (congrArg some (by kernel_rfl))
  f46 := ⟨Try.f133.name, by decide, Try.func133.trans (congrArg some (by kernel_rfl))⟩
  f47 := Try.func129.trans (congrArg some (by kernel_rfl))
  f48 := Try.func130.trans (congrArg some (by kernel_rfl))
  f49 := ⟨Try.f134.name, by decide, Try.func134.trans (congrArg some (by kernel_rfl))⟩
  f50 := ⟨Try.f135.name, by decide, Try.func135.trans (congrArg some (by kernel_rfl))⟩
  f57 := ⟨Try.f137.name, by decide, Try.func137.trans (congrArg some (by kernel_rfl))⟩
  t0 := Try.underlying0
  a0 := Try.isAgg0
  z0 := Try.sizeOf0
  v0 := Try.zeroValue0
  t3 := Try.underlying3
  a3 := Try.isAgg3
  z3 := Try.sizeOf3
  v3 := Try.zeroValue3
  t4 := Try.underlying4
  a4 := Try.isAgg4
  z4 := Try.sizeOf4
  v4 := Try.zeroValue4
  t5 := Try.underlying5
  a5 := Try.isAgg5
  z5 := Try.sizeOf5
  v5 := Try.zeroValue5
  t9 := Try.underlying9
  a9 := Try.isAgg9
  z9 := Try.sizeOf9
  v9 := Try.zeroValue9
  t22 := Try.underlying36
  a22 := Try.isAgg36
  z22 := Try.sizeOf36
  v22 := Try.zeroValue36
  t25 := Try.underlying96
  a25 := Try.isAgg96
  z25 := Try.sizeOf96
  v25 := Try.zeroValue96
  t39 := Try.underlying115
  a39 := Try.isAgg115
  z39 := Try.sizeOf115
  v39 := Try.zeroValue115
  t45 := Try.underlying149
  a45 := Try.isAgg149
  z45 := Try.sizeOf149
  v45 := Try.zeroValue149
  t46 := Try.underlying150
  a46 := Try.isAgg150
  z46 := Try.sizeOf150
  v46 := Try.zeroValue150
  t50 := Try.underlying154
  a50 := Try.isAgg154
  z50 := Try.sizeOf154
  v50 := Try.zeroValue154
  t53 := Try.underlying157
  a53 := Try.isAgg157
  z53 := Try.sizeOf157
  v53 := Try.zeroValue157
  t55 := Try.underlying159
  a55 := Try.isAgg159
  z55 := Try.sizeOf159
  v55 := Try.zeroValue159
  t66 := Try.underlying166
  a66 := Try.isAgg166
  z66 := Try.sizeOf166
  v66 := Try.zeroValue166
  t70 := Try.underlying170
  a70 := Try.isAgg170
  z70 := Try.sizeOf170
  v70 := Try.zeroValue170
  t76 := Try.underlying174
  a76 := Try.isAgg174
  z76 := Try.sizeOf174
  v76 := Try.zeroValue174
  t77 := Try.underlying175
  a77 := Try.isAgg175
  z77 := Try.sizeOf175
  v77 := Try.zeroValue175 }
end Go.Proofs.Ytnafnhpajkhgkaa
/- slices.SortFunc of cells and of hurdles: the same elements, in order. No condition but a length of at most 2^20. -/
namespace Go.Proofs.Ytnafnhpajkhgkaa
set_option linter.unusedVariables false
set_option linter.unusedSimpArgs false
open Go.RowKit Mem Wk Go.Sort Go.Shelf

theorem encS_len (x : SpR) : (encS x).length = 2 := rfl
theorem encS_one (x : SpR) : ∀ v ∈ encS x, v.oneCell' = true := fun v hv => by
  have hv' : v ∈ [Value.int .i8 x.val.x, Value.int .i8 x.val.y] := hv
  simp only [List.mem_cons, List.mem_nil_iff, or_false] at hv'
  rcases hv' with rfl | rfl <;> rfl
theorem sortS_any (L : List Sp) (g n cap : Nat) (cur : Array Value) (w : World) (hA : Ap 2 n cap cur (flS L)) (hg : w.heap[g]? = some (.cells cur 52 (0, 0))) (hn : L.length ≤ 1048576) (hin : ∀ s ∈ L, inR s) :
    Calls Try.prog 81 #[.slice (some ⟨g, 0, none⟩) n cap, .func (.func 54) #[] #[]] w (SortP 52 Sp.cells (ltOf cmS) 2 n cap g L w) := by
  have hc := hA.cnt
  subst hc
  have hlt : g < w.heap.size := (Array.getElem?_eq_some_iff.1 hg).1
  have hLs : (L.attachWith inR hin).map (·.val) = L := attach_val L hin
  generalize L.attachWith inR hin = Ls at hLs
  have hsz : Ls.toArray.size = L.length := by rw [← hLs]; simp
  have hA' : Ap 2 L.length cap cur (Ls.map encS).flatten := by
    have : (Ls.map encS).flatten = flS L := by rw [← hLs]; unfold flS; rw [List.map_map]; rfl
    rw [this]; exact hA
  have h := AnyQ.slices_SortFunc sortSp 2 Try.isAgg52 Try.sizeOf52 encS encS_len encS_one cfS swoSR 54 #[] g 0 cap Ls.toArray w (enters_of Try.func54 (by kernel_rfl) rfl) (fun _ _ _ _ x y => cmpS_grow x y _) (holdsK_ap encS_len hA' hg) hlt (by rw [hsz]; omega)
  rw [hsz] at h
  refine Calls.mono h ?_
  intro e w' he
  exact sort_post (p := inR) (k := 2) (fun x => rfl) (by omega) (fun a b => rfl) hLs (by exact hA) hg (by rw [hsz]; exact he)
end Go.Proofs.Ytnafnhpajkhgkaa
