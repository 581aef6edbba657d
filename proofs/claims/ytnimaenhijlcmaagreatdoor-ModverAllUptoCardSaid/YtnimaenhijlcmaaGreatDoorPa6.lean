/- Joined texts of mine, 6: Ga, ShSort, Gb, Gc, Gd, Gf, Gg, Gh, Gi, OpenT, OpenM, OpenO. -/
import Derived.Shelf.SlSortCmp.Whole1
import Derived.Test.YtnimaenhijlcmaaGreatDoorProg
import Derived.Shelf.SlSortCmp.NoneTotal
import Derived.OpenShut
import Derived.ShutString
import Derived.SliceStrings
import Derived.ChangeSlices
import Derived.Below
import Derived.Carry
import Derived.WalkKit
import Derived.ProofKit
import Derived.Deep.DeepHandedRow
import Derived.Test.YtnimaenhijlcmaaGreatDoorPa5
section
namespace Go.Proofs.YtnimaenhijlcmaaGreatDoor.K
open Go.RowKit Go.Proofs.YtnimaenhijlcmaaGreatDoor.Q Go.Proofs.YtnimaenhijlcmaaGreatDoor.Mb Go.Proofs.YtnimaenhijlcmaaGreatDoorW.PrintWords
set_option linter.unusedVariables false
set_option linter.unusedSimpArgs false
theorem keyF_first (a b : L) : keyF a b = firstI [cmpB (aheadC 64 a) (aheadC 64 b), compareS (tlK a) (tlK b), cmpB (tlK a) (tlK b)] := by
  unfold keyF firstI
  split
  · rfl
  · unfold firstI
    split
    · rfl
    · unfold firstI firstI
      split
      · rfl
      · rename_i h
        exact Classical.not_not.1 h
set_option maxRecDepth 100000 in
set_option maxHeartbeats 8000000 in
theorem closure_c {w : World} {mx : Int} (hM : w.cell? ⟨0, 0, none⟩ = some (.int .i64 mx)) (a b : L) (ha : Bytes a) (hb : Bytes b) (la : a.length ≤ 1000) (lb : b.length ≤ 1000) :
    Calls Tryz.prog 34 #[.string (strOfNums a), .string (strOfNums b)] w fun e w' => e = .returned (.int .i64 (keyF a b)) ∧ Bel w.heap.size w w' := by
  have hN := keyF_first a b
  obtain ⟨a1, a2, a3, a4⟩ := cut_sub (s := a)
  obtain ⟨b1, b2, b3, b4⟩ := cut_sub (s := b)
  have c1 := fun (w1 : World) (h1 : w1.cell? ⟨0, 0, none⟩ = some (.int .i64 mx)) => cutb_cD (strOfNums a) 64 (by rw [← bl_length, blS ha]; omega) w1 mx h1
  have c2 := fun (w1 : World) (h1 : w1.cell? ⟨0, 0, none⟩ = some (.int .i64 mx)) => cutb_cD (strOfNums b) 64 (by rw [← bl_length, blS hb]; omega) w1 mx h1
  rw [show ((64 : UInt8).toNat : Int) = 64 from rfl, blS ha] at c1
  rw [show ((64 : UInt8).toNat : Int) = 64 from rfl, blS hb] at c2
  have c1 : ∀ (w1 : World) (h1 : w1.cell? ⟨0, 0, none⟩ = some (.int .i64 mx)), Calls Tryz.prog 35 #[.string (strOfNums a), .string ⟨#[64]⟩] w1 fun e w' => e = .returned (.tuple #[.string (strOfNums (aheadC 64 a)), .string (strOfNums (tlK a)), .bool (cutC 64 a).isSome]) ∧ Bel w1.heap.size w1 w' := c1
  have c2 : ∀ (w1 : World) (h1 : w1.cell? ⟨0, 0, none⟩ = some (.int .i64 mx)), Calls Tryz.prog 35 #[.string (strOfNums b), .string ⟨#[64]⟩] w1 fun e w' => e = .returned (.tuple #[.string (strOfNums (aheadC 64 b)), .string (strOfNums (tlK b)), .bool (cutC 64 b).isSome]) ∧ Bel w1.heap.size w1 w' := c2
  have o1 := fun w1 => orderS_c (strOfNums (aheadC 64 a)) (strOfNums (aheadC 64 b)) w1
  have o2 := fun w1 => orderS_c (strOfNums (tlK a)) (strOfNums (tlK b)) w1
  have o3 := fun (w1 : World) (h1 : w1.cell? ⟨0, 0, none⟩ = some (.int .i64 mx)) => CompareD_c h1 (strOfNums (tlK a)) (strOfNums (tlK b))
  rw [blS (fun y hy => ha y (a1 y hy)), blS (fun y hy => hb y (b1 y hy))] at o1
  rw [blS (fun y hy => ha y (a2 y hy)), blS (fun y hy => hb y (b2 y hy))] at o2 o3
  generalize aheadC 64 a = p at c1 o1 hN
  generalize tlK a = v at c1 o2 o3 hN
  generalize aheadC 64 b = q at c2 o1 hN
  generalize tlK b = u at c2 o2 o3 hN
  generalize (cutC 64 a).isSome = t1 at c1
  generalize (cutC 64 b).isSome = t2 at c2
  generalize cmpB p q = x at o1 hN
  generalize cmpB v u = z at o2 hN
  generalize compareS v u = y at o3 hN
  refine enter (args := [.string (strOfNums a), .string (strOfNums b)]) Tryz.func34 rfl Tryz.ntmps34 rfl ?_
  have H : Hd w w [] [] := HpS.nil w
  repeat' (first | (with_reducible first | refine p_tn ?_ | refine wp_seq ?_ | refine w_reg ?_ | refine l_nil ?_) | ((with_reducible refine g_on ?_); (first | ((with_reducible refine g_mv ?_); refine l_p txs rfl rfl ?_) | ((with_reducible refine g_as ?_); refine l_p txs rfl rfl ?_))))
  (with_reducible refine is_l ?_); refine l_callv rfl rfl (by kernel_rfl) (c1 _ (H.old hM)) (fun w_ K => ?_)
  have H := H.callD K
  repeat' (first | (with_reducible first | refine p_tn ?_ | refine wp_seq ?_ | refine w_reg ?_ | refine l_nil ?_) | ((with_reducible refine g_on ?_); (first | ((with_reducible refine g_mv ?_); refine l_p txs rfl rfl ?_) | ((with_reducible refine g_as ?_); refine l_p txs rfl rfl ?_) | ((with_reducible refine g_ex ?_); refine l_p txs rfl rfl ?_))))
  (with_reducible refine is_l ?_); refine l_callv rfl rfl (by kernel_rfl) (c2 _ (H.old hM)) (fun w_ K => ?_)
  have H := H.callD K
  repeat' (first | (with_reducible first | refine p_tn ?_ | refine wp_seq ?_ | refine w_reg ?_ | refine l_nil ?_) | ((with_reducible refine g_on ?_); (first | ((with_reducible refine g_mv ?_); refine l_p txs rfl rfl ?_) | ((with_reducible refine g_as ?_); refine l_p txs rfl rfl ?_) | ((with_reducible refine g_ex ?_); refine l_p txs rfl rfl ?_))))
  (with_reducible refine is_l ?_); refine l_callp rfl rfl (by kernel_rfl) (o1 _) ?_
  repeat' ((with_reducible refine g_on ?_); ((with_reducible refine g_mv ?_); refine l_p txs rfl rfl ?_))
  (with_reducible refine is_l ?_); refine l_callv rfl rfl (by kernel_rfl) (o3 _ (H.old hM)) (fun w_ K => ?_)
  have H := H.callD K
  repeat' ((with_reducible refine g_on ?_); ((with_reducible refine g_mv ?_); refine l_p txs rfl rfl ?_))
  (with_reducible refine is_l ?_); refine l_callp rfl rfl (by kernel_rfl) (o2 _) ?_
  skip
  (with_reducible refine is_l ?_); refine h_bsn (cs := [.int .i64 x, .int .i64 y, .int .i64 z]) (pv := [(0, .int .i64 x), (1, .int .i64 y), (2, .int .i64 z)]) H info_int3 Tryz.underlying98 (by decide) (by decide) rfl (by kernel_rfl) (fun g_ w_ H => ?_)
  skip
  (with_reducible refine is_l ?_); refine l_callv rfl rfl (by kernel_rfl) (first_c (l := [x, y, z]) (H.cellRd 0 rfl) (by show (3 : Nat) ≤ _; decide)) (fun w_ K => ?_)
  have H := H.callD K
  repeat' (first | (with_reducible first | refine p_tn ?_ | refine wp_ret ?_ | refine l_nil ?_) | ((with_reducible refine g_on ?_); ((with_reducible refine g_as ?_); refine l_p txs rfl rfl ?_)))
  refine end1 rfl rfl ?_
  exact ⟨by rw [hN], H.BD⟩
end Go.Proofs.YtnimaenhijlcmaaGreatDoor.K
end
section
namespace Go.Proofs
open Go.Shelf
def Tryz.sortL_ren : Go.Shelf.Ren := ⟨fun | 6 => 33 | 15 => 62 | 14 => 61 | 28 => 104 | 29 => 105 | 20 => 96 | 21 => 97 | 22 => 98 | 23 => 99 | 24 => 100 | 25 => 101 | 26 => 102 | 27 => 103 | 46 => 131 | 47 => 132 | 48 => 133 | 49 => 134 | 50 => 135 | 57 => 152 | n => n, fun | 22 => 25 | 24 => 9 | 25 => 68 | 3 => 3 | 39 => 97 | 0 => 0 | 53 => 123 | 55 => 125 | 4 => 4 | 46 => 116 | 45 => 115 | 50 => 120 | 5 => 5 | 9 => 9 | 66 => 130 | 70 => 134 | 76 => 151 | 77 => 152 | n => n, fun | n => n⟩
theorem Tryz.sortL : Go.Proofs.SlLaysF.n6 Tryz.prog Tryz.sortL_ren := {
  mixed := by kernel_rfl
  f6 := ⟨Tryz.f33.name, by decide, Tryz.func33.trans (congrArg some (by kernel_rfl))⟩
  f14 := ⟨Tryz.f61.name, by decide, Tryz.func61.trans (congrArg some (by kernel_rfl))⟩
  f15 := Tryz.func62.trans (congrArg some (by kernel_rfl))
  f20 := ⟨Tryz.f96.name, by decide, Tryz.func96.trans (congrArg some (by kernel_rfl))⟩
  f21 := ⟨Tryz.f97.name, by decide, Tryz.func97.trans (congrArg some (by kernel_rfl))⟩
  f22 := ⟨Tryz.f98.name, by decide, Tryz.func98.trans (congrArg some (by kernel_rfl))⟩
  f23 := ⟨Tryz.f99.name, by decide, Tryz.func99.trans (congrArg some (by kernel_rfl))⟩
  f24 := ⟨Tryz.f100.name, by decide, Tryz.func100.trans (congrArg some (by kernel_rfl))⟩
  f25 := ⟨Tryz.f101.name, by decide, Tryz.func101.trans (congrArg some (by kernel_rfl))⟩
  f26 := ⟨Tryz.f102.name, by decide, Tryz.func102.trans (congrArg some (by kernel_rfl))⟩
  f27 := ⟨Tryz.f103.name, by decide, Tryz.func103.trans (congrArg some (by kernel_rfl))⟩
  f28 := Tryz.func104.trans (congrArg some (by kernel_rfl))
  f29 := Tryz.func105.trans (congrArg some (by kernel_rfl))
  f46 := ⟨Tryz.f131.name, by decide, Tryz.func131.trans (congrArg some (by kernel_rfl))⟩
  f47 := Tryz.func132.trans (congrArg some (by kernel_rfl))
  f48 := Tryz.func133.trans (congrArg some (by kernel_rfl))
  f49 := ⟨Tryz.f134.name, by decide, Tryz.func134.trans (congrArg some (by kernel_rfl))⟩
  f50 := ⟨Tryz.f135.name, by decide, Tryz.func135.trans (congrArg some (by kernel_rfl))⟩
  f57 := ⟨Tryz.f152.name, by decide, Tryz.func152.trans (congrArg some (by kernel_rfl))⟩
  t0 := Tryz.underlying0
  a0 := Tryz.isAgg0
  z0 := Tryz.sizeOf0
  v0 := Tryz.zeroValue0
  t3 := Tryz.underlying3
  a3 := Tryz.isAgg3
  z3 := Tryz.sizeOf3
  v3 := Tryz.zeroValue3
  t4 := Tryz.underlying4
  a4 := Tryz.isAgg4
  z4 := Tryz.sizeOf4
  v4 := Tryz.zeroValue4
  t5 := Tryz.underlying5
  a5 := Tryz.isAgg5
  z5 := Tryz.sizeOf5
  v5 := Tryz.zeroValue5
  t9 := Tryz.underlying9
  a9 := Tryz.isAgg9
  z9 := Tryz.sizeOf9
  v9 := Tryz.zeroValue9
  t22 := Tryz.underlying25
  a22 := Tryz.isAgg25
  z22 := Tryz.sizeOf25
  v22 := Tryz.zeroValue25
  a24 := Tryz.isAgg9
  z24 := Tryz.sizeOf9
  t25 := Tryz.underlying68
  a25 := Tryz.isAgg68
  z25 := Tryz.sizeOf68
  v25 := Tryz.zeroValue68
  t39 := Tryz.underlying97
  a39 := Tryz.isAgg97
  z39 := Tryz.sizeOf97
  v39 := Tryz.zeroValue97
  t45 := Tryz.underlying115
  a45 := Tryz.isAgg115
  z45 := Tryz.sizeOf115
  v45 := Tryz.zeroValue115
  t46 := Tryz.underlying116
  a46 := Tryz.isAgg116
  z46 := Tryz.sizeOf116
  v46 := Tryz.zeroValue116
  t50 := Tryz.underlying120
  a50 := Tryz.isAgg120
  z50 := Tryz.sizeOf120
  v50 := Tryz.zeroValue120
  t53 := Tryz.underlying123
  a53 := Tryz.isAgg123
  z53 := Tryz.sizeOf123
  v53 := Tryz.zeroValue123
  t55 := Tryz.underlying125
  a55 := Tryz.isAgg125
  z55 := Tryz.sizeOf125
  v55 := Tryz.zeroValue125
  t66 := Tryz.underlying130
  a66 := Tryz.isAgg130
  z66 := Tryz.sizeOf130
  v66 := Tryz.zeroValue130
  t70 := Tryz.underlying134
  a70 := Tryz.isAgg134
  z70 := Tryz.sizeOf134
  v70 := Tryz.zeroValue134
  t76 := Tryz.underlying151
  a76 := Tryz.isAgg151
  z76 := Tryz.sizeOf151
  v76 := Tryz.zeroValue151
  t77 := Tryz.underlying152
  a77 := Tryz.isAgg152
  z77 := Tryz.sizeOf152
  v77 := Tryz.zeroValue152 }
end Go.Proofs
end
section
namespace Go.Proofs.YtnimaenhijlcmaaGreatDoor.K
open Go.RowKit Go.Proofs.YtnimaenhijlcmaaGreatDoor.Q Go.Proofs.YtnimaenhijlcmaaGreatDoor.Mb Go.Proofs.YtnimaenhijlcmaaGreatDoorW.PrintWords
open Go.Sort Go.Shelf
set_option linter.unusedVariables false
set_option linter.unusedSimpArgs false
abbrev KeyT : Type := { x : L // Bytes x ∧ x.length ≤ 1000 }
instance : Inhabited KeyT := ⟨⟨[], fun y hy => (by cases hy), by decide⟩⟩
def encK (k : KeyT) : Value := .string (strOfNums k.1)
def cfK (a b : KeyT) : Int := keyF a.1 b.1
theorem swoK : SWO (ltOf cfK) where
  irrefl x := by
    unfold ltOf cfK
    rw [ordK.refl]
    rfl
  trans x y z h1 h2 := by
    unfold ltOf cfK at *
    simp only [decide_eq_true_eq] at *
    have := ordK.trans x.1 y.1 z.1 (by omega) (by omega)
    omega
  ntrans x y z h1 h2 := by
    unfold ltOf cfK at *
    simp only [decide_eq_false_iff_not] at *
    have e1 := ordK.anti x.1 y.1
    have e2 := ordK.anti y.1 z.1
    have e3 := ordK.anti x.1 z.1
    have := ordK.trans z.1 y.1 x.1 (by omega) (by omega)
    omega
theorem bel_grow {S w' : World} (K : Bel S.heap.size S w') : ∃ q os', w' = grow (S.drewN q) os' := by
  obtain ⟨⟨h1, h2, h3, h4, h5⟩, h6⟩ := K
  refine ⟨w'.drawn - S.drawn, w'.heap.extract S.heap.size w'.heap.size, ?_⟩
  have hh : w'.heap = S.heap ++ w'.heap.extract S.heap.size w'.heap.size := by
    apply Array.ext_getElem?
    intro k
    rw [Array.getElem?_append]
    split
    · rename_i hk
      exact h5 k hk
    · rename_i hk
      rw [Array.getElem?_extract]
      by_cases hk2 : k < w'.heap.size
      · rw [if_pos (by omega)]
        congr 1
        omega
      · rw [if_neg (by omega), Array.getElem?_eq_none (by omega)]
  unfold grow World.drewN
  cases w'
  simp only at *
  subst h1 h2 h3
  simp only [World.mk.injEq, true_and, and_true]
  exact ⟨hh, by omega⟩
theorem cell_lt {w : World} {g k : Nat} {v : Value} (h : w.cell? ⟨g, k, none⟩ = some v) : g < w.heap.size := by
  unfold World.cell? at h
  simp only at h
  split at h
  · rename_i h1
    exact (Array.getElem?_eq_some_iff.1 h1).1
  · cases h
theorem cmp_lays {w : World} {mx : Int} (hM : w.cell? ⟨0, 0, none⟩ = some (.int .i64 mx)) {g n : Nat} (hg : 0 ≠ g) : CmpLays1 Tryz.prog 34 #[] encK cfK g 0 n w := by
  intro m os dk hs x y
  have hM' : (sortWorld encK w g 0 m dk os).cell? ⟨0, 0, none⟩ = some (.int .i64 mx) := by
    unfold sortWorld
    rw [cell?_grow _ _ _ (by rw [size_putRow]; exact cell_lt hM), cell?_putRow_other _ _ _ _ _ _ (.inl hg)]
    exact hM
  exact (closure_c hM' x.1 y.1 x.2.1 y.2.1 x.2.2 y.2.2).mono fun e w' h => ⟨h.1, bel_grow h.2⟩
theorem heap_put {w : World} {g m : Nat} {d : Array KeyT} {os : Array Obj} {cur : Array Value} {e : TypeId} {fr : Nat × Nat} (hg : w.heap[g]? = some (.cells cur e fr)) : (sortWorld encK w g 0 m d os).heap[g]? = some (.cells (putCells encK 0 d cur) e fr) := by
  have hlt : g < w.heap.size := (Array.getElem?_eq_some_iff.1 hg).1
  unfold sortWorld
  rw [heap_grow_old _ _ (by rw [size_putRow]; exact hlt)]
  unfold putRow mapBlock
  simp only [heap_ahead, Array.getElem?_modify, if_true, hg, Option.map_some, onCells]
theorem heap_put_other {w : World} {g k m : Nat} {d : Array KeyT} {os : Array Obj} (hk : k < w.heap.size) (hne : g ≠ k) : (sortWorld encK w g 0 m d os).heap[k]? = w.heap[k]? := by
  unfold sortWorld
  rw [heap_grow_old _ _ (by rw [size_putRow]; exact hk)]
  unfold putRow mapBlock
  simp only [heap_ahead, Array.getElem?_modify, if_neg hne]
theorem grown_put {w : World} {g m : Nat} {d : Array KeyT} {os : Array Obj} : w.grownBy (sortWorld encK w g 0 m d os) (some g) := by
  refine ⟨rfl, rfl, rfl, ?_, fun k hk hne => heap_put_other hk (fun e => hne (by rw [e]))⟩
  unfold sortWorld
  rw [size_grow, size_putRow]
  exact Nat.le_add_right _ _
theorem put_take {d : Array KeyT} {cur : Array Value} (h : d.size ≤ cur.size) : (putCells encK 0 d cur).size = cur.size ∧ (putCells encK 0 d cur).toList.take d.size = strC (d.toList.map (·.1)) := by
  have hs : (putCells encK 0 d cur).size = cur.size := by simp [putCells]
  refine ⟨hs, List.ext_getElem? fun i => ?_⟩
  rw [List.getElem?_take]
  split
  · rename_i hi
    have h1 : i < cur.size := by omega
    have e1 : (putCells encK 0 d cur).toList[i]? = some (encK d[i]!) := by
      rw [Array.getElem?_toList]
      unfold putCells
      rw [Array.getElem?_mapIdx, Array.getElem?_eq_getElem h1]
      simp only [Option.map_some, Option.some.injEq]
      rw [if_pos (by omega), Nat.sub_zero]
    rw [e1, getElem!_pos d i hi]
    simp [strC, encK, hi]
  · rename_i hi
    rw [List.getElem?_eq_none]
    simp [strC]
    omega
theorem strC_all (x : List L) : (strC x).all (·.oneCell') = true := by
  unfold strC
  rw [List.all_map, List.all_eq_true]
  intro y _
  rfl
theorem keysD : ∀ {N : List L}, (∀ x ∈ N, Bytes x ∧ x.length ≤ 1000) → ∃ D : List KeyT, D.map (·.1) = N
  | [], _ => ⟨[], rfl⟩
  | x :: r, h => by
    obtain ⟨D, hD⟩ := keysD (N := r) fun y hy => h y (List.mem_cons_of_mem _ hy)
    exact ⟨⟨x, h x (List.mem_cons_self ..)⟩ :: D, by rw [List.map_cons, hD]⟩
theorem sortFunc_c {w0 w : World} {l : List Ent} {r : List RowD} (H : Hp w0 w l r) {mx : Int} (hM : w0.cell? ⟨0, 0, none⟩ = some (.int .i64 mx)) (k : Nat) {ad : Addr} {c : Nat} {N : List L} (hk : r[k]? = some (rowT (.slice (some ad) N.length c) N)) (hN : ∀ x ∈ N, Bytes x ∧ x.length ≤ 1000) (hl : N.length ≤ 2000000) :
    Calls Tryz.prog 33 #[.slice (some ad) N.length c, .func (.func 34) #[] #[]] w fun e w' => e = .returned (.tuple #[]) ∧ ∃ N', N'.Perm N ∧ N'.Pairwise (fun x y => keyF x y ≤ 0) ∧ Hp w0 w' l (r.set k (rowT (.slice (some ad) N'.length c) N')) := by
  have hO : w.ownsRow w0.heap.size 9 1 (.slice (some ad) N.length c) N.length (strC N) := H.row k _ hk
  obtain ⟨hx, hO⟩ := hO
  rcases hO with ⟨h1, _⟩ | ⟨g, cap, cur, h1, h2, h3, h4, h5, h6, h7⟩
  · exact absurd h1 (by simp)
  simp only [Value.slice.injEq, Option.some.injEq] at h1
  obtain ⟨e1, _, e3⟩ := h1
  subst e1
  subst e3
  obtain ⟨D, hD⟩ := keysD hN
  have hDl : D.length = N.length := by rw [← hD, List.length_map]
  have hMw := H.old hM
  have hne : 0 ≠ g := fun e => by
    have := cell_lt hM
    rw [e] at this
    omega
  rw [Nat.mul_one] at h6 h7 hx
  have hH : Holds encK w g 0 D.toArray := by
    intro j hj
    have hj : j < N.length := by rw [← hDl]; simpa using hj
    constructor
    · have e1 : cur.toList[j]? = some (.string (strOfNums N[j])) := by
        have := congrArg (fun z => z[j]?) h7
        simp only [List.getElem?_take, hj, if_true, strC, List.getElem?_map, List.getElem?_eq_getElem hj, Option.map_some] at this
        exact this
      unfold World.cell?
      simp only [h3, Nat.zero_add]
      rw [← Array.getElem?_toList, e1]
      simp only [Option.isSome_none, Bool.false_eq_true, if_false, Option.some.injEq]
      have hDj : (D[j]'(by omega)).1 = N[j] := by simp only [← hD, List.getElem_map]
      rw [getElem!_pos D.toArray j (by simpa using (by omega : j < D.length))]
      show _ = Value.string (strOfNums (D[j]'(by omega)).1)
      rw [hDj]
    · unfold World.frozen?
      simp [h3]
  have hs := Any.slices_SortFunc Tryz.sortL encK (fun _ => rfl) cfK swoK 34 #[] g 0 c D.toArray w (enters_of Tryz.func34 (by kernel_rfl) rfl) (cmp_lays hMw hne) hH (Array.getElem?_eq_some_iff.1 h3).1 (by simp; omega)
  have hs : Calls Tryz.prog 33 #[.slice (some ⟨g, 0, none⟩) D.toArray.size c, .func (.func 34) #[] #[]] w _ := hs
  rw [show D.toArray.size = N.length from by simpa using hDl] at hs
  refine hs.mono fun e w' ⟨he, d', n, os, hp, hso, hw⟩ => ⟨he, d'.toList.map (·.1), ?_, ?_, ?_⟩
  all_goals have hsz : d'.size = N.length := by rw [hp.1]; simpa using hDl
  · have hp2 := hp.2.2
    rw [show N.length = D.toArray.size from by simpa using hDl.symm] at hp2
    rw [show d'.extract 0 D.toArray.size = d' from by rw [show D.toArray.size = d'.size from by rw [hsz]; simpa using hDl]; simp, show D.toArray.extract 0 D.toArray.size = D.toArray from by simp] at hp2
    have := hp2.map (·.1)
    rw [List.toList_toArray, hD] at this
    exact this
  · rw [List.pairwise_iff_getElem]
    intro i j hi hj hij
    simp only [List.length_map, Array.length_toList] at hi hj
    have h8 := hso i j (Nat.zero_le _) hij (by omega)
    rw [getElem!_pos d' i hi, getElem!_pos d' j hj] at h8
    unfold ltOf cfK at h8
    simp only [decide_eq_false_iff_not] at h8
    have h9 := ordK.anti d'[i].1 d'[j].1
    simp only [List.getElem_map, Array.getElem_toList]
    omega
  · subst hw
    obtain ⟨p1, p2⟩ := put_take (d := d') (cur := cur) (by omega)
    have hlm : (d'.toList.map (·.1)).length = N.length := by rw [List.length_map, Array.length_toList, hsz]
    have hown : (sortWorld encK w g 0 n d' os).ownsRow w0.heap.size 9 1 (.slice (some ⟨g, 0, none⟩) (d'.toList.map (·.1)).length c) (d'.toList.map (·.1)).length (strC (d'.toList.map (·.1))) := by
      rw [hlm]
      refine ⟨?_, .inr ⟨g, c, _, rfl, h2, heap_put h3, h4, h5, ?_, ?_⟩⟩
      · simp only [strC, List.length_map, Array.length_toList, hsz, Nat.mul_one]
      · rw [p1, h6, Nat.mul_one]
      · rw [Nat.mul_one, ← hsz]
        exact p2
    exact H.put k hk grown_put hown (.inl rfl)
end Go.Proofs.YtnimaenhijlcmaaGreatDoor.K
end
section
namespace Go.Proofs.YtnimaenhijlcmaaGreatDoor.K
open Go.RowKit Go.Proofs.YtnimaenhijlcmaaGreatDoor.Q Go.Proofs.YtnimaenhijlcmaaGreatDoor.Mb Go.Proofs.YtnimaenhijlcmaaGreatDoorW.PrintWords
set_option linter.unusedVariables false
set_option linter.unusedSimpArgs false
section
variable {P : Program} {n : Nat} {f : Fr} {w w0 : World} {ops : Array Oper} {Q : Exit → Act → World → Prop} {rest : List Oper} {tt : TypeId} {ps : String} {af : Array Edge} {gd : Option (Nat × Bool)} {s : Bool} {l : List Ent} {r : List RowD}
theorem h_stE {t : TypeId} {x y : Operand} (ho : (P.info? t).map (·.size) = some 1) (H : HpS s w0 w l r) (k : Nat) {g i c m : Nat} {e : TypeId} {cs : List Value} {v : Value} (h1 : v.oneCell' = true) (hv : v.cells = #[v]) (hw : want n ops f ⟨none, .store t x y, tt, ps, af, gd⟩ = true) {a : Addr} (hx : X n f x = .pointer (some a)) (ha : a = ⟨g, i, none⟩) (hy : X n f y = v) (hk : r[k]? = some ⟨.slice (some ⟨g, 0, none⟩) m c, e, 1, m, cs⟩) (hi : i < m)
    (h : ∀ w', HpS s w0 w' l (r.set k ⟨.slice (some ⟨g, 0, none⟩) m c, e, 1, m, cs.set i v⟩) → WL P ops Q rest (act n f) w') : WL P ops Q (⟨none, .store t x y, tt, ps, af, gd⟩ :: rest) (act n f) w := by
  subst ha
  have hO : w.ownsRow w0.heap.size e 1 (.slice (some ⟨g, 0, none⟩) m c) m cs := H.row k _ hk
  obtain ⟨s1, s2⟩ := hO.stored i v
  obtain ⟨h2, h3 | ⟨g', cap, cur, h3, h4, h5, h6, h7, h8, h9⟩⟩ := hO
  · exact absurd h3.1 (by simp)
  simp only [Value.slice.injEq, Option.some.injEq, Addr.mk.injEq, and_true, true_and] at h3
  obtain ⟨e1, e2⟩ := h3
  subst e1 e2
  have hr := run_store_run (P := P) (o := i) t v [v] h5 (by rw [hv]) ho (by simp; omega) (by intro q1 h2; simp at h2; subst h2; exact h1)
  have e : w.setCells g i [v] = w.setCell ⟨g, i, none⟩ v := by simp [World.setCells]
  rw [e] at hr
  refine h_skip hw ?_ (h _ (H.put k hk s2 s1 (.inl rfl) (fun _ => Nat.le_refl _)))
  unfold execOp
  simp [hx, hy, hr]
end
theorem parK_e (s : L) : (parK s).2.2 = keyE s := by
  unfold parK keyE
  cases keyS s with
  | none => rfl
  | some q =>
    obtain ⟨p, v⟩ := q
    simp only
    split
    · rename_i h; rw [h]; rfl
    · rfl
theorem sort_none (A : Option Addr) (c : Nat) (fv : Value) (w : World) : Calls Tryz.prog 33 #[.slice A 0 c, fv] w fun e w' => e = .returned (.tuple #[]) ∧ w' = w :=
  AnyF.slices_SortFunc_none (P := Tryz.prog) (ρ := Tryz.sortL_ren) { Tryz.sortL with } A c fv w
def SorR (w : World) (ks : List L) (e : Ending) (w' : World) : Prop :=
  (sortE ks ≠ 0 → e = .returned (.tuple #[.slice none 0 0, .int .i64 (sortE ks)]) ∧ Below w.heap.size w w') ∧
  (sortE ks = 0 → ∃ A c N, e = .returned (.tuple #[.slice A N.length c, .int .i64 0]) ∧ N.Perm ks ∧ InOrd N ∧ Hp w w' [] [rowT (.slice A N.length c) N])
theorem sor_no {w w' : World} {ks : List L} {x : Int} (h : sortE ks = x) (hx : x ≠ 0) (K : Below w.heap.size w w') : SorR w ks (.returned (.tuple #[.slice none 0 0, .int .i64 x])) w' :=
  ⟨fun _ => ⟨by rw [h], K⟩, fun e => absurd (h ▸ e) hx⟩
theorem sor_yes {w w' : World} {ks N : List L} {A : Option Addr} {c : Nat} (h : sortE ks = 0) (hp : N.Perm ks) (ho : InOrd N) (K : Hp w w' [] [rowT (.slice A N.length c) N]) : SorR w ks (.returned (.tuple #[.slice A N.length c, .int .i64 0])) w' :=
  ⟨fun e => absurd h e, fun _ => ⟨A, c, N, rfl, hp, ho, K⟩⟩
set_option maxRecDepth 100000 in
set_option maxHeartbeats 8000000 in
theorem Sort_c {w : World} (hL : Lay w) {A : Option Addr} {c : Nat} {ks : List L} (hR : Rd w A (strC ks)) (hB : ∀ x ∈ ks, Bytes x ∧ x.length ≤ 100000000) (hl : ks.length ≤ 2000000) :
    Calls Tryz.prog 11 #[.slice A ks.length c] w (SorR w ks) := by
  obtain ⟨mx, hM⟩ := hL.mxs
  refine enter (args := [.slice A ks.length c]) Tryz.func11 rfl Tryz.ntmps11 rfl ?_
  have H := Hp.nil w
  repeat' (first | (with_reducible first | refine p_tn ?_ | refine wp_seq ?_ | refine w_reg ?_ | refine l_nil ?_) | ((with_reducible refine g_on ?_); (first | ((with_reducible refine g_mv ?_); refine l_p txs rfl rfl ?_) | ((with_reducible refine g_as ?_); refine l_p txs rfl rfl ?_) | ((with_reducible refine g_cl ?_); refine l_p txs rfl rfl ?_))))
  (with_reducible refine is_l ?_); refine l_t txs rfl rfl (fun h1 => ?_) (fun h1 => ?_)
  · have hs : sortE ks = 2 := by unfold sortE; rw [if_pos (by omega)]
    repeat' (first | (with_reducible first | refine p_tn ?_ | refine p_tr ?_ | refine wp_seq ?_ | refine w_reg ?_) | (with_reducible (refine is_if ?_; (refine w_ift rfl ?_))) | (with_reducible first | refine wp_ret ?_ | refine l_nil ?_) | ((with_reducible refine g_on ?_); ((with_reducible refine g_as ?_); refine l_p txs rfl rfl ?_)))
    refine end2 rfl rfl rfl ?_
    exact sor_no hs (by decide) H.B
  have hse : sortE ks = firstE ks := by unfold sortE; rw [if_neg (by omega)]
  repeat' (first | (with_reducible first | refine p_tn ?_ | refine wp_seq ?_ | refine wp_block ?_ | refine w_reg ?_) | (with_reducible (refine is_if ?_; (refine w_iff rfl ?_))) | (with_reducible first | refine wp_skip ?_ | refine l_nil ?_) | ((with_reducible refine g_on ?_); (first | ((with_reducible refine g_mv ?_); refine l_p txs rfl rfl ?_) | ((with_reducible refine g_cl ?_); refine l_p txs rfl rfl ?_))))
  refine w_loop (σ := Nat) (S := fun s => [(0, .slice A ks.length c), (13, .slice A ks.length c), (14, .int .i64 (ks.length : Int)), (15, .int .i64 (s : Int))]) (J := fun s w' => Hp w w' [] [] ∧ s ≤ ks.length ∧ firstE ks = firstE (ks.drop s)) (μ := fun s => ks.length - s) 0 ⟨rfl, rfl, rfl, rfl, trivial⟩ ⟨H, Nat.zero_le _, rfl⟩ ?_
  clear H
  rintro i f w_ ⟨H, hi, hf⟩
  repeat' (with_reducible first | refine wp_seq ?_ | refine w_reg ?_)
  (with_reducible refine is_l ?_); refine l_t txs rfl rfl (fun hlt => ?_) (fun hge => ?_)
  · obtain ⟨x, hx⟩ : ∃ x, ks[i]? = some x := ⟨_, List.getElem?_eq_getElem (by omega)⟩
    obtain ⟨ad, rfl⟩ := rdT_some hR hx
    have hd : ks.drop i = x :: ks.drop (i + 1) := by
      rw [List.drop_eq_getElem_cons (by omega)]
      congr 1
      exact (List.getElem?_eq_some_iff.1 hx).2
    rw [hd, firstE] at hf
    obtain ⟨bx, lx⟩ := hB x (List.mem_of_getElem? hx)
    repeat' (first | (with_reducible first | refine p_tn ?_ | refine wp_seq ?_ | refine wp_block ?_ | refine w_reg ?_) | (with_reducible (refine is_if ?_; (refine w_ift rfl ?_))) | (with_reducible first | refine wp_skip ?_ | refine l_nil ?_) | ((with_reducible refine g_on ?_); ((with_reducible refine g_ia ?_); refine l_ia txs rfl rfl (by first | omega | assumption | decide) (by first | omega | assumption | decide) ?_)))
    (with_reducible refine is_l ?_); refine l_ld txs rfl rfl (by rw [Int.toNat_natCast]; exact H.old (rdT_cell hR hx)) ?_
    repeat' (first | (with_reducible first | refine p_tn ?_ | refine wp_seq ?_ | refine w_reg ?_ | refine l_nil ?_) | ((with_reducible refine g_on ?_); (first | ((with_reducible refine g_mv ?_); refine l_p txs rfl rfl ?_) | ((with_reducible refine g_as ?_); refine l_p txs rfl rfl ?_))))
    have hpk := ParseKey_c (hL.below H.B) (strOfNums x) (by rw [sizeS' bx]; exact lx)
    have he := parK_e (bl (strOfNums x))
    rw [blS bx] at hpk he
    generalize parK x = q at hpk he
    obtain ⟨q1, q2, q3⟩ := q
    have he : q3 = keyE x := he
    subst he
    (with_reducible refine is_l ?_); refine l_callv rfl rfl (by kernel_rfl) hpk (fun w_ K => ?_)
    have H := H.call K
    repeat' (first | (with_reducible first | refine p_tn ?_ | refine wp_seq ?_ | refine w_reg ?_ | refine l_nil ?_) | ((with_reducible refine g_on ?_); (first | ((with_reducible refine g_mv ?_); refine l_p txs rfl rfl ?_) | ((with_reducible refine g_as ?_); refine l_p txs rfl rfl ?_) | ((with_reducible refine g_ex ?_); refine l_p txs rfl rfl ?_))))
    (with_reducible refine is_l ?_); refine l_t txs rfl rfl (fun h0 => ?_) (fun h0 => ?_)
    · rw [if_pos h0, ← hse] at hf
      repeat' (first | (with_reducible first | refine p_tn ?_ | refine p_tr ?_ | refine p_br ?_ | refine wp_seq ?_ | refine w_reg ?_) | (with_reducible (refine is_if ?_; (refine w_ift rfl ?_))) | (with_reducible first | refine wp_ret ?_ | refine l_nil ?_) | ((with_reducible refine g_on ?_); (first | ((with_reducible refine g_mv ?_); refine l_p txs rfl rfl ?_) | ((with_reducible refine g_as ?_); refine l_p txs rfl rfl ?_))))
      refine end2 rfl rfl rfl ?_
      exact sor_no hf h0 H.B
    · rw [if_neg h0] at hf
      repeat' (first | (with_reducible first | refine p_tn ?_ | refine p_bn ?_ | refine w_reg ?_) | (with_reducible (refine is_if ?_; (refine w_iff rfl ?_))) | (with_reducible first | refine wp_skip ?_ | refine l_nil ?_) | ((with_reducible refine g_on ?_); (first | ((with_reducible refine g_mv ?_); refine l_p txs rfl rfl ?_) | ((with_reducible refine g_bi ?_); (refine l_a txs rfl rfl (by first | exact in_i64 (by omega) (by omega) | exact in_u8 (by omega) (by omega) | exact in_u64 (by omega) (by omega) | exact in_i32 (by omega) (by omega)) ?_)))))
      exact ⟨i + 1, _, rfl, ⟨rfl, rfl, rfl, rfl, trivial⟩, ⟨H, by omega, hf⟩, by omega⟩
  · rw [List.drop_eq_nil_of_le (by omega), ← hse] at hf
    have hs : sortE ks = 0 := hf
    have hk0 : firstE ks = 0 := hse ▸ hs
    have hN : ∀ x ∈ ks, Bytes x ∧ x.length ≤ 1000 := fun x hx => ⟨(hB x hx).1, by have := (keyE_ok (firstE_zero.1 hk0 x hx)); obtain ⟨p, v, _, _, h⟩ := this; omega⟩
    have H := H.nilRow 9 1
    repeat' (first | (with_reducible first | refine p_tn ?_ | refine p_tx ?_ | refine x_hit ?_ | refine wp_seq ?_ | refine w_reg ?_) | (with_reducible (refine is_if ?_; (refine w_iff rfl ?_))) | (with_reducible first | refine wp_exit ?_ | refine l_nil ?_) | ((with_reducible refine g_on ?_); ((with_reducible refine g_mv ?_); refine l_p txs rfl rfl ?_)))
    (with_reducible refine is_l ?_); refine h_app H 0 rfl info_str3 Tryz.underlying25 rfl rfl rfl rfl (hR.below H.B) (by simp [strC]) (strC_all _) (by show (0 + ks.length) * 16 ≤ _; omega) (fun v w_ hv H => ?_)
    obtain ⟨A', c', hv⟩ := hv
    have hv : v = .slice A' ks.length c' := by rw [hv]; show Value.slice A' (0 + ks.length) c' = _; rw [Nat.zero_add]
    subst hv
    have H : Hp w w_ [] [rowT (.slice A' ks.length c') ks] := by
      have h : Hp w w_ [] [⟨.slice A' ks.length c', 9, 1, 0 + ks.length, [] ++ strC ks⟩] := H
      rw [Nat.zero_add] at h
      exact h
    repeat' (first | (with_reducible first | refine p_tn ?_ | refine wp_seq ?_ | refine w_reg ?_ | refine l_nil ?_) | ((with_reducible refine g_on ?_); (first | ((with_reducible refine g_mv ?_); refine l_p txs rfl rfl ?_) | ((with_reducible refine g_as ?_); refine l_p txs rfl rfl ?_))))
    cases A' with
    | none =>
      obtain ⟨A1, c1, e1, _, _, hz⟩ := H.rd 0 rfl
      simp only [Value.slice.injEq] at e1
      obtain ⟨e2, _, e3⟩ := e1
      obtain ⟨h5, h6⟩ := hz e2.symm
      have hks : ks = [] := List.eq_nil_of_length_eq_zero h6
      subst hks
      (with_reducible refine is_l ?_); refine l_callp rfl rfl (by kernel_rfl) (sort_none none c' _ _) ?_
      repeat' (first | (with_reducible first | refine p_tn ?_ | refine wp_seq ?_ | refine w_reg ?_ | refine wp_ret ?_ | refine l_nil ?_) | ((with_reducible refine g_on ?_); (first | ((with_reducible refine g_mv ?_); refine l_p txs rfl rfl ?_) | ((with_reducible refine g_as ?_); refine l_p txs rfl rfl ?_))))
      refine end2 rfl rfl rfl ?_
      exact sor_yes hs (List.Perm.refl _) List.Pairwise.nil H
    | some ad =>
      (with_reducible refine is_l ?_); refine l_call rfl rfl (by kernel_rfl) (sortFunc_c H hM 0 rfl hN hl) (fun e w_ hR => ?_)
      obtain ⟨rfl, N, hp, ho, H⟩ := hR
      refine ⟨_, rfl, ?_⟩
      have hlN : N.length = ks.length := hp.length_eq
      rw [← hlN]
      repeat' (first | (with_reducible first | refine p_tn ?_ | refine wp_seq ?_ | refine w_reg ?_ | refine wp_ret ?_ | refine l_nil ?_) | ((with_reducible refine g_on ?_); (first | ((with_reducible refine g_mv ?_); refine l_p txs rfl rfl ?_) | ((with_reducible refine g_as ?_); refine l_p txs rfl rfl ?_))))
      refine end2 rfl rfl rfl ?_
      exact sor_yes hs hp ho H
end Go.Proofs.YtnimaenhijlcmaaGreatDoor.K
end
section
namespace Go.Proofs.YtnimaenhijlcmaaGreatDoor.K
open Go.RowKit Go.Proofs.YtnimaenhijlcmaaGreatDoor.Q Go.Proofs.YtnimaenhijlcmaaGreatDoor.Mb Go.Proofs.YtnimaenhijlcmaaGreatDoorW.PrintWords
set_option linter.unusedVariables false
set_option linter.unusedSimpArgs false
theorem drop_of {α : Type} {l : List α} {i : Nat} {x : α} (h : l[i]? = some x) : l.drop i = x :: l.drop (i + 1) := by
  rw [List.drop_eq_getElem_cons (List.getElem?_eq_some_iff.1 h).1, (List.getElem?_eq_some_iff.1 h).2]
theorem take_of {α : Type} {l : List α} {i : Nat} {x : α} (h : l[i]? = some x) : l.take (i + 1) = l.take i ++ [x] := by
  rw [List.take_succ_eq_append_getElem (List.getElem?_eq_some_iff.1 h).1, (List.getElem?_eq_some_iff.1 h).2]
end Go.Proofs.YtnimaenhijlcmaaGreatDoor.K
end
section
namespace Go.Proofs.YtnimaenhijlcmaaGreatDoor.K.Ref
open Go.RowKit Go.Proofs.YtnimaenhijlcmaaGreatDoor.Q Go.Proofs.YtnimaenhijlcmaaGreatDoor.K Go.Proofs.YtnimaenhijlcmaaGreatDoor.Mb Go.Proofs.YtnimaenhijlcmaaGreatDoorW.PrintWords
set_option linter.unusedVariables false
set_option linter.unusedSimpArgs false
theorem split_key {s p v : L} (h : keyS s = some (p, v)) : splitC 64 s = [p, v] := by
  obtain ⟨rfl, n1, n2⟩ := keyS_some h
  rw [splitC_cut _ n1, splitC_none n2]
set_option maxRecDepth 100000 in
set_option maxHeartbeats 8000000 in
theorem Before_c {a b : L} (ba : Bytes a) (bb : Bytes b) (ea : keyE a = 0) (eb : keyE b = 0) (w : World) :
    Calls Tryz.prog 32 #[.string (strOfNums a), .string (strOfNums b)] w fun e w' => e = .returned (.bool (decide (keyF a b < 0))) ∧ Below w.heap.size w w' := by
  obtain ⟨p, v, ka, ca, la⟩ := keyE_ok ea
  obtain ⟨q, u, kb, cb, lb⟩ := keyE_ok eb
  obtain ⟨p1, v1⟩ := key_parts ka
  obtain ⟨q1, u1⟩ := key_parts kb
  obtain ⟨s1, s2, s3, s4⟩ := cut_sub (s := a)
  obtain ⟨t1, t2, t3, t4⟩ := cut_sub (s := b)
  rw [p1] at s1 s3
  rw [v1] at s2 s4
  rw [q1] at t1 t3
  rw [u1] at t2 t4
  have bp : Bytes p := fun y hy => ba y (s1 y hy)
  have bv : Bytes v := fun y hy => ba y (s2 y hy)
  have bq : Bytes q := fun y hy => bb y (t1 y hy)
  have bu : Bytes u := fun y hy => bb y (t2 y hy)
  have hkey : keyF a b = if cmpB p q ≠ 0 then cmpB p q else if compareS v u ≠ 0 then compareS v u else cmpB v u := by unfold keyF; rw [p1, q1, v1, u1]
  have hp1 := fun (w1 : World) => pieces_c (strOfNums a) 64 w1 (by rw [sizeS' ba]; omega)
  have hp2 := fun (w1 : World) => pieces_c (strOfNums b) 64 w1 (by rw [sizeS' bb]; omega)
  rw [blS ba, split_key ka] at hp1
  rw [blS bb, split_key kb] at hp2
  have hb1 := fun (w1 : World) => bytes_c (strOfNums p) (strOfNums q) w1 (by rw [sizeS' bp]; omega) (by rw [sizeS' bq]; omega)
  have hb2 := fun (w1 : World) => bytes_c (strOfNums v) (strOfNums u) w1 (by rw [sizeS' bv]; omega) (by rw [sizeS' bu]; omega)
  have hcm := fun (w1 : World) => Compare_r (strOfNums v) (strOfNums u) w1
  rw [blS bp, blS bq] at hb1
  rw [blS bv, blS bu] at hb2 hcm
  generalize cmpB p q = x at hb1 hkey
  generalize compareS v u = y at hcm hkey
  generalize cmpB v u = z at hb2 hkey
  refine enter (args := [.string (strOfNums a), .string (strOfNums b)]) Tryz.func32 rfl Tryz.ntmps32 rfl ?_
  have H := Hp.nil w
  repeat' (first | (with_reducible first | refine p_tn ?_ | refine wp_seq ?_ | refine w_reg ?_ | refine l_nil ?_) | ((with_reducible refine g_on ?_); (first | ((with_reducible refine g_mv ?_); refine l_p txs rfl rfl ?_) | ((with_reducible refine g_as ?_); refine l_p txs rfl rfl ?_))))
  (with_reducible refine is_l ?_); refine l_call rfl rfl (by kernel_rfl) (hp1 _) (fun e w_ hR => ?_)
  obtain ⟨A1, c1, rfl, K1⟩ := hR
  refine ⟨_, rfl, ?_⟩
  have H := H.join K1
  obtain ⟨a1, rfl⟩ := row_some K1 0 rfl (by simp)
  repeat' (first | (with_reducible first | refine p_tn ?_ | refine wp_seq ?_ | refine w_reg ?_ | refine l_nil ?_) | ((with_reducible refine g_on ?_); (first | ((with_reducible refine g_mv ?_); refine l_p txs rfl rfl ?_) | ((with_reducible refine g_as ?_); refine l_p txs rfl rfl ?_))))
  (with_reducible refine is_l ?_); refine l_call rfl rfl (by kernel_rfl) (hp2 _) (fun e w_ hR => ?_)
  obtain ⟨A2, c2, rfl, K2⟩ := hR
  refine ⟨_, rfl, ?_⟩
  have H := H.join K2
  obtain ⟨a2, rfl⟩ := row_some K2 0 rfl (by simp)
  have H : Hp w w_ [] [rowT (.slice (some a2) [q, u].length c2) [q, u], rowT (.slice (some a1) [p, v].length c1) [p, v]] := H
  have hl1 : [p, v].length = 2 := rfl
  have hl2 : [q, u].length = 2 := rfl
  repeat' (first | (with_reducible first | refine p_tn ?_ | refine wp_seq ?_ | refine l_nil ?_) | ((with_reducible refine g_on ?_); ((with_reducible refine g_as ?_); refine l_p txs rfl rfl ?_)))
  have HS := H.pick [] [0, 1] (by decide) (by decide) rfl rfl
  refine d_start (fun w_ => HpS _ w w_ _ _) #[false, false, false, false, false, false, false, false] (by kernel_rfl) rfl rfl HS.drew ?_
  have H := H.drew
  have HS := HS.drew
  first | (refine d_pure (i := 0) #[true, false, false, false, false, false, false, false] rfl (by kernel_rfl) (fun _ _ _ h => h) rfl (fun w_ => evP_run (o := ⟨_, _, _, _, _, _⟩) txs rfl) ?_)
  first | (refine d_pure (i := 1) #[true, true, false, false, false, false, false, false] rfl (by kernel_rfl) (fun _ _ _ h => h) rfl (fun w_ => evIA_run (o := ⟨_, _, _, _, _, _⟩) txs rfl (by omega) (by omega)) ?_)
  first | (refine d_take (i := 2) #[true, true, true, false, false, false, false, false] rfl (by kernel_rfl) (fun _ _ _ h => h) rfl (fun w_ K => evL_run (o := ⟨_, _, _, _, _, _⟩) txs rfl (rdT_cell (rowT_at K 1 rfl) (i := 0) (y := p) rfl)) HS ?_)
  first | (refine d_pure (i := 3) #[true, true, true, true, false, false, false, false] rfl (by kernel_rfl) (fun _ _ _ h => h) rfl (fun w_ => evP_run (o := ⟨_, _, _, _, _, _⟩) txs rfl) ?_)
  first | (refine d_pure (i := 4) #[true, true, true, true, true, false, false, false] rfl (by kernel_rfl) (fun _ _ _ h => h) rfl (fun w_ => evIA_run (o := ⟨_, _, _, _, _, _⟩) txs rfl (by omega) (by omega)) ?_)
  first | (refine d_take (i := 5) #[true, true, true, true, true, true, false, false] rfl (by kernel_rfl) (fun _ _ _ h => h) rfl (fun w_ K => evL_run (o := ⟨_, _, _, _, _, _⟩) txs rfl (rdT_cell (rowT_at K 0 rfl) (i := 0) (y := q) rfl)) HS ?_)
  refine d_one (i := 6) #[true, true, true, true, true, true, true, false] rfl (by kernel_rfl) rfl ?_
  refine l_callv rfl rfl (by kernel_rfl) (hb1 _) (fun w_ K => ?_); have H := H.call K
  refine l_nil ?_
  have HS := H.pick [] [0, 1] (by decide) (by decide) rfl rfl
  refine ⟨rfl, HS, ?_⟩
  first | (refine d_pure (i := 7) #[true, true, true, true, true, true, true, true] rfl (by kernel_rfl) (fun _ _ _ h => h) rfl (fun w_ => evP_run (o := ⟨_, _, _, _, _, _⟩) txs rfl) ?_)
  refine d_done rfl ?_
  repeat' (first | (with_reducible first | refine p_tn ?_ | refine wp_seq ?_ | refine w_reg ?_) | ((with_reducible refine g_on ?_); ((with_reducible refine g_mv ?_); refine l_p txs rfl rfl ?_)))
  (with_reducible refine is_l ?_); refine l_t txs rfl rfl (fun h1 => ?_) (fun h1 => ?_)
  · rw [if_pos h1] at hkey
    repeat' (first | (with_reducible first | refine p_tn ?_ | refine wp_seq ?_ | refine w_reg ?_) | (with_reducible (refine is_if ?_; (refine w_ift rfl ?_))) | (with_reducible refine l_nil ?_) | ((with_reducible refine g_on ?_); ((with_reducible refine g_mv ?_); refine l_p txs rfl rfl ?_)))
    (with_reducible refine is_l ?_); refine l_t txs rfl rfl (fun h3 => ?_) (fun h3 => ?_)
    · repeat' (first | (with_reducible first | refine p_tn ?_ | refine p_tr ?_ | refine wp_ret ?_ | refine l_nil ?_) | ((with_reducible refine g_on ?_); ((with_reducible refine g_as ?_); refine l_p txs rfl rfl ?_)))
      refine end1 rfl rfl ?_
      exact ⟨by rw [hkey, decide_eq_true h3], H.B⟩
    · repeat' (first | (with_reducible first | refine p_tn ?_ | refine p_tr ?_ | refine wp_ret ?_ | refine l_nil ?_) | ((with_reducible refine g_on ?_); ((with_reducible refine g_as ?_); refine l_p txs rfl rfl ?_)))
      refine end1 rfl rfl ?_
      exact ⟨by rw [hkey, decide_eq_false h3], H.B⟩
  rw [if_neg h1] at hkey
  repeat' (first | (with_reducible first | refine p_tn ?_ | refine wp_seq ?_) | (with_reducible (refine is_if ?_; (refine w_iff rfl ?_))) | (with_reducible first | refine wp_skip ?_ | refine l_nil ?_))
  have HS := H.pick [] [0, 1] (by decide) (by decide) rfl rfl
  refine d_start (fun w_ => HpS _ w w_ _ _) #[false, false, false, false, false, false, false, false] (by kernel_rfl) rfl rfl HS.drew ?_
  have H := H.drew
  have HS := HS.drew
  first | (refine d_pure (i := 0) #[true, false, false, false, false, false, false, false] rfl (by kernel_rfl) (fun _ _ _ h => h) rfl (fun w_ => evP_run (o := ⟨_, _, _, _, _, _⟩) txs rfl) ?_)
  first | (refine d_pure (i := 1) #[true, true, false, false, false, false, false, false] rfl (by kernel_rfl) (fun _ _ _ h => h) rfl (fun w_ => evIA_run (o := ⟨_, _, _, _, _, _⟩) txs rfl (by omega) (by omega)) ?_)
  first | (refine d_take (i := 2) #[true, true, true, false, false, false, false, false] rfl (by kernel_rfl) (fun _ _ _ h => h) rfl (fun w_ K => evL_run (o := ⟨_, _, _, _, _, _⟩) txs rfl (rdT_cell (rowT_at K 1 rfl) (i := 1) (y := v) rfl)) HS ?_)
  first | (refine d_pure (i := 3) #[true, true, true, true, false, false, false, false] rfl (by kernel_rfl) (fun _ _ _ h => h) rfl (fun w_ => evP_run (o := ⟨_, _, _, _, _, _⟩) txs rfl) ?_)
  first | (refine d_pure (i := 4) #[true, true, true, true, true, false, false, false] rfl (by kernel_rfl) (fun _ _ _ h => h) rfl (fun w_ => evIA_run (o := ⟨_, _, _, _, _, _⟩) txs rfl (by omega) (by omega)) ?_)
  first | (refine d_take (i := 5) #[true, true, true, true, true, true, false, false] rfl (by kernel_rfl) (fun _ _ _ h => h) rfl (fun w_ K => evL_run (o := ⟨_, _, _, _, _, _⟩) txs rfl (rdT_cell (rowT_at K 0 rfl) (i := 1) (y := u) rfl)) HS ?_)
  refine d_one (i := 6) #[true, true, true, true, true, true, true, false] rfl (by kernel_rfl) rfl ?_
  refine l_callv rfl rfl (by kernel_rfl) (hcm _) (fun w_ K => ?_); have H := H.call K
  refine l_nil ?_
  have HS := H.pick [] [0, 1] (by decide) (by decide) rfl rfl
  refine ⟨rfl, HS, ?_⟩
  first | (refine d_pure (i := 7) #[true, true, true, true, true, true, true, true] rfl (by kernel_rfl) (fun _ _ _ h => h) rfl (fun w_ => evP_run (o := ⟨_, _, _, _, _, _⟩) txs rfl) ?_)
  refine d_done rfl ?_
  repeat' (first | (with_reducible first | refine p_tn ?_ | refine wp_seq ?_ | refine w_reg ?_) | ((with_reducible refine g_on ?_); ((with_reducible refine g_mv ?_); refine l_p txs rfl rfl ?_)))
  (with_reducible refine is_l ?_); refine l_t txs rfl rfl (fun h2 => ?_) (fun h2 => ?_)
  · rw [if_pos h2] at hkey
    repeat' (first | (with_reducible first | refine p_tn ?_ | refine wp_seq ?_ | refine w_reg ?_) | (with_reducible (refine is_if ?_; (refine w_ift rfl ?_))) | (with_reducible refine l_nil ?_) | ((with_reducible refine g_on ?_); ((with_reducible refine g_mv ?_); refine l_p txs rfl rfl ?_)))
    (with_reducible refine is_l ?_); refine l_t txs rfl rfl (fun h3 => ?_) (fun h3 => ?_)
    · repeat' (first | (with_reducible first | refine p_tn ?_ | refine p_tr ?_ | refine wp_ret ?_ | refine l_nil ?_) | ((with_reducible refine g_on ?_); ((with_reducible refine g_as ?_); refine l_p txs rfl rfl ?_)))
      refine end1 rfl rfl ?_
      exact ⟨by rw [hkey, decide_eq_true h3], H.B⟩
    · repeat' (first | (with_reducible first | refine p_tn ?_ | refine p_tr ?_ | refine wp_ret ?_ | refine l_nil ?_) | ((with_reducible refine g_on ?_); ((with_reducible refine g_as ?_); refine l_p txs rfl rfl ?_)))
      refine end1 rfl rfl ?_
      exact ⟨by rw [hkey, decide_eq_false h3], H.B⟩
  rw [if_neg h2] at hkey
  repeat' (first | (with_reducible first | refine p_tn ?_ | refine wp_seq ?_) | (with_reducible (refine is_if ?_; (refine w_iff rfl ?_))) | (with_reducible first | refine wp_skip ?_ | refine l_nil ?_))
  by_cases h3 : z < 0
  · skip
    have HS := H.pick [] [0, 1] (by decide) (by decide) rfl rfl
    refine d_start (fun w_ => HpS _ w w_ _ _) #[false, false, false, false, false, false, false, false, false] (by kernel_rfl) rfl rfl HS.drew ?_
    have H := H.drew
    have HS := HS.drew
    first | (refine d_pure (i := 0) #[true, false, false, false, false, false, false, false, false] rfl (by kernel_rfl) (fun _ _ _ h => h) rfl (fun w_ => evP_run (o := ⟨_, _, _, _, _, _⟩) txs rfl) ?_)
    first | (refine d_pure (i := 1) #[true, true, false, false, false, false, false, false, false] rfl (by kernel_rfl) (fun _ _ _ h => h) rfl (fun w_ => evIA_run (o := ⟨_, _, _, _, _, _⟩) txs rfl (by omega) (by omega)) ?_)
    first | (refine d_take (i := 2) #[true, true, true, false, false, false, false, false, false] rfl (by kernel_rfl) (fun _ _ _ h => h) rfl (fun w_ K => evL_run (o := ⟨_, _, _, _, _, _⟩) txs rfl (rdT_cell (rowT_at K 1 rfl) (i := 1) (y := v) rfl)) HS ?_)
    first | (refine d_pure (i := 3) #[true, true, true, true, false, false, false, false, false] rfl (by kernel_rfl) (fun _ _ _ h => h) rfl (fun w_ => evP_run (o := ⟨_, _, _, _, _, _⟩) txs rfl) ?_)
    first | (refine d_pure (i := 4) #[true, true, true, true, true, false, false, false, false] rfl (by kernel_rfl) (fun _ _ _ h => h) rfl (fun w_ => evIA_run (o := ⟨_, _, _, _, _, _⟩) txs rfl (by omega) (by omega)) ?_)
    first | (refine d_take (i := 5) #[true, true, true, true, true, true, false, false, false] rfl (by kernel_rfl) (fun _ _ _ h => h) rfl (fun w_ K => evL_run (o := ⟨_, _, _, _, _, _⟩) txs rfl (rdT_cell (rowT_at K 0 rfl) (i := 1) (y := u) rfl)) HS ?_)
    refine d_one (i := 6) #[true, true, true, true, true, true, true, false, false] rfl (by kernel_rfl) rfl ?_
    refine l_callv rfl rfl (by kernel_rfl) (hb2 _) (fun w_ K => ?_); have H := H.call K
    refine l_nil ?_
    have HS := H.pick [] [0, 1] (by decide) (by decide) rfl rfl
    refine ⟨rfl, HS, ?_⟩
    first | (refine d_pure (i := 7) #[true, true, true, true, true, true, true, true, false] rfl (by kernel_rfl) (fun _ _ _ h => h) rfl (fun w_ => evT_yes (o := ⟨_, _, _, _, _, _⟩) txs rfl h3) ?_)
    first | (refine d_pure (i := 8) #[true, true, true, true, true, true, true, true, true] rfl (by kernel_rfl) (fun _ _ _ h => h) rfl (fun w_ => evP_run (o := ⟨_, _, _, _, _, _⟩) txs rfl) ?_)
    refine d_done rfl ?_
    repeat' (with_reducible first | refine p_tn ?_ | refine wp_ret ?_)
    refine end1 rfl rfl ?_
    exact ⟨by rw [hkey, decide_eq_true h3], H.B⟩
  · skip
    have HS := H.pick [] [0, 1] (by decide) (by decide) rfl rfl
    refine d_start (fun w_ => HpS _ w w_ _ _) #[false, false, false, false, false, false, false, false, false] (by kernel_rfl) rfl rfl HS.drew ?_
    have H := H.drew
    have HS := HS.drew
    first | (refine d_pure (i := 0) #[true, false, false, false, false, false, false, false, false] rfl (by kernel_rfl) (fun _ _ _ h => h) rfl (fun w_ => evP_run (o := ⟨_, _, _, _, _, _⟩) txs rfl) ?_)
    first | (refine d_pure (i := 1) #[true, true, false, false, false, false, false, false, false] rfl (by kernel_rfl) (fun _ _ _ h => h) rfl (fun w_ => evIA_run (o := ⟨_, _, _, _, _, _⟩) txs rfl (by omega) (by omega)) ?_)
    first | (refine d_take (i := 2) #[true, true, true, false, false, false, false, false, false] rfl (by kernel_rfl) (fun _ _ _ h => h) rfl (fun w_ K => evL_run (o := ⟨_, _, _, _, _, _⟩) txs rfl (rdT_cell (rowT_at K 1 rfl) (i := 1) (y := v) rfl)) HS ?_)
    first | (refine d_pure (i := 3) #[true, true, true, true, false, false, false, false, false] rfl (by kernel_rfl) (fun _ _ _ h => h) rfl (fun w_ => evP_run (o := ⟨_, _, _, _, _, _⟩) txs rfl) ?_)
    first | (refine d_pure (i := 4) #[true, true, true, true, true, false, false, false, false] rfl (by kernel_rfl) (fun _ _ _ h => h) rfl (fun w_ => evIA_run (o := ⟨_, _, _, _, _, _⟩) txs rfl (by omega) (by omega)) ?_)
    first | (refine d_take (i := 5) #[true, true, true, true, true, true, false, false, false] rfl (by kernel_rfl) (fun _ _ _ h => h) rfl (fun w_ K => evL_run (o := ⟨_, _, _, _, _, _⟩) txs rfl (rdT_cell (rowT_at K 0 rfl) (i := 1) (y := u) rfl)) HS ?_)
    refine d_one (i := 6) #[true, true, true, true, true, true, true, false, false] rfl (by kernel_rfl) rfl ?_
    refine l_callv rfl rfl (by kernel_rfl) (hb2 _) (fun w_ K => ?_); have H := H.call K
    refine l_nil ?_
    have HS := H.pick [] [0, 1] (by decide) (by decide) rfl rfl
    refine ⟨rfl, HS, ?_⟩
    first | (refine d_pure (i := 7) #[true, true, true, true, true, true, true, true, false] rfl (by kernel_rfl) (fun _ _ _ h => h) rfl (fun w_ => evT_no (o := ⟨_, _, _, _, _, _⟩) txs rfl h3) ?_)
    first | (refine d_pure (i := 8) #[true, true, true, true, true, true, true, true, true] rfl (by kernel_rfl) (fun _ _ _ h => h) rfl (fun w_ => evP_run (o := ⟨_, _, _, _, _, _⟩) txs rfl) ?_)
    refine d_done rfl ?_
    repeat' (with_reducible first | refine p_tn ?_ | refine wp_ret ?_)
    refine end1 rfl rfl ?_
    exact ⟨by rw [hkey, decide_eq_false h3], H.B⟩
set_option maxHeartbeats 4000000 in
theorem same_c {w : World} {A A2 : Option Addr} {c c2 : Nat} {N : List L} (h : Rd w A (strC N)) (h2 : Rd w A2 (strC N)) (hl : N.length ≤ 4000000) :
    Calls Tryz.prog 12 #[.slice A N.length c, .slice A2 N.length c2] w fun e w' => e = .returned (.bool true) ∧ Below w.heap.size w w' := by
  refine enter (args := [.slice A N.length c, .slice A2 N.length c2]) Tryz.func12 rfl Tryz.ntmps12 rfl ?_
  have H := Hp.nil w
  repeat' (first | (with_reducible first | refine p_tn ?_ | refine wp_seq ?_ | refine w_reg ?_ | refine l_nil ?_) | ((with_reducible refine g_on ?_); (first | ((with_reducible refine g_mv ?_); refine l_p txs rfl rfl ?_) | ((with_reducible refine g_as ?_); refine l_p txs rfl rfl ?_) | ((with_reducible refine g_cl ?_); refine l_p txs rfl rfl ?_))))
  (with_reducible refine is_l ?_); refine l_t txs rfl rfl (fun h => absurd rfl h) (fun _ => ?_)
  repeat' (first | (with_reducible first | refine p_tn ?_ | refine wp_seq ?_ | refine wp_block ?_ | refine w_reg ?_) | (with_reducible (refine is_if ?_; (refine w_iff rfl ?_))) | (with_reducible first | refine wp_skip ?_ | refine l_nil ?_) | ((with_reducible refine g_on ?_); ((with_reducible refine g_as ?_); refine l_p txs rfl rfl ?_)))
  refine w_loop (σ := Nat) (S := fun s => [(0, .slice A N.length c), (1, .slice A2 N.length c2), (5, .int .i64 (s : Int))]) (J := fun s w' => Hp w w' [] [] ∧ s ≤ N.length) (μ := fun s => N.length - s) 0 ⟨rfl, rfl, rfl, trivial⟩ ⟨H, Nat.zero_le _⟩ ?_
  clear H
  rintro i f w_ ⟨H, hi⟩
  repeat' (first | (with_reducible first | refine wp_seq ?_ | refine w_reg ?_) | ((with_reducible refine g_on ?_); (first | ((with_reducible refine g_mv ?_); refine l_p txs rfl rfl ?_) | ((with_reducible refine g_cl ?_); refine l_p txs rfl rfl ?_))))
  (with_reducible refine is_l ?_); refine l_t txs rfl rfl (fun hlt => ?_) (fun hge => ?_)
  · obtain ⟨x, hx⟩ : ∃ x, N[i]? = some x := ⟨_, List.getElem?_eq_getElem (by omega)⟩
    obtain ⟨ad, rfl⟩ := rdT_some h hx
    obtain ⟨ad2, rfl⟩ := rdT_some h2 hx
    repeat' (first | (with_reducible first | refine p_tn ?_ | refine wp_seq ?_ | refine wp_block ?_) | (with_reducible (refine is_if ?_; (refine w_ift rfl ?_))) | (with_reducible first | refine wp_skip ?_ | refine l_nil ?_))
    have HS := H.pick [] [] (by decide) (by decide) rfl rfl
    refine d_start (fun w_ => HpS _ w w_ _ _) #[false, false, false, false, false, false, false, false, false] (by kernel_rfl) rfl rfl HS.drew ?_
    have H := H.drew
    have HS := HS.drew
    first | (refine d_pure (i := 0) #[true, false, false, false, false, false, false, false, false] rfl (by kernel_rfl) (fun _ _ _ h => h) rfl (fun w_ => evP_run (o := ⟨_, _, _, _, _, _⟩) txs rfl) ?_)
    first | (refine d_pure (i := 1) #[true, true, false, false, false, false, false, false, false] rfl (by kernel_rfl) (fun _ _ _ h => h) rfl (fun w_ => evP_run (o := ⟨_, _, _, _, _, _⟩) txs rfl) ?_)
    first | (refine d_pure (i := 2) #[true, true, true, false, false, false, false, false, false] rfl (by kernel_rfl) (fun _ _ _ h => h) rfl (fun w_ => evIA_run (o := ⟨_, _, _, _, _, _⟩) txs rfl (by omega) (by omega)) ?_)
    first | (refine d_take (i := 3) #[true, true, true, true, false, false, false, false, false] rfl (by kernel_rfl) (fun _ _ _ h => h) rfl (fun w_ K => evL_run (o := ⟨_, _, _, _, _, _⟩) txs rfl (by rw [Int.toNat_natCast]; exact K.old (rdT_cell h hx))) HS ?_)
    first | (refine d_pure (i := 4) #[true, true, true, true, true, false, false, false, false] rfl (by kernel_rfl) (fun _ _ _ h => h) rfl (fun w_ => evP_run (o := ⟨_, _, _, _, _, _⟩) txs rfl) ?_)
    first | (refine d_pure (i := 5) #[true, true, true, true, true, true, false, false, false] rfl (by kernel_rfl) (fun _ _ _ h => h) rfl (fun w_ => evP_run (o := ⟨_, _, _, _, _, _⟩) txs rfl) ?_)
    first | (refine d_pure (i := 6) #[true, true, true, true, true, true, true, false, false] rfl (by kernel_rfl) (fun _ _ _ h => h) rfl (fun w_ => evIA_run (o := ⟨_, _, _, _, _, _⟩) txs rfl (by omega) (by omega)) ?_)
    first | (refine d_take (i := 7) #[true, true, true, true, true, true, true, true, false] rfl (by kernel_rfl) (fun _ _ _ h => h) rfl (fun w_ K => evL_run (o := ⟨_, _, _, _, _, _⟩) txs rfl (by rw [Int.toNat_natCast]; exact K.old (rdT_cell h2 hx))) HS ?_)
    first | (refine d_pure (i := 8) #[true, true, true, true, true, true, true, true, true] rfl (by kernel_rfl) (fun _ _ _ h => h) rfl (fun w_ => evT_no (o := ⟨_, _, _, _, _, _⟩) txs rfl (fun h => h rfl)) ?_)
    refine d_done rfl ?_
    repeat' (first | (with_reducible first | refine p_tn ?_ | refine p_bn ?_ | refine w_reg ?_) | (with_reducible (refine is_if ?_; (refine w_iff rfl ?_))) | (with_reducible first | refine wp_skip ?_ | refine l_nil ?_) | ((with_reducible refine g_on ?_); (first | ((with_reducible refine g_mv ?_); refine l_p txs rfl rfl ?_) | ((with_reducible refine g_as ?_); refine l_p txs rfl rfl ?_) | ((with_reducible refine g_bi ?_); (refine l_a txs rfl rfl (by first | exact in_i64 (by omega) (by omega) | exact in_u8 (by omega) (by omega) | exact in_u64 (by omega) (by omega) | exact in_i32 (by omega) (by omega)) ?_)))))
    exact ⟨i + 1, _, rfl, ⟨rfl, rfl, rfl, trivial⟩, ⟨H, by omega⟩, by omega⟩
  · repeat' (first | (with_reducible first | refine p_tn ?_ | refine p_tx ?_ | refine x_hit ?_ | refine wp_seq ?_ | refine w_reg ?_) | (with_reducible (refine is_if ?_; (refine w_iff rfl ?_))) | (with_reducible first | refine wp_exit ?_ | refine wp_ret ?_ | refine l_nil ?_) | ((with_reducible refine g_on ?_); ((with_reducible refine g_as ?_); refine l_p txs rfl rfl ?_)))
    refine end1 rfl rfl ?_
    exact ⟨rfl, H.B⟩
end Go.Proofs.YtnimaenhijlcmaaGreatDoor.K.Ref
end
section
namespace Go.Proofs.YtnimaenhijlcmaaGreatDoor.K.Ref
open Go.RowKit Go.Proofs.YtnimaenhijlcmaaGreatDoor.Q Go.Proofs.YtnimaenhijlcmaaGreatDoor.K Go.Proofs.YtnimaenhijlcmaaGreatDoor.Mb Go.Proofs.YtnimaenhijlcmaaGreatDoorW.PrintWords
set_option linter.unusedVariables false
set_option linter.unusedSimpArgs false
theorem swap_set {α : Type} : ∀ (T D : List α) (y x : α) (m : Nat), T.length = m → ((T ++ y :: x :: D).set (m + 1) y).set m x = T ++ x :: y :: D
  | [], D, y, x, m, h => by subst h; rfl
  | t :: T, D, y, x, m, h => by
    subst h
    simp only [List.cons_append, List.length_cons, List.set_cons_succ]
    rw [swap_set T D y x T.length rfl]
theorem row_at {s : Bool} {w0 w : World} {l : List Ent} {r : List RowD} (H : HpS s w0 w l r) (k : Nat) {A : Option Addr} {n c sz : Nat} {e : TypeId} {cs : List Value} (hk : r[k]? = some ⟨.slice A n c, e, sz, n, cs⟩) : Rd w A cs := by
  obtain ⟨A', c', e, _, hrd, _⟩ := H.rd k hk
  simp only [Value.slice.injEq] at e
  rw [e.1]
  exact hrd
theorem row_addr {s : Bool} {w0 w : World} {l : List Ent} {r : List RowD} (H : HpS s w0 w l r) (k : Nat) {ad : Addr} {n c sz : Nat} {e : TypeId} {cs : List Value} (hk : r[k]? = some ⟨.slice (some ad) n c, e, sz, n, cs⟩) : ∃ g, ad = ⟨g, 0, none⟩ := by
  obtain ⟨_, h | ⟨g, cap, cur, h, _⟩⟩ := H.row k _ hk
  · exact absurd h.1 (by simp)
  · simp only [Value.slice.injEq, Option.some.injEq] at h
    exact ⟨g, h.1⟩
abbrev insM (N : List L) (x : L) (j : Nat) : List L := N.take j ++ x :: N.drop j
theorem insM_len {N : List L} {x : L} {j : Nat} (hj : j ≤ N.length) : (insM N x j).length = N.length + 1 := by
  simp only [insM, List.length_append, List.length_take, List.length_cons, List.length_drop]
  omega
theorem insM_at {N : List L} {x y : L} {m : Nat} (hy : N[m]? = some y) : insM N x (m + 1) = N.take m ++ y :: x :: N.drop (m + 1) ∧ insM N x m = N.take m ++ x :: y :: N.drop (m + 1) ∧ (insM N x (m + 1))[m + 1]? = some x ∧ (insM N x (m + 1))[m]? = some y := by
  obtain ⟨e1, e2⟩ := ins_at (k := x) hy
  have hm : m < N.length := (List.getElem?_eq_some_iff.1 hy).1
  have hl : (N.take m).length = m := by rw [List.length_take]; omega
  refine ⟨e1, e2, ?_, ?_⟩
  · show (N.take (m + 1) ++ x :: N.drop (m + 1))[m + 1]? = _
    rw [e1, List.getElem?_append_right (by omega), hl, show m + 1 - m = 1 by omega]
    rfl
  · show (N.take (m + 1) ++ x :: N.drop (m + 1))[m]? = _
    rw [e1, List.getElem?_append_right (by omega), hl, Nat.sub_self]
    rfl
theorem insM_swap {N : List L} {x y : L} {m : Nat} (hy : N[m]? = some y) : ((strC (insM N x (m + 1))).set (m + 1) (.string (strOfNums y))).set m (.string (strOfNums x)) = strC (insM N x m) := by
  obtain ⟨e1, e2, _⟩ := insM_at (x := x) hy
  have hm : m < N.length := (List.getElem?_eq_some_iff.1 hy).1
  rw [e1, e2]
  have h := swap_set ((N.take m).map fun z => Value.string (strOfNums z)) ((N.drop (m + 1)).map fun z => Value.string (strOfNums z)) (.string (strOfNums y)) (.string (strOfNums x)) m (by rw [List.length_map, List.length_take]; omega)
  simp only [strC, List.map_append, List.map_cons]
  exact h
theorem at_row (g k : Nat) : (⟨g, 0, none⟩ : Addr).add (k * 1) = ⟨g, k, none⟩ := by
  rw [add_lit, Nat.mul_one, Nat.zero_add]
abbrev rowN (g n c : Nat) (l : List L) : RowD := ⟨.slice (some ⟨g, 0, none⟩) n c, 9, 1, n, strC l⟩
set_option maxRecDepth 100000 in
set_option maxHeartbeats 16000000 in
theorem Sort_r {w : World} (hL : TakL w) {A : Option Addr} {c : Nat} {ks : List L} (hR : Rd w A (strC ks)) (hB : ∀ x ∈ ks, Bytes x ∧ x.length ≤ 100000000) (hl : ks.length ≤ 2000000) :
    Calls Tryz.prog 10 #[.slice A ks.length c] w (SorR w ks) := by
  refine enter (args := [.slice A ks.length c]) Tryz.func10 rfl Tryz.ntmps10 rfl ?_
  have H := Hp.nil w
  repeat' (first | (with_reducible first | refine p_tn ?_ | refine wp_seq ?_ | refine w_reg ?_ | refine l_nil ?_) | ((with_reducible refine g_on ?_); (first | ((with_reducible refine g_mv ?_); refine l_p txs rfl rfl ?_) | ((with_reducible refine g_as ?_); refine l_p txs rfl rfl ?_) | ((with_reducible refine g_cl ?_); refine l_p txs rfl rfl ?_))))
  (with_reducible refine is_l ?_); refine l_t txs rfl rfl (fun h1 => ?_) (fun h1 => ?_)
  · have hs : sortE ks = 2 := by unfold sortE; rw [if_pos (by omega)]
    repeat' (first | (with_reducible first | refine p_tn ?_ | refine p_tr ?_ | refine wp_seq ?_ | refine w_reg ?_) | (with_reducible (refine is_if ?_; (refine w_ift rfl ?_))) | (with_reducible first | refine wp_ret ?_ | refine l_nil ?_) | ((with_reducible refine g_on ?_); (first | ((with_reducible refine g_mv ?_); refine l_p txs rfl rfl ?_) | ((with_reducible refine g_as ?_); refine l_p txs rfl rfl ?_))))
    refine end2 rfl rfl rfl ?_
    exact sor_no hs (by decide) H.B
  have hse : sortE ks = firstE ks := by unfold sortE; rw [if_neg (by omega)]
  repeat' (first | (with_reducible first | refine p_tn ?_ | refine wp_seq ?_ | refine wp_block ?_ | refine w_reg ?_) | (with_reducible (refine is_if ?_; (refine w_iff rfl ?_))) | (with_reducible first | refine wp_skip ?_ | refine l_nil ?_) | ((with_reducible refine g_on ?_); ((with_reducible refine g_as ?_); refine l_p txs rfl rfl ?_)))
  refine w_loop (σ := Nat) (S := fun s => [(0, .slice A ks.length c), (4, .slice none 0 0), (5, .int .i64 (s : Int))]) (J := fun s w' => Hp w w' [] [] ∧ s ≤ ks.length ∧ firstE ks = firstE (ks.drop s)) (μ := fun s => ks.length - s) 0 ⟨rfl, rfl, rfl, trivial⟩ ⟨H, Nat.zero_le _, rfl⟩ ?_
  clear H
  rintro i f w_ ⟨H, hi, hf⟩
  repeat' (first | (with_reducible first | refine wp_seq ?_ | refine w_reg ?_) | ((with_reducible refine g_on ?_); (first | ((with_reducible refine g_mv ?_); refine l_p txs rfl rfl ?_) | ((with_reducible refine g_cl ?_); refine l_p txs rfl rfl ?_))))
  (with_reducible refine is_l ?_); refine l_t txs rfl rfl (fun hlt => ?_) (fun hge => ?_)
  · obtain ⟨x, hx⟩ : ∃ x, ks[i]? = some x := ⟨_, List.getElem?_eq_getElem (by omega)⟩
    obtain ⟨ad, rfl⟩ := rdT_some hR hx
    rw [drop_of hx, firstE] at hf
    obtain ⟨bx, lx⟩ := hB x (List.mem_of_getElem? hx)
    repeat' (first | (with_reducible first | refine p_tn ?_ | refine wp_seq ?_ | refine wp_block ?_ | refine w_reg ?_) | (with_reducible (refine is_if ?_; (refine w_ift rfl ?_))) | (with_reducible first | refine wp_skip ?_ | refine l_nil ?_) | ((with_reducible refine g_on ?_); (first | ((with_reducible refine g_mv ?_); refine l_p txs rfl rfl ?_) | ((with_reducible refine g_ia ?_); refine l_ia txs rfl rfl (by first | omega | assumption | decide) (by first | omega | assumption | decide) ?_))))
    (with_reducible refine is_l ?_); refine l_ld txs rfl rfl (by rw [Int.toNat_natCast]; exact H.old (rdT_cell hR hx)) ?_
    skip
    have hpk := ParseKey_r (hL.below H.B) (strOfNums x) (by rw [sizeS' bx]; exact lx)
    have he := parK_e (bl (strOfNums x))
    rw [blS bx] at hpk he
    generalize parK x = q at hpk he
    obtain ⟨q1, q2, q3⟩ := q
    have he : q3 = keyE x := he
    subst he
    (with_reducible refine is_l ?_); refine l_callv rfl rfl (by kernel_rfl) hpk (fun w_ K => ?_)
    have H := H.call K
    repeat' (first | (with_reducible first | refine p_tn ?_ | refine wp_seq ?_ | refine w_reg ?_ | refine l_nil ?_) | ((with_reducible refine g_on ?_); (first | ((with_reducible refine g_mv ?_); refine l_p txs rfl rfl ?_) | ((with_reducible refine g_as ?_); refine l_p txs rfl rfl ?_) | ((with_reducible refine g_ex ?_); refine l_p txs rfl rfl ?_))))
    (with_reducible refine is_l ?_); refine l_t txs rfl rfl (fun h0 => ?_) (fun h0 => ?_)
    · rw [if_pos h0, ← hse] at hf
      repeat' (first | (with_reducible first | refine p_tn ?_ | refine p_tr ?_ | refine p_br ?_ | refine wp_seq ?_ | refine w_reg ?_) | (with_reducible (refine is_if ?_; (refine w_ift rfl ?_))) | (with_reducible first | refine wp_ret ?_ | refine l_nil ?_) | ((with_reducible refine g_on ?_); (first | ((with_reducible refine g_mv ?_); refine l_p txs rfl rfl ?_) | ((with_reducible refine g_as ?_); refine l_p txs rfl rfl ?_))))
      refine end2 rfl rfl rfl ?_
      exact sor_no hf h0 H.B
    · rw [if_neg h0] at hf
      repeat' (first | (with_reducible first | refine p_tn ?_ | refine p_bn ?_ | refine w_reg ?_) | (with_reducible (refine is_if ?_; (refine w_iff rfl ?_))) | (with_reducible first | refine wp_skip ?_ | refine l_nil ?_) | ((with_reducible refine g_on ?_); (first | ((with_reducible refine g_mv ?_); refine l_p txs rfl rfl ?_) | ((with_reducible refine g_as ?_); refine l_p txs rfl rfl ?_) | ((with_reducible refine g_bi ?_); (refine l_a txs rfl rfl (by first | exact in_i64 (by omega) (by omega) | exact in_u8 (by omega) (by omega) | exact in_u64 (by omega) (by omega) | exact in_i32 (by omega) (by omega)) ?_)))))
      exact ⟨i + 1, _, rfl, ⟨rfl, rfl, rfl, trivial⟩, ⟨H, by omega, hf⟩, by omega⟩
  rw [List.drop_eq_nil_of_le (by omega), ← hse] at hf
  have hs : sortE ks = 0 := hf
  have hk0 : ∀ x ∈ ks, keyE x = 0 := firstE_zero.1 (hse ▸ hs)
  have H := H.nilRow 9 1
  repeat' (first | (with_reducible first | refine p_tn ?_ | refine p_tx ?_ | refine x_hit ?_ | refine wp_seq ?_ | refine wp_block ?_ | refine w_reg ?_) | (with_reducible (refine is_if ?_; (refine w_iff rfl ?_))) | (with_reducible first | refine wp_exit ?_ | refine l_nil ?_) | ((with_reducible refine g_on ?_); ((with_reducible refine g_as ?_); refine l_p txs rfl rfl ?_)))
  refine w_loop (σ := Nat × List L × Option Addr × Nat) (S := fun s => [(0, .slice A ks.length c), (9, .slice s.2.2.1 s.2.1.length s.2.2.2), (10, .int .i64 (s.1 : Int))]) (J := fun s w' => Hp w w' [] [rowT (.slice s.2.2.1 s.2.1.length s.2.2.2) s.2.1] ∧ s.1 ≤ ks.length ∧ s.2.1.Perm (ks.take s.1) ∧ InOrd s.2.1) (μ := fun s => ks.length - s.1) (0, [], none, 0) ⟨rfl, rfl, rfl, trivial⟩ ⟨H, Nat.zero_le _, List.Perm.refl _, List.Pairwise.nil⟩ ?_
  rintro ⟨i, N, A1, c1⟩ f w_ ⟨H, hi, hp, ho⟩
  simp only at H hi hp ho ⊢
  repeat' (first | (with_reducible first | refine wp_seq ?_ | refine w_reg ?_) | ((with_reducible refine g_on ?_); (first | ((with_reducible refine g_mv ?_); refine l_p txs rfl rfl ?_) | ((with_reducible refine g_cl ?_); refine l_p txs rfl rfl ?_))))
  (with_reducible refine is_l ?_); refine l_t txs rfl rfl (fun hlt => ?_) (fun hge => ?_)
  · obtain ⟨x, hx⟩ : ∃ x, ks[i]? = some x := ⟨_, List.getElem?_eq_getElem (by omega)⟩
    obtain ⟨ad, rfl⟩ := rdT_some hR hx
    obtain ⟨bx, lx⟩ := hB x (List.mem_of_getElem? hx)
    have kx := hk0 x (List.mem_of_getElem? hx)
    have hNs : ∀ y ∈ N, y ∈ ks := fun y hy => List.mem_of_mem_take (hp.subset hy)
    have hNl : N.length = i := by rw [hp.length_eq, List.length_take]; omega
    repeat' (first | (with_reducible first | refine p_tn ?_ | refine wp_seq ?_ | refine wp_block ?_ | refine w_reg ?_) | (with_reducible (refine is_if ?_; (refine w_ift rfl ?_))) | (with_reducible first | refine wp_skip ?_ | refine l_nil ?_) | ((with_reducible refine g_on ?_); (first | ((with_reducible refine g_mv ?_); refine l_p txs rfl rfl ?_) | ((with_reducible refine g_ia ?_); refine l_ia txs rfl rfl (by first | omega | assumption | decide) (by first | omega | assumption | decide) ?_))))
    (with_reducible refine is_l ?_); refine l_ld txs rfl rfl (by rw [Int.toNat_natCast]; exact H.old (rdT_cell hR hx)) ?_
    skip
    (with_reducible refine is_l ?_); refine h_bs H info_str3 Tryz.underlying25 (by decide) (by decide) rfl rfl (fill_s _) (fun g_ w_ H => ?_)
    (with_reducible refine is_l ?_); refine h_app H 0 rfl info_str3 Tryz.underlying25 rfl rfl rfl rfl (H.cellRd 0 rfl) rfl rfl (by show (N.length + 1) * 16 ≤ _; omega) (fun v w_ hv H => ?_)
    obtain ⟨A2, c2, hv⟩ := hv
    have hv : v = .slice A2 (N.length + 1) c2 := hv
    subst hv
    have H := H.pick [] [0] (by decide) (by decide) rfl rfl
    have H : Hp w w_ [] [⟨.slice A2 (N.length + 1) c2, 9, 1, N.length + 1, strC (insM N x N.length)⟩] := by
      have e : strC (insM N x N.length) = strC N ++ [.string (strOfNums x)] := by simp [strC, insM]
      rw [e]
      exact H
    obtain ⟨ad2, rfl⟩ : ∃ a, A2 = some a := by
      obtain ⟨A3, c3, e3, _, _, hz⟩ := H.rd 0 rfl
      simp only [Value.slice.injEq] at e3
      cases A2 with
      | some a => exact ⟨a, rfl⟩
      | none => exact absurd (hz e3.1.symm).2 (by show N.length + 1 ≠ 0; omega)
    obtain ⟨g2, rfl⟩ := row_addr H 0 rfl
    repeat' (first | (with_reducible first | refine p_tn ?_ | refine wp_seq ?_ | refine wp_block ?_ | refine w_reg ?_ | refine l_nil ?_) | ((with_reducible refine g_on ?_); (first | ((with_reducible refine g_mv ?_); refine l_p txs rfl rfl ?_) | ((with_reducible refine g_as ?_); refine l_p txs rfl rfl ?_) | ((with_reducible refine g_cl ?_); refine l_p txs rfl rfl ?_) | ((with_reducible refine g_bi ?_); (refine l_a txs rfl rfl (by first | exact in_i64 (by omega) (by omega) | exact in_u8 (by omega) (by omega) | exact in_u64 (by omega) (by omega) | exact in_i32 (by omega) (by omega)) ?_)))))
    refine w_loop (σ := Nat) (S := fun j => [(0, .slice (some ad) ks.length c), (9, .slice (some ⟨g2, 0, none⟩) (N.length + 1) c2), (10, .int .i64 (i : Int)), (11, .int .i64 (j : Int))]) (J := fun j w' => Hp w w' [] [rowN g2 (N.length + 1) c2 (insM N x j)] ∧ j ≤ N.length ∧ ∀ y ∈ N.drop j, keyF x y ≤ 0) (μ := fun j => j) N.length ⟨rfl, rfl, rfl, by show Value.int .i64 (((N.length + 1 : Nat) : Int) - 1) = Value.int .i64 (N.length : Int); congr 1; omega, trivial⟩ ⟨H, Nat.le_refl _, by simp⟩ ?_
    rintro j f w_ ⟨H, hj, hd⟩
    repeat' (first | (with_reducible first | refine wp_seq ?_ | refine w_reg ?_) | ((with_reducible refine g_on ?_); ((with_reducible refine g_mv ?_); refine l_p txs rfl rfl ?_)))
    (with_reducible refine is_l ?_); refine l_t txs rfl rfl (fun hjp => ?_) (fun hjz => ?_)
    · obtain ⟨m, rfl⟩ : ∃ m, j = m + 1 := ⟨j - 1, by omega⟩
      obtain ⟨y, hy⟩ : ∃ y, N[m]? = some y := ⟨_, List.getElem?_eq_getElem (by omega)⟩
      obtain ⟨e1, e2, hx1, hy1⟩ := insM_at (x := x) hy
      have hbf := fun (w1 : World) => Before_c bx (hB y (hNs y (List.mem_of_getElem? hy))).1 kx (hk0 y (hNs y (List.mem_of_getElem? hy))) w1
      by_cases hlt2 : keyF x y < 0
      · rw [decide_eq_true hlt2] at hbf
        repeat' (first | (with_reducible first | refine p_tn ?_ | refine wp_seq ?_ | refine wp_block ?_) | (with_reducible (refine is_if ?_; (refine w_ift rfl ?_))) | (with_reducible first | refine wp_skip ?_ | refine l_nil ?_))
        have HS := H.pick [] [0] (by decide) (by decide) rfl rfl
        refine d_start (fun w_ => HpS _ w w_ _ _) #[false, false, false, false, false, false, false, false, false, false, false] (by kernel_rfl) rfl rfl HS.drew ?_
        have H := H.drew
        have HS := HS.drew
        first | (refine d_pure (i := 0) #[true, false, false, false, false, false, false, false, false, false, false] rfl (by kernel_rfl) (fun _ _ _ h => h) rfl (fun w_ => evP_run (o := ⟨_, _, _, _, _, _⟩) txs rfl) ?_)
        first | (refine d_pure (i := 1) #[true, true, false, false, false, false, false, false, false, false, false] rfl (by kernel_rfl) (fun _ _ _ h => h) rfl (fun w_ => evP_run (o := ⟨_, _, _, _, _, _⟩) txs rfl) ?_)
        first | (refine d_pure (i := 2) #[true, true, true, false, false, false, false, false, false, false, false] rfl (by kernel_rfl) (fun _ _ _ h => h) rfl (fun w_ => evIA_run (o := ⟨_, _, _, _, _, _⟩) txs rfl (by omega) (by omega)) ?_)
        first | (refine d_take (i := 3) #[true, true, true, true, false, false, false, false, false, false, false] rfl (by kernel_rfl) (fun _ _ _ h => h) rfl (fun w_ K => evL_run (o := ⟨_, _, _, _, _, _⟩) txs rfl (by rw [Int.toNat_natCast]; exact rdT_cell (row_at K 0 rfl) hx1)) HS ?_)
        first | (refine d_pure (i := 4) #[true, true, true, true, true, false, false, false, false, false, false] rfl (by kernel_rfl) (fun _ _ _ h => h) rfl (fun w_ => evP_run (o := ⟨_, _, _, _, _, _⟩) txs rfl) ?_)
        first | (refine d_pure (i := 5) #[true, true, true, true, true, true, false, false, false, false, false] rfl (by kernel_rfl) (fun _ _ _ h => h) rfl (fun w_ => evP_run (o := ⟨_, _, _, _, _, _⟩) txs rfl) ?_)
        first | (refine d_pure (i := 6) #[true, true, true, true, true, true, true, false, false, false, false] rfl (by kernel_rfl) (fun _ _ _ h => h) rfl (fun w_ => evP_run (o := ⟨_, _, _, _, _, _⟩) txs rfl) ?_) | (refine d_pure (i := 6) #[true, true, true, true, true, true, true, false, false, false, false] rfl (by kernel_rfl) (fun _ _ _ h => h) rfl (fun w_ => (evA_run (o := ⟨_, _, _, _, _, _⟩) txs rfl).trans (by rw [wrap_in (by first | exact in_i64 (by omega) (by omega) | exact in_u8 (by omega) (by omega) | exact in_u64 (by omega) (by omega) | exact in_i32 (by omega) (by omega))])) ?_)
        first | (refine d_pure (i := 7) #[true, true, true, true, true, true, true, true, false, false, false] rfl (by kernel_rfl) (fun _ _ _ h => h) rfl (fun w_ => evIA_run (o := ⟨_, _, _, _, _, _⟩) txs rfl (by omega) (by omega)) ?_)
        first | (refine d_take (i := 8) #[true, true, true, true, true, true, true, true, true, false, false] rfl (by kernel_rfl) (fun _ _ _ h => h) rfl (fun w_ K => evL_run (o := ⟨_, _, _, _, _, _⟩) txs rfl (by rw [show (((m + 1 : Nat) : Int) - 1).toNat = m by omega]; exact rdT_cell (row_at K 0 rfl) hy1)) HS ?_)
        refine d_one (i := 9) #[true, true, true, true, true, true, true, true, true, true, false] rfl (by kernel_rfl) rfl ?_
        refine l_callv rfl rfl (by kernel_rfl) (hbf _) (fun w_ K => ?_); have H := H.call K
        refine l_nil ?_
        have HS := H.pick [] [0] (by decide) (by decide) rfl rfl
        refine ⟨rfl, HS, ?_⟩
        first | (refine d_pure (i := 10) #[true, true, true, true, true, true, true, true, true, true, true] rfl (by kernel_rfl) (fun _ _ _ h => h) rfl (fun w_ => evP_run (o := ⟨_, _, _, _, _, _⟩) txs rfl) ?_)
        refine d_done rfl ?_
        repeat' (first | (with_reducible first | refine p_tn ?_ | refine wp_seq ?_ | refine w_reg ?_) | (with_reducible (refine is_if ?_; (refine w_iff rfl ?_))) | (with_reducible refine wp_skip ?_) | ((with_reducible refine g_on ?_); (first | ((with_reducible refine g_mv ?_); refine l_p txs rfl rfl ?_) | ((with_reducible refine g_ia ?_); refine l_ia txs rfl rfl (by first | omega | assumption | decide) (by first | omega | assumption | decide) ?_))))
        (with_reducible refine is_l ?_); refine l_ld txs rfl rfl (by rw [Int.toNat_natCast]; exact rdT_cell (row_at H 0 rfl) hx1) ?_
        repeat' (first | (with_reducible first | refine p_tn ?_ | refine wp_seq ?_ | refine w_reg ?_ | refine l_nil ?_) | ((with_reducible refine g_on ?_); (first | ((with_reducible refine g_mv ?_); refine l_p txs rfl rfl ?_) | ((with_reducible refine g_as ?_); refine l_p txs rfl rfl ?_) | ((with_reducible refine g_ia ?_); refine l_ia txs rfl rfl (by first | omega | assumption | decide) (by first | omega | assumption | decide) ?_) | ((with_reducible refine g_bi ?_); (refine l_a txs rfl rfl (by first | exact in_i64 (by omega) (by omega) | exact in_u8 (by omega) (by omega) | exact in_u64 (by omega) (by omega) | exact in_i32 (by omega) (by omega)) ?_)))))
        (with_reducible refine is_l ?_); refine l_ld txs rfl rfl (by rw [show (((m + 1 : Nat) : Int) - 1).toNat = m by omega]; exact rdT_cell (row_at H 0 rfl) hy1) ?_
        repeat' ((with_reducible refine g_on ?_); ((with_reducible refine g_ia ?_); refine l_ia txs rfl rfl (by first | omega | assumption | decide) (by first | omega | assumption | decide) ?_))
        (with_reducible refine is_l ?_); refine h_stE (by kernel_rfl) H 0 (i := m + 1) (v := .string (strOfNums y)) rfl rfl rfl rfl (by rw [Int.toNat_natCast]; exact at_row _ _) rfl rfl (by omega) (fun w_ H => ?_)
        repeat' (first | (with_reducible first | refine p_tn ?_ | refine w_reg ?_ | refine l_nil ?_) | ((with_reducible refine g_on ?_); (first | ((with_reducible refine g_mv ?_); refine l_p txs rfl rfl ?_) | ((with_reducible refine g_ia ?_); refine l_ia txs rfl rfl (by first | omega | assumption | decide) (by first | omega | assumption | decide) ?_) | ((with_reducible refine g_bi ?_); (refine l_a txs rfl rfl (by first | exact in_i64 (by omega) (by omega) | exact in_u8 (by omega) (by omega) | exact in_u64 (by omega) (by omega) | exact in_i32 (by omega) (by omega)) ?_)))))
        (with_reducible refine is_l ?_); refine h_stE (by kernel_rfl) H 0 (i := m) (v := .string (strOfNums x)) rfl rfl rfl rfl (by rw [show (((m + 1 : Nat) : Int) - 1).toNat = m by omega]; exact at_row _ _) rfl rfl (by omega) (fun w_ H => ?_)
        repeat' (first | (with_reducible first | refine p_tn ?_ | refine p_bn ?_ | refine w_reg ?_ | refine l_nil ?_) | ((with_reducible refine g_on ?_); (first | ((with_reducible refine g_mv ?_); refine l_p txs rfl rfl ?_) | ((with_reducible refine g_as ?_); refine l_p txs rfl rfl ?_) | ((with_reducible refine g_bi ?_); (refine l_a txs rfl rfl (by first | exact in_i64 (by omega) (by omega) | exact in_u8 (by omega) (by omega) | exact in_u64 (by omega) (by omega) | exact in_i32 (by omega) (by omega)) ?_)))))
        refine ⟨m, _, rfl, ⟨rfl, rfl, rfl, by show Value.int .i64 (((m + 1 : Nat) : Int) - 1) = Value.int .i64 (m : Int); congr 1; omega, trivial⟩, ⟨?_, by omega, ins_step hy hd (by omega)⟩, by omega⟩
        show Hp w w_ [] [⟨.slice (some ⟨g2, 0, none⟩) (N.length + 1) c2, 9, 1, N.length + 1, strC (insM N x m)⟩]
        rw [← insM_swap hy]
        exact H
      · rw [decide_eq_false hlt2] at hbf
        repeat' (first | (with_reducible first | refine p_tn ?_ | refine wp_seq ?_ | refine wp_block ?_) | (with_reducible (refine is_if ?_; (refine w_ift rfl ?_))) | (with_reducible first | refine wp_skip ?_ | refine l_nil ?_))
        have HS := H.pick [] [0] (by decide) (by decide) rfl rfl
        refine d_start (fun w_ => HpS _ w w_ _ _) #[false, false, false, false, false, false, false, false, false, false, false] (by kernel_rfl) rfl rfl HS.drew ?_
        have H := H.drew
        have HS := HS.drew
        first | (refine d_pure (i := 0) #[true, false, false, false, false, false, false, false, false, false, false] rfl (by kernel_rfl) (fun _ _ _ h => h) rfl (fun w_ => evP_run (o := ⟨_, _, _, _, _, _⟩) txs rfl) ?_)
        first | (refine d_pure (i := 1) #[true, true, false, false, false, false, false, false, false, false, false] rfl (by kernel_rfl) (fun _ _ _ h => h) rfl (fun w_ => evP_run (o := ⟨_, _, _, _, _, _⟩) txs rfl) ?_)
        first | (refine d_pure (i := 2) #[true, true, true, false, false, false, false, false, false, false, false] rfl (by kernel_rfl) (fun _ _ _ h => h) rfl (fun w_ => evIA_run (o := ⟨_, _, _, _, _, _⟩) txs rfl (by omega) (by omega)) ?_)
        first | (refine d_take (i := 3) #[true, true, true, true, false, false, false, false, false, false, false] rfl (by kernel_rfl) (fun _ _ _ h => h) rfl (fun w_ K => evL_run (o := ⟨_, _, _, _, _, _⟩) txs rfl (by rw [Int.toNat_natCast]; exact rdT_cell (row_at K 0 rfl) hx1)) HS ?_)
        first | (refine d_pure (i := 4) #[true, true, true, true, true, false, false, false, false, false, false] rfl (by kernel_rfl) (fun _ _ _ h => h) rfl (fun w_ => evP_run (o := ⟨_, _, _, _, _, _⟩) txs rfl) ?_)
        first | (refine d_pure (i := 5) #[true, true, true, true, true, true, false, false, false, false, false] rfl (by kernel_rfl) (fun _ _ _ h => h) rfl (fun w_ => evP_run (o := ⟨_, _, _, _, _, _⟩) txs rfl) ?_)
        first | (refine d_pure (i := 6) #[true, true, true, true, true, true, true, false, false, false, false] rfl (by kernel_rfl) (fun _ _ _ h => h) rfl (fun w_ => evP_run (o := ⟨_, _, _, _, _, _⟩) txs rfl) ?_) | (refine d_pure (i := 6) #[true, true, true, true, true, true, true, false, false, false, false] rfl (by kernel_rfl) (fun _ _ _ h => h) rfl (fun w_ => (evA_run (o := ⟨_, _, _, _, _, _⟩) txs rfl).trans (by rw [wrap_in (by first | exact in_i64 (by omega) (by omega) | exact in_u8 (by omega) (by omega) | exact in_u64 (by omega) (by omega) | exact in_i32 (by omega) (by omega))])) ?_)
        first | (refine d_pure (i := 7) #[true, true, true, true, true, true, true, true, false, false, false] rfl (by kernel_rfl) (fun _ _ _ h => h) rfl (fun w_ => evIA_run (o := ⟨_, _, _, _, _, _⟩) txs rfl (by omega) (by omega)) ?_)
        first | (refine d_take (i := 8) #[true, true, true, true, true, true, true, true, true, false, false] rfl (by kernel_rfl) (fun _ _ _ h => h) rfl (fun w_ K => evL_run (o := ⟨_, _, _, _, _, _⟩) txs rfl (by rw [show (((m + 1 : Nat) : Int) - 1).toNat = m by omega]; exact rdT_cell (row_at K 0 rfl) hy1)) HS ?_)
        refine d_one (i := 9) #[true, true, true, true, true, true, true, true, true, true, false] rfl (by kernel_rfl) rfl ?_
        refine l_callv rfl rfl (by kernel_rfl) (hbf _) (fun w_ K => ?_); have H := H.call K
        refine l_nil ?_
        have HS := H.pick [] [0] (by decide) (by decide) rfl rfl
        refine ⟨rfl, HS, ?_⟩
        first | (refine d_pure (i := 10) #[true, true, true, true, true, true, true, true, true, true, true] rfl (by kernel_rfl) (fun _ _ _ h => h) rfl (fun w_ => evP_run (o := ⟨_, _, _, _, _, _⟩) txs rfl) ?_)
        refine d_done rfl ?_
        repeat' (first | (with_reducible first | refine p_tn ?_ | refine p_tx ?_ | refine p_bn ?_ | refine x_hit ?_ | refine x_miss rfl ?_ | refine w_reg ?_) | (with_reducible (refine is_if ?_; (refine w_ift rfl ?_))) | (with_reducible first | refine wp_exit ?_ | refine l_nil ?_) | ((with_reducible refine g_on ?_); (first | ((with_reducible refine g_mv ?_); refine l_p txs rfl rfl ?_) | ((with_reducible refine g_as ?_); refine l_p txs rfl rfl ?_) | ((with_reducible refine g_bi ?_); (refine l_a txs rfl rfl (by first | exact in_i64 (by omega) (by omega) | exact in_u8 (by omega) (by omega) | exact in_u64 (by omega) (by omega) | exact in_i32 (by omega) (by omega)) ?_)))))
        have hdone : InOrd (insM N x (m + 1)) := ins_done ho hd (fun z hz _ => by
          rw [show m + 1 - 1 = m by omega, hy] at hz
          injection hz with hz
          subst hz
          have := ordK.anti x y
          omega) hj
        refine ⟨(i + 1, insM N x (m + 1), some ⟨g2, 0, none⟩, c2), _, rfl, ⟨rfl, by show Value.slice (some ⟨g2, 0, none⟩) (N.length + 1) c2 = Value.slice (some ⟨g2, 0, none⟩) (insM N x (m + 1)).length c2; rw [insM_len hj], rfl, trivial⟩, ⟨?_, by show i + 1 ≤ _; omega, ?_, hdone⟩, by show _ - (i + 1) < _ - i; omega⟩
        · show Hp w _ [] [rowT (.slice (some ⟨g2, 0, none⟩) (insM N x (m + 1)).length c2) (insM N x (m + 1))]
          unfold rowT
          rw [insM_len hj]
          exact H
        · show (insM N x (m + 1)).Perm (ks.take (i + 1))
          rw [take_of hx]
          exact (ins_perm N x (m + 1)).trans (hp.append_right [x])
    · obtain rfl : j = 0 := by omega
      have hdone : InOrd (insM N x 0) := ins_done ho hd (fun z hz h => absurd h (by decide)) hj
      repeat' (first | (with_reducible first | refine p_tn ?_ | refine p_tx ?_ | refine p_bn ?_ | refine x_hit ?_ | refine w_reg ?_) | (with_reducible (refine is_if ?_; (refine w_iff rfl ?_))) | (with_reducible first | refine wp_exit ?_ | refine l_nil ?_) | ((with_reducible refine g_on ?_); (first | ((with_reducible refine g_mv ?_); refine l_p txs rfl rfl ?_) | ((with_reducible refine g_as ?_); refine l_p txs rfl rfl ?_) | ((with_reducible refine g_bi ?_); (refine l_a txs rfl rfl (by first | exact in_i64 (by omega) (by omega) | exact in_u8 (by omega) (by omega) | exact in_u64 (by omega) (by omega) | exact in_i32 (by omega) (by omega)) ?_)))))
      refine ⟨(i + 1, insM N x 0, some ⟨g2, 0, none⟩, c2), _, rfl, ⟨rfl, by show Value.slice (some ⟨g2, 0, none⟩) (N.length + 1) c2 = Value.slice (some ⟨g2, 0, none⟩) (insM N x 0).length c2; rw [insM_len hj], rfl, trivial⟩, ⟨?_, by show i + 1 ≤ _; omega, ?_, hdone⟩, by show _ - (i + 1) < _ - i; omega⟩
      · show Hp w _ [] [rowT (.slice (some ⟨g2, 0, none⟩) (insM N x 0).length c2) (insM N x 0)]
        unfold rowT
        rw [insM_len hj]
        exact H
      · show (insM N x 0).Perm (ks.take (i + 1))
        rw [take_of hx]
        exact (ins_perm N x 0).trans (hp.append_right [x])
  · rw [List.take_of_length_le (by omega)] at hp
    repeat' (first | (with_reducible first | refine p_tn ?_ | refine p_tx ?_ | refine x_hit ?_ | refine wp_seq ?_ | refine w_reg ?_) | (with_reducible (refine is_if ?_; (refine w_iff rfl ?_))) | (with_reducible first | refine wp_exit ?_ | refine wp_ret ?_ | refine l_nil ?_) | ((with_reducible refine g_on ?_); (first | ((with_reducible refine g_mv ?_); refine l_p txs rfl rfl ?_) | ((with_reducible refine g_as ?_); refine l_p txs rfl rfl ?_))))
    refine end2 rfl rfl rfl ?_
    exact sor_yes hs hp ho H
end Go.Proofs.YtnimaenhijlcmaaGreatDoor.K.Ref
end
section
namespace Go.Proofs.YtnimaenhijlcmaaGreatDoor.K.Rec.Law
open Go.RowKit Go.Proofs.YtnimaenhijlcmaaGreatDoor.Q Go.Proofs.YtnimaenhijlcmaaGreatDoor.K Go.Proofs.YtnimaenhijlcmaaGreatDoor.K.Rec Go.Proofs.YtnimaenhijlcmaaGreatDoor.Mb Go.Proofs.YtnimaenhijlcmaaGreatDoorW.PrintWords
set_option linter.unusedVariables false
set_option linter.unusedSimpArgs false
theorem rd_nil (w : World) : Rd w none (strC []) := ⟨fun _ => rfl, fun ad e => (by cases e)⟩
set_option maxRecDepth 100000 in
set_option maxHeartbeats 16000000 in
theorem plays10_c {w : World} (hL : LayR w) (t u : ByteArray) (A B : L) (lA : A.length = 32) (lB : B.length = 32) {S : Option Addr} {c : Nat} {ks : List L} (hR : Rd w S (strC ks)) (hB : ∀ x ∈ ks, Bytes x ∧ x.length ≤ 100000000) (hl : ks.length ≤ 2000000) :
    Calls Tryz.prog 19 #[.agg (opC 10 t u A B (.slice S ks.length c)).toArray] w fun e w' => e = .returned (.bool true) ∧ Below w.heap.size w w' := by
  refine enter (args := [.agg (opC 10 t u A B (.slice S ks.length c)).toArray]) Tryz.func19 rfl Tryz.ntmps19 rfl ?_
  have H := Hp.nil w
  repeat' (with_reducible first | refine wp_seq ?_ | refine w_reg ?_)
  (with_reducible refine is_l ?_); refine h_box H rfl rfl (nfL_eq _ _) (fun gX w_ H => ?_)
  have H : Hp w w_ [(gX, 27, opC 10 t u A B (.slice S ks.length c))] [] := H
  repeat' (first | (with_reducible first | refine p_tn ?_ | refine wp_seq ?_ | refine wp_block ?_ | refine w_reg ?_ | refine l_nil ?_) | ((with_reducible refine g_on ?_); (first | ((with_reducible refine g_as ?_); refine l_p txs rfl rfl ?_) | ((with_reducible refine g_fa ?_); refine h_fa flds rfl rfl ?_) | ((with_reducible refine g_ld ?_); (refine h_ld txs H 0 rfl rfl rfl rfl ?_)))))
  (with_reducible refine is_l ?_); refine l_t txs rfl rfl (fun h => absurd h (by decide)) (fun _ => ?_)
  repeat' (first | (with_reducible first | refine p_tn ?_ | refine wp_seq ?_ | refine w_reg ?_) | (with_reducible (refine is_if ?_; (refine w_iff rfl ?_))) | (with_reducible refine l_nil ?_) | ((with_reducible refine g_on ?_); ((with_reducible refine g_as ?_); refine l_p txs rfl rfl ?_)))
  (with_reducible refine is_l ?_); refine l_t txs rfl rfl (fun h => absurd h (by decide)) (fun _ => ?_)
  repeat' (first | (with_reducible first | refine p_tn ?_ | refine wp_seq ?_ | refine w_reg ?_) | (with_reducible (refine is_if ?_; (refine w_iff rfl ?_))) | (with_reducible refine l_nil ?_) | ((with_reducible refine g_on ?_); ((with_reducible refine g_as ?_); refine l_p txs rfl rfl ?_)))
  (with_reducible refine is_l ?_); refine l_t txs rfl rfl (fun h => absurd h (by decide)) (fun _ => ?_)
  repeat' (first | (with_reducible first | refine p_tn ?_ | refine wp_seq ?_ | refine w_reg ?_) | (with_reducible (refine is_if ?_; (refine w_iff rfl ?_))) | (with_reducible refine l_nil ?_) | ((with_reducible refine g_on ?_); ((with_reducible refine g_as ?_); refine l_p txs rfl rfl ?_)))
  (with_reducible refine is_l ?_); refine l_t txs rfl rfl (fun h => absurd h (by decide)) (fun _ => ?_)
  repeat' (first | (with_reducible first | refine p_tn ?_ | refine wp_seq ?_ | refine w_reg ?_) | (with_reducible (refine is_if ?_; (refine w_iff rfl ?_))) | (with_reducible refine l_nil ?_) | ((with_reducible refine g_on ?_); ((with_reducible refine g_as ?_); refine l_p txs rfl rfl ?_)))
  (with_reducible refine is_l ?_); refine l_t txs rfl rfl (fun h => absurd h (by decide)) (fun _ => ?_)
  repeat' (first | (with_reducible first | refine p_tn ?_ | refine w_reg ?_) | (with_reducible (refine is_if ?_; (refine w_iff rfl ?_))) | (with_reducible refine l_nil ?_) | ((with_reducible refine g_on ?_); ((with_reducible refine g_as ?_); refine l_p txs rfl rfl ?_)))
  (with_reducible refine is_l ?_); refine l_t txs rfl rfl (fun h => absurd h (by decide)) (fun _ => ?_)
  repeat' (first | (with_reducible first | refine p_tn ?_ | refine wp_seq ?_ | refine w_reg ?_) | (with_reducible (refine is_if ?_; (refine w_iff rfl ?_))) | (with_reducible refine l_nil ?_) | ((with_reducible refine g_on ?_); ((with_reducible refine g_as ?_); refine l_p txs rfl rfl ?_)))
  (with_reducible refine is_l ?_); refine l_t txs rfl rfl (fun h => absurd h (by decide)) (fun _ => ?_)
  repeat' (first | (with_reducible first | refine p_tn ?_ | refine wp_seq ?_ | refine w_reg ?_) | (with_reducible (refine is_if ?_; (refine w_iff rfl ?_))) | (with_reducible refine l_nil ?_) | ((with_reducible refine g_on ?_); ((with_reducible refine g_as ?_); refine l_p txs rfl rfl ?_)))
  (with_reducible refine is_l ?_); refine l_t txs rfl rfl (fun h => absurd h (by decide)) (fun _ => ?_)
  repeat' (first | (with_reducible first | refine p_tn ?_ | refine wp_seq ?_ | refine w_reg ?_) | (with_reducible (refine is_if ?_; (refine w_iff rfl ?_))) | (with_reducible refine l_nil ?_) | ((with_reducible refine g_on ?_); ((with_reducible refine g_as ?_); refine l_p txs rfl rfl ?_)))
  (with_reducible refine is_l ?_); refine l_t txs rfl rfl (fun h => absurd h (by decide)) (fun _ => ?_)
  repeat' (first | (with_reducible first | refine p_tn ?_ | refine wp_seq ?_ | refine w_reg ?_) | (with_reducible (refine is_if ?_; (refine w_iff rfl ?_))) | (with_reducible refine l_nil ?_) | ((with_reducible refine g_on ?_); ((with_reducible refine g_as ?_); refine l_p txs rfl rfl ?_)))
  (with_reducible refine is_l ?_); refine l_t txs rfl rfl (fun h => absurd h (by decide)) (fun _ => ?_)
  repeat' (first | (with_reducible first | refine p_tn ?_ | refine wp_seq ?_ | refine w_reg ?_) | (with_reducible (refine is_if ?_; (refine w_iff rfl ?_))) | (with_reducible refine l_nil ?_) | ((with_reducible refine g_on ?_); ((with_reducible refine g_as ?_); refine l_p txs rfl rfl ?_)))
  (with_reducible refine is_l ?_); refine l_t txs rfl rfl (fun h => absurd h (by decide)) (fun _ => ?_)
  repeat' (first | (with_reducible first | refine p_tn ?_ | refine w_reg ?_) | (with_reducible (refine is_if ?_; (refine w_iff rfl ?_))) | (with_reducible refine l_nil ?_) | ((with_reducible refine g_on ?_); ((with_reducible refine g_as ?_); refine l_p txs rfl rfl ?_)))
  (with_reducible refine is_l ?_); refine l_t txs rfl rfl (fun h => absurd h (by decide)) (fun _ => ?_)
  repeat' (first | (with_reducible first | refine p_tn ?_ | refine wp_seq ?_ | refine w_reg ?_) | (with_reducible (refine is_if ?_; (refine w_iff rfl ?_))) | (with_reducible refine l_nil ?_) | ((with_reducible refine g_on ?_); ((with_reducible refine g_as ?_); refine l_p txs rfl rfl ?_)))
  (with_reducible refine is_l ?_); refine l_t txs rfl rfl (fun h => absurd h (by decide)) (fun _ => ?_)
  repeat' (first | (with_reducible first | refine p_tn ?_ | refine wp_seq ?_ | refine w_reg ?_) | (with_reducible (refine is_if ?_; (refine w_iff rfl ?_))) | (with_reducible refine l_nil ?_) | ((with_reducible refine g_on ?_); ((with_reducible refine g_as ?_); refine l_p txs rfl rfl ?_)))
  (with_reducible refine is_l ?_); refine l_t txs rfl rfl (fun _ => ?_) (fun h => absurd rfl h)
  repeat' (first | (with_reducible first | refine p_tn ?_ | refine wp_seq ?_ | refine w_reg ?_) | (with_reducible (refine is_if ?_; (refine w_ift rfl ?_))) | (with_reducible refine l_nil ?_) | ((with_reducible refine g_on ?_); (first | ((with_reducible refine g_as ?_); refine l_p txs rfl rfl ?_) | ((with_reducible refine g_fa ?_); refine h_fa flds rfl rfl ?_))))
  (with_reducible refine is_l ?_); refine l_ld txs rfl rfl (H.cellAt 0 rfl (op_s lA lB)) ?_
  skip
  (with_reducible refine is_l ?_); refine l_call rfl rfl (by kernel_rfl) (Ref.Sort_r (hL.below H.B).tkl (hR.below H.B) hB hl) (fun e w_ hQ => ?_)
  obtain ⟨hno, hyes⟩ := hQ
  by_cases hs : sortE ks = 0
  · obtain ⟨A1, c1, N, rfl, hp, ho, K⟩ := hyes hs
    refine ⟨_, rfl, ?_⟩
    have H := H.join K
    repeat' (first | (with_reducible first | refine p_tn ?_ | refine wp_seq ?_ | refine w_reg ?_ | refine l_nil ?_) | ((with_reducible refine g_on ?_); (first | ((with_reducible refine g_mv ?_); refine l_p txs rfl rfl ?_) | ((with_reducible refine g_as ?_); refine l_p txs rfl rfl ?_) | ((with_reducible refine g_ex ?_); refine l_p txs rfl rfl ?_) | ((with_reducible refine g_fa ?_); refine h_fa flds rfl rfl ?_))))
    (with_reducible refine is_l ?_); refine l_ld txs rfl rfl (H.cellAt 0 rfl (op_s lA lB)) ?_
    skip
    (with_reducible refine is_l ?_); refine l_call rfl rfl (by kernel_rfl) (Sort_c (hL.below H.B).lay (hR.below H.B) hB hl) (fun e w_ hQ2 => ?_)
    obtain ⟨A2, c2, N2, rfl, hp2, ho2, K⟩ := hQ2.2 hs
    refine ⟨_, rfl, ?_⟩
    have H := H.join K
    have hk0 : ∀ x ∈ ks, keyE x = 0 := by
      unfold sortE at hs
      split at hs
      · cases hs
      · exact firstE_zero.1 hs
    obtain rfl : N = N2 := ord_one ho ho2 (hp.trans hp2.symm) (fun x hx => hk0 x (hp.subset hx))
    have hlN : N.length = ks.length := hp.length_eq
    repeat' (first | (with_reducible first | refine p_tn ?_ | refine wp_seq ?_ | refine w_reg ?_ | refine l_nil ?_) | ((with_reducible refine g_on ?_); (first | ((with_reducible refine g_mv ?_); refine l_p txs rfl rfl ?_) | ((with_reducible refine g_as ?_); refine l_p txs rfl rfl ?_) | ((with_reducible refine g_ex ?_); refine l_p txs rfl rfl ?_))))
    (with_reducible refine is_l ?_); refine l_callv rfl rfl (by kernel_rfl) (Ref.same_c (rowT_at H 0 rfl) (rowT_at H 1 rfl) (by omega)) (fun w_ K => ?_)
    have H := H.call K
    repeat' (first | ((with_reducible refine g_on ?_); ((with_reducible refine g_mv ?_); refine l_p txs rfl rfl ?_)) | ((with_reducible refine g_if ?_); ((with_reducible refine g_mv ?_); refine l_p txs rfl rfl ?_)))
    (with_reducible refine is_l ?_); refine l_t txs rfl rfl (fun _ => ?_) (fun h => absurd rfl h)
    repeat' (first | (with_reducible first | refine p_tn ?_ | refine p_tr ?_ | refine p_br ?_ | refine wp_ret ?_ | refine l_nil ?_) | ((with_reducible refine g_on ?_); (first | ((with_reducible refine g_as ?_); refine l_p txs rfl rfl ?_) | ((with_reducible refine g_pk ?_); refine l_p txs rfl rfl ?_))))
    refine end1 rfl rfl ?_
    exact ⟨rfl, H.B⟩
  · obtain ⟨rfl, K⟩ := hno hs
    refine ⟨_, rfl, ?_⟩
    have H := H.call K
    repeat' (first | (with_reducible first | refine p_tn ?_ | refine wp_seq ?_ | refine w_reg ?_ | refine l_nil ?_) | ((with_reducible refine g_on ?_); (first | ((with_reducible refine g_mv ?_); refine l_p txs rfl rfl ?_) | ((with_reducible refine g_as ?_); refine l_p txs rfl rfl ?_) | ((with_reducible refine g_ex ?_); refine l_p txs rfl rfl ?_) | ((with_reducible refine g_fa ?_); refine h_fa flds rfl rfl ?_))))
    (with_reducible refine is_l ?_); refine l_ld txs rfl rfl (H.cellAt 0 rfl (op_s lA lB)) ?_
    skip
    (with_reducible refine is_l ?_); refine l_call rfl rfl (by kernel_rfl) (Sort_c (hL.below H.B).lay (hR.below H.B) hB hl) (fun e w_ hQ2 => ?_)
    obtain ⟨rfl, K⟩ := hQ2.1 hs
    refine ⟨_, rfl, ?_⟩
    have H := H.call K
    generalize sortE ks = E
    repeat' (first | (with_reducible first | refine p_tn ?_ | refine wp_seq ?_ | refine w_reg ?_ | refine l_nil ?_) | ((with_reducible refine g_on ?_); (first | ((with_reducible refine g_mv ?_); refine l_p txs rfl rfl ?_) | ((with_reducible refine g_as ?_); refine l_p txs rfl rfl ?_) | ((with_reducible refine g_ex ?_); refine l_p txs rfl rfl ?_))))
    (with_reducible refine is_l ?_); refine l_callv rfl rfl (by kernel_rfl) (Ref.same_c (N := []) (rd_nil _) (rd_nil _) (by decide)) (fun w_ K => ?_)
    have H := H.call K
    repeat' (first | ((with_reducible refine g_on ?_); ((with_reducible refine g_mv ?_); refine l_p txs rfl rfl ?_)) | ((with_reducible refine g_if ?_); ((with_reducible refine g_mv ?_); refine l_p txs rfl rfl ?_)))
    (with_reducible refine is_l ?_); refine l_t txs rfl rfl (fun _ => ?_) (fun h => absurd rfl h)
    repeat' (first | (with_reducible first | refine p_tn ?_ | refine p_tr ?_ | refine p_br ?_ | refine wp_ret ?_ | refine l_nil ?_) | ((with_reducible refine g_on ?_); (first | ((with_reducible refine g_as ?_); refine l_p txs rfl rfl ?_) | ((with_reducible refine g_pk ?_); refine l_p txs rfl rfl ?_))))
    refine end1 rfl rfl ?_
    exact ⟨rfl, H.B⟩
theorem numbers_c (w : World) : Calls Tryz.prog 18 #[] w fun e w' => e = .returned (.bool true) ∧ w' = w := by
  refine enter (args := []) Tryz.func18 rfl Tryz.ntmps18 rfl ?_
  have H := Hp.nil w
  repeat' (first | (with_reducible first | refine p_tn ?_ | refine wp_seq ?_ | refine w_reg ?_) | (with_reducible (refine is_if ?_; (refine w_iff rfl ?_))) | (with_reducible first | refine wp_skip ?_ | refine wp_ret ?_ | refine l_nil ?_) | ((with_reducible refine g_on ?_); ((with_reducible refine g_as ?_); refine l_p txs rfl rfl ?_)))
  refine end1 rfl rfl ?_
  exact ⟨rfl, rfl⟩
end Go.Proofs.YtnimaenhijlcmaaGreatDoor.K.Rec.Law
end
section
namespace Go.Proofs.YtnimaenhijlcmaaGreatDoor.K.Rec.Law.All
open Go.RowKit Go.Proofs.YtnimaenhijlcmaaGreatDoor.Q Go.Proofs.YtnimaenhijlcmaaGreatDoor.K Go.Proofs.YtnimaenhijlcmaaGreatDoor.K.Rec Go.Proofs.YtnimaenhijlcmaaGreatDoor.K.Rec.Law Go.Proofs.YtnimaenhijlcmaaGreatDoor.Mb Go.Proofs.YtnimaenhijlcmaaGreatDoorW.PrintWords
set_option linter.unusedVariables false
set_option linter.unusedSimpArgs false
def tx : Nat → Option Ty
  | 48 => some (.slc 27 68)
  | t => K.tx t
theorem slcOkO : TyOk Tryz.prog 48 (.slc 27 68) := by
  have h : (Tryz.prog.info? 27).map (·.size) = some 68 := by kernel_rfl
  obtain ⟨i0, hi, hz⟩ := Option.map_eq_some_iff.1 h
  exact ⟨Tryz.underlying48, i0, hi, hz⟩
theorem txs : Tys Tryz.prog tx := by
  intro t k h
  unfold tx at h
  split at h
  · cases h; exact slcOkO
  · exact K.txs t k h
theorem recs_at {α : Type} {f : α → List Value} {m : Nat} : ∀ {l : List α} {i : Nat} {q : α}, (∀ x ∈ l, (f x).length = m) → l[i]? = some q → ∀ (j : Nat) (v : Value), (f q)[j]? = some v → (l.flatMap f)[i * m + j]? = some v
  | [], i, q, _, h, _, _, _ => by simp at h
  | x :: r, 0, q, hm, h, j, v, hj => by
    simp only [List.getElem?_cons_zero, Option.some.injEq] at h
    subst h
    rw [List.flatMap_cons, Nat.zero_mul, Nat.zero_add, List.getElem?_append_left (List.getElem?_eq_some_iff.1 hj).1, hj]
  | x :: r, i + 1, q, hm, h, j, v, hj => by
    have ih := recs_at (l := r) (i := i) (fun y hy => hm y (List.mem_cons_of_mem _ hy)) (by simpa using h) j v hj
    have hx := hm x (List.mem_cons_self ..)
    rw [List.flatMap_cons, List.getElem?_append_right (by rw [hx, Nat.succ_mul]; omega), hx, show (i + 1) * m + j - m = i * m + j by rw [Nat.succ_mul]; omega]
    exact ih
theorem recs_len {α : Type} {f : α → List Value} {m : Nat} : ∀ {l : List α}, (∀ x ∈ l, (f x).length = m) → (l.flatMap f).length = l.length * m
  | [], _ => by simp
  | x :: r, hm => by
    rw [List.flatMap_cons, List.length_append, recs_len (l := r) (fun y hy => hm y (List.mem_cons_of_mem _ hy)), hm x (List.mem_cons_self ..), List.length_cons, Nat.succ_mul]
    omega
theorem ad_add (a : Addr) (i j : Nat) : (a.add i).add j = a.add (i + j) := by
  unfold Addr.add
  by_cases hi : i = 0 <;> by_cases hj : j = 0 <;> simp [hi, hj, Nat.add_assoc]
structure OpD where
  k : Int
  t : L
  u : L
  A : L
  B : L
  S : Option Addr
  ls : List L
  c : Nat
def OpD.cells (q : OpD) : List Value := opC q.k (strOfNums q.t) (strOfNums q.u) q.A q.B (.slice q.S q.ls.length q.c)
structure OpOk (w : World) (q : OpD) : Prop where
  ht : Bytes q.t ∧ q.t.length ≤ 1048576
  hu : Bytes q.u ∧ q.u.length ≤ 1048576
  hA : Bytes q.A ∧ q.A.length = 32
  hB : Bytes q.B ∧ q.B.length = 32
  hS : Rd w q.S (strC q.ls)
  hn : q.ls.length ≤ 1048576
  hl : ∀ x ∈ q.ls, Bytes x ∧ x.length ≤ 1048576
theorem OpOk.len {w : World} {q : OpD} (h : OpOk w q) : q.cells.length = 68 := op_len (k := q.k) (t := strOfNums q.t) (u := strOfNums q.u) (s := .slice q.S q.ls.length q.c) h.hA.2 h.hB.2
theorem play_c {w w1 : World} (hL : LayR w1) {q : OpD} (hq : OpOk w q) (K : Below w.heap.size w w1) :
    Calls Tryz.prog 19 #[.agg q.cells.toArray] w1 fun e w' => e = .returned (.bool true) ∧ Below w1.heap.size w1 w' := by
  by_cases hk : q.k = 10
  · have := plays10_c hL (strOfNums q.t) (strOfNums q.u) q.A q.B hq.hA.2 hq.hB.2 (c := q.c) (hq.hS.below K) (fun x hx => ⟨(hq.hl x hx).1, by have := (hq.hl x hx).2; omega⟩) (by have := hq.hn; omega)
    rw [← hk] at this
    exact this
  · exact plays_c hL q.k hk (strOfNums q.t) (strOfNums q.u) (by rw [sizeS' hq.ht.1]; have := hq.ht.2; omega) q.A q.B hq.hA.1 hq.hA.2 hq.hB.1 hq.hB.2 (.slice q.S q.ls.length q.c)
set_option maxRecDepth 100000 in
set_option maxHeartbeats 8000000 in
theorem all_c {w : World} (hL : LayR w) {A : Option Addr} {c : Nat} {l : List OpD} (hR : Rd w A (l.flatMap OpD.cells)) (hok : ∀ q ∈ l, OpOk w q) (hl : l.length ≤ 1048576) :
    Calls Tryz.prog 6 #[.slice A l.length c] w fun e w' => e = .returned (.bool true) ∧ Below w.heap.size w w' := by
  refine enter (args := [.slice A l.length c]) Tryz.func6 rfl Tryz.ntmps6 rfl ?_
  have H := Hp.nil w
  repeat' (first | (with_reducible first | refine p_tn ?_ | refine wp_seq ?_ | refine w_reg ?_ | refine l_nil ?_) | ((with_reducible refine g_on ?_); ((with_reducible refine g_as ?_); refine l_p txs rfl rfl ?_)))
  (with_reducible refine is_l ?_); refine l_callp rfl rfl (by kernel_rfl) (numbers_c _) ?_
  repeat' ((with_reducible refine g_on ?_); (first | ((with_reducible refine g_mv ?_); refine l_p txs rfl rfl ?_) | ((with_reducible refine g_un ?_); (refine l_p txs rfl rfl ?_))))
  (with_reducible refine is_l ?_); refine l_callv rfl rfl (by kernel_rfl) (known_c (hL.below H.B).lay) (fun w_ K => ?_)
  have H := H.call K
  repeat' (first | (with_reducible first | refine p_tn ?_ | refine wp_seq ?_ | refine wp_block ?_ | refine w_reg ?_) | (with_reducible (refine is_if ?_; (refine w_iff rfl ?_))) | (with_reducible first | refine wp_skip ?_ | refine l_nil ?_) | ((with_reducible refine g_on ?_); (first | ((with_reducible refine g_as ?_); refine l_p txs rfl rfl ?_) | ((with_reducible refine g_pk ?_); refine l_p txs rfl rfl ?_))) | ((with_reducible refine g_if ?_); ((with_reducible refine g_un ?_); (refine l_p txs rfl rfl ?_))))
  refine w_loop (σ := Nat) (S := fun s => [(0, .slice A l.length c), (3, .int .i64 (s : Int))]) (J := fun s w' => Hp w w' [] [] ∧ s ≤ l.length) (μ := fun s => l.length - s) 0 ⟨rfl, rfl, trivial⟩ ⟨H, Nat.zero_le _⟩ ?_
  clear H
  rintro i f w_ ⟨H, hi⟩
  repeat' (first | (with_reducible first | refine wp_seq ?_ | refine w_reg ?_) | ((with_reducible refine g_on ?_); (first | ((with_reducible refine g_mv ?_); refine l_p txs rfl rfl ?_) | ((with_reducible refine g_cl ?_); refine l_p txs rfl rfl ?_))))
  (with_reducible refine is_l ?_); refine l_t txs rfl rfl (fun hlt => ?_) (fun hge => ?_)
  · obtain ⟨q, hq⟩ : ∃ q, l[i]? = some q := ⟨_, List.getElem?_eq_getElem (by omega)⟩
    have hm : ∀ x ∈ l, (OpD.cells x).length = 68 := fun x hx => (hok x hx).len
    have hqo := hok q (List.mem_of_getElem? hq)
    obtain ⟨la, rfl⟩ : ∃ la, A = some la := by
      cases A with
      | none =>
        have h1 := hR.1 rfl
        have h2 := recs_at hm hq 0 _ rfl
        rw [h1] at h2
        simp at h2
      | some la => exact ⟨la, rfl⟩
    have q1 : ∀ w1, Below w.heap.size w w1 → ∀ (j : Nat) (v : Value), q.cells[j]? = some v → w1.cell? ((la.add (i * 68)).add j) = some v := fun w1 K j v hj => by
      rw [ad_add]
      exact pw_cell_below K (hR.2 la rfl _ _ (recs_at hm hq j v hj))
    repeat' (first | (with_reducible first | refine p_tn ?_ | refine wp_seq ?_ | refine wp_block ?_ | refine w_reg ?_) | (with_reducible (refine is_if ?_; (refine w_ift rfl ?_))) | (with_reducible first | refine wp_skip ?_ | refine l_nil ?_) | ((with_reducible refine g_on ?_); (first | ((with_reducible refine g_mv ?_); refine l_p txs rfl rfl ?_) | ((with_reducible refine g_ia ?_); refine l_ia txs rfl rfl (by first | omega | assumption | decide) (by first | omega | assumption | decide) ?_))))
    rw [Int.toNat_natCast]
    (with_reducible refine is_l ?_); refine h_ldA recs (q1 _ H.B) rfl rfl rfl hqo.len ?_
    skip
    (with_reducible refine is_l ?_); refine l_callv rfl rfl (by kernel_rfl) (play_c (hL.below H.B) hqo H.B) (fun w_ K => ?_)
    have H := H.call K
    repeat' (first | (with_reducible first | refine p_tn ?_ | refine p_bn ?_ | refine wp_seq ?_ | refine w_reg ?_) | (with_reducible (refine is_if ?_; (refine w_iff rfl ?_))) | (with_reducible first | refine wp_skip ?_ | refine l_nil ?_) | ((with_reducible refine g_on ?_); (first | ((with_reducible refine g_mv ?_); refine l_p txs rfl rfl ?_) | ((with_reducible refine g_as ?_); refine l_p txs rfl rfl ?_) | ((with_reducible refine g_un ?_); (refine l_p txs rfl rfl ?_)) | ((with_reducible refine g_bi ?_); (refine l_a txs rfl rfl (by first | exact in_i64 (by omega) (by omega) | exact in_u8 (by omega) (by omega) | exact in_u64 (by omega) (by omega) | exact in_i32 (by omega) (by omega)) ?_)))))
    exact ⟨i + 1, _, rfl, ⟨rfl, rfl, trivial⟩, ⟨H, by omega⟩, by omega⟩
  · repeat' (first | (with_reducible first | refine p_tn ?_ | refine p_tx ?_ | refine x_hit ?_ | refine wp_seq ?_ | refine w_reg ?_) | (with_reducible (refine is_if ?_; (refine w_iff rfl ?_))) | (with_reducible first | refine wp_exit ?_ | refine wp_ret ?_ | refine l_nil ?_) | ((with_reducible refine g_on ?_); ((with_reducible refine g_as ?_); refine l_p txs rfl rfl ?_)))
    refine end1 rfl rfl ?_
    exact ⟨rfl, H.B⟩
end Go.Proofs.YtnimaenhijlcmaaGreatDoor.K.Rec.Law.All
end
section
namespace Go.Proofs.YtnimaenhijlcmaaGreatDoor.Op
open Go.ChangeShapes Go.WideShapes Go.ChangeAt Go.RowKit
open Go.Proofs.YtnimaenhijlcmaaGreatDoor.K Go.Proofs.YtnimaenhijlcmaaGreatDoor.Q Go.Proofs.YtnimaenhijlcmaaGreatDoor.Mb Go.Proofs.YtnimaenhijlcmaaGreatDoor.LaidZ Go.Proofs.YtnimaenhijlcmaaGreatDoorW.PrintWords
set_option linter.unusedVariables false
set_option linter.unusedSimpArgs false
theorem part_le {H : Type} {d : DataW H} {l : List (DataW H)} (h : d ∈ l) : Rows.uptoBulk d ≤ Rows.uptoBulkAll l := by
  induction l with
  | nil => cases h
  | cons x r ih =>
    simp only [Rows.uptoBulkAll]
    cases List.mem_cons.1 h with
    | inl e => subst e; omega
    | inr e => have := ih e; omega
theorem strs_le {H : Type} : ∀ l : List ByteArray, l.length ≤ Rows.uptoBulkAll (strs (H := H) l) ∧ ∀ x ∈ l, x.size ≤ Rows.uptoBulkAll (strs (H := H) l)
  | [] => by simp [strs, Rows.uptoBulkAll]
  | s :: l => by
    obtain ⟨h1, h2⟩ := strs_le (H := H) l
    have e : Rows.uptoBulkAll (strs (H := H) (s :: l)) = (s.data.toList.length + 1) + Rows.uptoBulkAll (strs (H := H) l) := by simp only [strs, List.map_cons, Rows.uptoBulkAll, Rows.uptoBulk]
    rw [e, data_length]
    refine ⟨by simp only [List.length_cons]; omega, fun x hx => ?_⟩
    rcases List.mem_cons.1 hx with rfl | hx
    · omega
    · have := h2 x hx; omega
section
variable {H : Type} {enc : TypeId × Value → H} {W : World} {fuel : Nat} {cs : List Value} {x : DataW H × List MemPlace}
set_option maxRecDepth 100000 in
theorem strs_in (hf : DataW.trod enc Tryz.prog W 0 (fun _ => true) true fuel 25 cs = some x) :
    ∃ (A : Option Addr) (c : Nat) (l : List L), cs = [.slice A l.length c] ∧ l.length ≤ c ∧ Rd W A (strC l) ∧ l.length ≤ Rows.uptoBulk x.1 ∧ ∀ y ∈ l, Bytes y ∧ y.length ≤ Rows.uptoBulk x.1 := by
  rcases open_strings Tryz.underlying25 Tryz.underlying9 (by kernel_rfl) hf with ⟨rfl, hx⟩ | ⟨a, len, cap, ss, rfl, _, hl, hm, hz, rfl, hcell, hsz⟩
  · exact ⟨none, 0, [], rfl, Nat.le_refl _, ⟨fun _ => rfl, fun ad e => (by cases e)⟩, by simp, by simp⟩
  · simp only [if_true] at hz
    have hlen : ((ss.take len).map bl).length = len := by rw [List.length_map, List.length_take]; omega
    obtain ⟨h1, h2⟩ := strs_le (H := H) (ss.take len)
    have hb : Rows.uptoBulk (.slice (strs (H := H) (ss.take len)) (strs (ss.drop len))) = Rows.uptoBulkAll (strs (H := H) (ss.take len)) + Rows.uptoBulkAll (strs (H := H) (ss.drop len)) + 1 := by simp only [Rows.uptoBulk]
    refine ⟨some a, cap, (ss.take len).map bl, by rw [hlen], by rw [hlen]; omega, ⟨fun e => (by cases e), fun ad e i v hv => ?_⟩, ?_, fun y hy => ?_⟩
    · injection e with e
      subst e
      have hi : i < len := by
        have := (List.getElem?_eq_some_iff.1 hv).1
        simp only [strC, List.length_map, List.length_take] at this
        omega
      rw [hcell i (by omega)]
      simp only [strC, List.getElem?_map, List.getElem?_take_of_lt hi, Option.map_map, Option.map_eq_some_iff] at hv
      obtain ⟨s, hs, rfl⟩ := hv
      rw [List.getD_eq_getElem?_getD, hs]
      simp [strS]
    · rw [hb, List.length_map]; omega
    · obtain ⟨s, hs, rfl⟩ := List.mem_map.1 hy
      refine ⟨bl_bytes s, ?_⟩
      have := h2 s hs
      rw [bl_length, hb]
      omega
theorem str_in {t : TypeId} (ht : Tryz.prog.underlying t = some .string) (hf : DataW.trod enc Tryz.prog W 0 (fun _ => true) true fuel t cs = some x) : ∃ l : L, cs = [.string (strOfNums l)] ∧ Bytes l ∧ l.length ≤ Rows.uptoBulk x.1 := by
  obtain ⟨s, rfl, rfl, _⟩ := DataW.trod_string ht hf
  refine ⟨bl s, by rw [strS], bl_bytes s, ?_⟩
  have e : Rows.uptoBulk (DataW.lit (.string s.data.toList) : DataW H) = s.data.toList.length + 1 := by simp only [Rows.uptoBulk]
  simp only [e, data_length, bl_length]
  omega
theorem i64_range {n : Int} (h : (Lit.int .i64 n).wf = true) : -9223372036854775808 ≤ n ∧ n ≤ 9223372036854775807 := by
  simp only [Lit.wf, Bool.and_eq_true, decide_eq_true_eq] at h
  have e1 : IntKind.min .i64 = -9223372036854775808 := by decide +kernel
  have e2 : IntKind.max .i64 = 9223372036854775807 := by decide +kernel
  rw [e1, e2] at h
  exact h
theorem int_in {t : TypeId} (ht : Tryz.prog.underlying t = some (.int .i64)) (hf : DataW.trod enc Tryz.prog W 0 (fun _ => true) true fuel t cs = some x) : ∃ n : Int, cs = [.int .i64 n] ∧ -9223372036854775808 ≤ n ∧ n ≤ 9223372036854775807 := by
  obtain ⟨n, rfl, rfl, hw⟩ := DataW.trod_int ht hf
  exact ⟨n, rfl, (i64_range hw).1, (i64_range hw).2⟩
end
end Go.Proofs.YtnimaenhijlcmaaGreatDoor.Op
end
section
namespace Go.Proofs.YtnimaenhijlcmaaGreatDoor.LaidM
open Go.ChangeShapes Go.WideShapes Go.ChangeAt Go.RowKit
open Go.Proofs.YtnimaenhijlcmaaGreatDoor.K Go.Proofs.YtnimaenhijlcmaaGreatDoor.Mb Go.Proofs.YtnimaenhijlcmaaGreatDoor.Q Go.Proofs.YtnimaenhijlcmaaGreatDoorW.PrintWords
set_option linter.unusedVariables false
set_option linter.unusedSimpArgs false
def zOf : Value → Int | .int _ z => z | _ => 0
section
variable {H : Type} {enc : TypeId × Value → H} {P : Program} {W : World} {spare : Nat → Bool} {held : Bool}
theorem ints_in {k : IntKind} {t e : TypeId} {n fuel : Nat} {cs : List Value} {x : DataW H × List MemPlace} (ht : P.underlying t = some (.array n e)) (he : P.underlying e = some (.int k)) (ke : P.cellsOf e = 1) (kt : P.cellsOf t = n)
    (h : DataW.trod enc P W 0 spare held fuel t cs = some x) : ∃ zs : List Int, cs = zs.map (Value.int k) ∧ zs.length = n ∧ ∀ z ∈ zs, (Lit.int k z).wf = true := by
  obtain ⟨xs, m, _, _, hl, hxl, hall⟩ := DataW.trod_array ht h
  have hc : ∀ i, i < n → ∃ z, cs[i]? = some (.int k z) ∧ (Lit.int k z).wf = true := by
    intro i hi
    have ha := hall i hi
    rw [List.getElem?_eq_getElem (by omega), ke, Nat.mul_one] at ha
    obtain ⟨z, hz, _, wz⟩ := DataW.trod_int he ha
    refine ⟨z, ?_, wz⟩
    have h1 := congrArg (fun l => l[0]?) hz
    rw [List.getElem?_take_of_lt (by omega), List.getElem?_drop] at h1
    simpa using h1
  refine ⟨cs.map zOf, List.ext_getElem? fun i => ?_, by rw [List.length_map, hl, kt], fun z hz => ?_⟩
  · by_cases hi : i < n
    · obtain ⟨z, h1, _⟩ := hc i hi
      rw [List.getElem?_map, List.getElem?_map, h1]
      rfl
    · rw [List.getElem?_eq_none (by omega), List.getElem?_eq_none (by rw [List.length_map, List.length_map]; omega)]
  · obtain ⟨v, hv, rfl⟩ := List.mem_map.1 hz
    obtain ⟨i, hi, rfl⟩ := List.getElem_of_mem hv
    obtain ⟨z, h1, h2⟩ := hc i (by omega)
    rw [List.getElem?_eq_getElem hi, Option.some.injEq] at h1
    rw [h1]
    exact h2
end
end Go.Proofs.YtnimaenhijlcmaaGreatDoor.LaidM
end
section
namespace Go.Proofs.YtnimaenhijlcmaaGreatDoor.Op
open Go.ChangeShapes Go.WideShapes Go.ChangeAt Go.RowKit
open Go.Proofs.YtnimaenhijlcmaaGreatDoor.K Go.Proofs.YtnimaenhijlcmaaGreatDoor.Q Go.Proofs.YtnimaenhijlcmaaGreatDoor.Mb Go.Proofs.YtnimaenhijlcmaaGreatDoor.LaidZ Go.Proofs.YtnimaenhijlcmaaGreatDoorW.PrintWords
open Go.Proofs.YtnimaenhijlcmaaGreatDoor.K.Rec.Law (opC)
open Go.Proofs.YtnimaenhijlcmaaGreatDoor.K.Rec.Law.All (OpD OpOk recs_at recs_len ad_add)
set_option linter.unusedVariables false
set_option linter.unusedSimpArgs false
theorem bulk_pos {H : Type} (d : DataW H) : 1 ≤ Rows.uptoBulk d := by
  cases d with
  | lit l => cases l <;> simp [Rows.uptoBulk]
  | _ => simp [Rows.uptoBulk]
theorem len_bulk {H : Type} : ∀ l : List (DataW H), l.length ≤ Rows.uptoBulkAll l
  | [] => by simp [Rows.uptoBulkAll]
  | d :: r => by
    have h1 := bulk_pos d
    have h2 := len_bulk r
    simp only [Rows.uptoBulkAll, List.length_cons]
    omega
section
variable {H : Type} {enc : TypeId × Value → H} {W : World} {fuel : Nat} {cs : List Value} {x : DataW H × List MemPlace}
theorem agg_le {xs : List (DataW H × List MemPlace)} {y : DataW H × List MemPlace} (h : y ∈ xs) : Rows.uptoBulk y.1 ≤ Rows.uptoBulk (.agg (xs.map (·.1))) := by
  have := part_le (H := H) (List.mem_map_of_mem (f := (·.1)) h)
  have e : Rows.uptoBulk (.agg (xs.map (·.1))) = Rows.uptoBulkAll (xs.map (·.1)) + 1 := by simp only [Rows.uptoBulk]
  omega
set_option maxRecDepth 100000 in
theorem list_in {α : Type} {t e : TypeId} {m : Nat} (f : α → List Value) (ok : α → Prop) (dflt : α) (ht : Tryz.prog.underlying t = some (.slice e)) (em : Tryz.prog.cellsOf e = m) (hm0 : 0 < m) (hlen : ∀ q, ok q → (f q).length = m)
    (each : ∀ {fuel : Nat} {cs : List Value} {x : DataW H × List MemPlace}, DataW.trod enc Tryz.prog W 0 (fun _ => true) true fuel e cs = some x → Rows.uptoBulk x.1 ≤ 1048576 → ∃ q, cs = f q ∧ ok q)
    (hf : DataW.trod enc Tryz.prog W 0 (fun _ => true) true fuel t cs = some x) (hk : Rows.uptoBulk x.1 ≤ 1048576) :
    ∃ (A : Option Addr) (c : Nat) (l : List α), cs = [.slice A l.length c] ∧ Rd W A (l.flatMap f) ∧ (∀ q ∈ l, ok q) ∧ l.length ≤ 1048576 := by
  rcases DataW.trod_slice ht hf with ⟨rfl, _⟩ | ⟨a, len, cap, elems, rest, n, _, rfl, rfl, _, hl, hm, hle, hel, _, _⟩
  · exact ⟨none, 0, [], rfl, ⟨fun _ => rfl, fun ad e => (by cases e)⟩, (fun _ h => by cases h), by simp⟩
  · have hb : Rows.uptoBulk (DataW.slice (elems.map (·.1)) (rest.map (·.1))) = Rows.uptoBulkAll (elems.map (·.1)) + Rows.uptoBulkAll (rest.map (·.1)) + 1 := by simp only [Rows.uptoBulk]
    simp only at hk
    rw [hb] at hk
    have each2 : ∀ i : Nat, ∃ q : α, i < len → ok q ∧ ∀ (j : Nat) (v : Value), (f q)[j]? = some v → W.cell? ((a.add (i * m)).add j) = some v := fun i => by
      by_cases hi : i < len
      · have h1 := hel i hi
        rw [em, List.getElem?_eq_getElem (by omega), Option.bind_eq_some_iff] at h1
        obtain ⟨cs', hcs, hy⟩ := h1
        have hmem : (elems[i]).1 ∈ elems.map (·.1) := List.mem_map_of_mem (List.getElem_mem _)
        obtain ⟨q, rfl, hq⟩ := each hy (by have := part_le hmem; omega)
        refine ⟨q, fun _ => ⟨hq, fun j v hj => ?_⟩⟩
        have h2 := (World.cells?_some hcs).2.2 j (by have := (List.getElem?_eq_some_iff.1 hj).1; rw [hlen q hq] at this; exact this)
        rw [h2]
        exact hj
      · exact ⟨dflt, fun h => absurd h hi⟩
    obtain ⟨g, hfq⟩ := Classical.axiomOfChoice each2
    have hlist : ∀ i, i < len → ((List.range len).map g)[i]? = some (g i) := fun i hi => by rw [List.getElem?_map, List.getElem?_range hi]; rfl
    have hll : ((List.range len).map g).length = len := by simp
    have hall : ∀ q ∈ (List.range len).map g, ok q := fun q hq => by
      obtain ⟨i, hi, rfl⟩ := List.mem_map.1 hq
      exact (hfq i (List.mem_range.1 hi)).1
    have hms : ∀ q ∈ (List.range len).map g, (f q).length = m := fun q hq => hlen q (hall q hq)
    refine ⟨some a, cap, (List.range len).map g, by rw [hll], ⟨fun e => (by cases e), fun ad e k v hv => ?_⟩, hall, ?_⟩
    · injection e with e
      subst e
      have hkl : k < len * m := by
        have h1 := (List.getElem?_eq_some_iff.1 hv).1
        rw [recs_len hms, hll] at h1
        exact h1
      have hdm : k / m * m + k % m = k := by rw [Nat.mul_comm]; exact Nat.div_add_mod k m
      have hq : k / m < len := (Nat.div_lt_iff_lt_mul hm0).2 hkl
      have hr : k % m < m := Nat.mod_lt _ hm0
      have h1 := recs_at hms (hlist (k / m) hq) (k % m)
      have hfl := hlen _ (hfq (k / m) hq).1
      obtain ⟨v', hv'⟩ : ∃ v', (f (g (k / m)))[k % m]? = some v' := ⟨_, List.getElem?_eq_getElem (by rw [hfl]; exact hr)⟩
      have h2 := h1 _ hv'
      rw [hdm, hv] at h2
      injection h2 with h2
      subst h2
      have h3 := (hfq (k / m) hq).2 _ _ hv'
      rw [ad_add, hdm] at h3
      exact h3
    · rw [hll, ← hle]
      have := len_bulk (elems.map (·.1))
      rw [List.length_map] at this
      omega
set_option maxRecDepth 100000 in
theorem op_in (hf : DataW.trod enc Tryz.prog W 0 (fun _ => true) true fuel 27 cs = some x) (hk : Rows.uptoBulk x.1 ≤ 1048576) : ∃ q : OpD, cs = q.cells ∧ OpOk W q := by
  obtain ⟨xs, n, _, rfl, hl, hxl, hall⟩ := DataW.trod_struct Tryz.underlying27 hf
  have e68 : Tryz.prog.cellsOf 27 = 68 := by kernel_rfl
  rw [e68] at hl
  have hxl : xs.length = 6 := hxl
  have h0 : DataW.trod enc Tryz.prog W 0 (fun _ => true) true n 3 ((cs.drop 0).take (Tryz.prog.cellsOf 3)) = xs[0]? := hall 0 _ rfl
  rw [show Tryz.prog.cellsOf 3 = 1 by kernel_rfl, List.getElem?_eq_getElem (by omega)] at h0
  have m0 := agg_le (List.getElem_mem (l := xs) (n := 0) (by omega))
  have h1 : DataW.trod enc Tryz.prog W 0 (fun _ => true) true n 9 ((cs.drop 1).take (Tryz.prog.cellsOf 9)) = xs[1]? := hall 1 _ rfl
  rw [show Tryz.prog.cellsOf 9 = 1 by kernel_rfl, List.getElem?_eq_getElem (by omega)] at h1
  have m1 := agg_le (List.getElem_mem (l := xs) (n := 1) (by omega))
  have h2 : DataW.trod enc Tryz.prog W 0 (fun _ => true) true n 9 ((cs.drop 2).take (Tryz.prog.cellsOf 9)) = xs[2]? := hall 2 _ rfl
  rw [show Tryz.prog.cellsOf 9 = 1 by kernel_rfl, List.getElem?_eq_getElem (by omega)] at h2
  have m2 := agg_le (List.getElem_mem (l := xs) (n := 2) (by omega))
  have h3 : DataW.trod enc Tryz.prog W 0 (fun _ => true) true n 22 ((cs.drop 3).take (Tryz.prog.cellsOf 22)) = xs[3]? := hall 3 _ rfl
  rw [show Tryz.prog.cellsOf 22 = 32 by kernel_rfl, List.getElem?_eq_getElem (by omega)] at h3
  have m3 := agg_le (List.getElem_mem (l := xs) (n := 3) (by omega))
  have h4 : DataW.trod enc Tryz.prog W 0 (fun _ => true) true n 22 ((cs.drop 35).take (Tryz.prog.cellsOf 22)) = xs[4]? := hall 4 _ rfl
  rw [show Tryz.prog.cellsOf 22 = 32 by kernel_rfl, List.getElem?_eq_getElem (by omega)] at h4
  have m4 := agg_le (List.getElem_mem (l := xs) (n := 4) (by omega))
  have h5 : DataW.trod enc Tryz.prog W 0 (fun _ => true) true n 25 ((cs.drop 67).take (Tryz.prog.cellsOf 25)) = xs[5]? := hall 5 _ rfl
  rw [show Tryz.prog.cellsOf 25 = 1 by kernel_rfl, List.getElem?_eq_getElem (by omega)] at h5
  have m5 := agg_le (List.getElem_mem (l := xs) (n := 5) (by omega))
  have k3 : Tryz.prog.cellsOf 5 = 1 := by kernel_rfl
  have k32 : Tryz.prog.cellsOf 22 = 32 := by kernel_rfl
  obtain ⟨k, e0, _⟩ := int_in Tryz.underlying3 h0
  obtain ⟨t, e1, bt, nt⟩ := str_in Tryz.underlying9 h1
  obtain ⟨u, e2, bu, nu⟩ := str_in Tryz.underlying9 h2
  obtain ⟨A, e3, lA, wA⟩ := LaidM.ints_in Tryz.underlying22 Tryz.underlying5 k3 k32 h3
  obtain ⟨B, e4, lB, wB⟩ := LaidM.ints_in Tryz.underlying22 Tryz.underlying5 k3 k32 h4
  obtain ⟨S, c, ls, e5, _, rd, nl, bl_⟩ := strs_in h5
  simp only at hk
  refine ⟨⟨k, t, u, A, B, S, ls, c⟩, ?_, ⟨⟨bt, by show t.length ≤ _; omega⟩, ⟨bu, by show u.length ≤ _; omega⟩, ⟨fun z hz => bounds_u8 (wA z hz), lA⟩, ⟨fun z hz => bounds_u8 (wB z hz), lB⟩, rd, by show ls.length ≤ _; omega, fun y hy => ⟨(bl_ y hy).1, by have := (bl_ y hy).2; omega⟩⟩⟩
  have s0 := List.take_append_drop 1 (cs.drop 0)
  have s1 := List.take_append_drop 1 (cs.drop 1)
  have s2 := List.take_append_drop 1 (cs.drop 2)
  have s3 := List.take_append_drop 32 (cs.drop 3)
  have s4 := List.take_append_drop 32 (cs.drop 35)
  have s5 : (cs.drop 67).take 1 = cs.drop 67 := List.take_of_length_le (by rw [List.length_drop]; omega)
  rw [List.drop_drop, e0] at s0
  rw [List.drop_drop, e1] at s1
  rw [List.drop_drop, e2] at s2
  rw [List.drop_drop, e3] at s3
  rw [List.drop_drop, e4] at s4
  rw [e5] at s5
  show cs = opC k (strOfNums t) (strOfNums u) A B (.slice S ls.length c)
  unfold opC nums
  have z0 : cs = [Value.int .i64 k] ++ cs.drop 1 := by simpa using s0.symm
  rw [z0, ← s1, ← s2, ← s3, ← s4, ← s5]
  rfl
theorem OpD_len {W : World} (q : OpD) (h : OpOk W q) : q.cells.length = 68 := h.len
set_option maxRecDepth 100000 in
theorem open_ops {base : Nat} {v : Value} {d : DataW H} {ps : List MemPlace} (hval : Value.okWide Tryz.prog W .any base 48 v) (h : DataW.Trod enc Tryz.prog W 0 (fun _ => true) true 48 v d ps) (hk : Rows.uptoBulk d ≤ 1048576) :
    ∃ (A : Option Addr) (c : Nat) (l : List OpD), v = .slice A l.length c ∧ Rd W A (l.flatMap OpD.cells) ∧ (∀ q ∈ l, OpOk W q) ∧ l.length ≤ 1048576 := by
  obtain ⟨a, len, cap, rfl⟩ := okWide_slice Tryz.underlying48 hval
  obtain ⟨fuel, hf⟩ := h
  obtain ⟨A, c, l, h1, h2⟩ := list_in OpD.cells (OpOk W) ⟨0, [], [], [], [], none, [], 0⟩ Tryz.underlying48 (show Tryz.prog.cellsOf 27 = 68 by kernel_rfl) (by decide) OpD_len op_in hf hk
  refine ⟨A, c, l, ?_, h2⟩
  have h3 : (Value.slice a len cap).cells.toList = [Value.slice a len cap] := rfl
  rw [h3] at h1
  exact (List.cons.inj h1).1
end
end Go.Proofs.YtnimaenhijlcmaaGreatDoor.Op
end
