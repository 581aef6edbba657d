/- Joined texts of mine, 5: Gl, OpenT, OpenO, OpenK. -/
import Derived.OpenShut
import Derived.ShutString
import Derived.SliceStrings
import Derived.ChangeSlices
import Derived.Below
import Derived.Carry
import Derived.WalkKit
import Derived.ProofKit
import Derived.Deep.DeepHandedRow
import Derived.Test.YtnimaenhijlcmaaGreatDoorPk4
section
namespace Go.Proofs.YtnimaenhijlcmaaGreatDoor.K.Kp
open Go.RowKit Go.Proofs.YtnimaenhijlcmaaGreatDoor.Q Go.Proofs.YtnimaenhijlcmaaGreatDoor.K Go.Proofs.YtnimaenhijlcmaaGreatDoor.Mb Go.Proofs.YtnimaenhijlcmaaGreatDoorW.PrintWords
open Go.Proofs.YtnimaenhijlcmaaGreatDoor.K.Rec.Law (LayR rd_nil)
open Go.Proofs.YtnimaenhijlcmaaGreatDoor.K.Rec.Law.All (recs_at recs_len ad_add)
open Go.Proofs.YtnimaenhijlcmaaGreatDoor.K.Ref (l_cvi row_at row_addr at_row TakL row_some)
set_option linter.unusedVariables false
set_option linter.unusedSimpArgs false
def SorN (ks N : List L) : Prop := (sortE ks ≠ 0 ∧ N = []) ∨ (sortE ks = 0 ∧ N.Perm ks ∧ InOrd N)
theorem sortN_keys {ks : List L} (h : sortE ks = 0) : ks.length ≤ 4096 ∧ ∀ x ∈ ks, keyE x = 0 := by
  unfold sortE at h
  split at h
  · cases h
  · exact ⟨by omega, firstE_zero.1 h⟩
theorem sorN_one {ks N M : List L} (h : SorN ks N) (g : SorN ks M) : N = M := by
  rcases h with ⟨h1, rfl⟩ | ⟨h1, hp, ho⟩ <;> rcases g with ⟨g1, rfl⟩ | ⟨g1, gp, go⟩
  · rfl
  · exact absurd g1 h1
  · exact absurd h1 g1
  · exact ord_one ho go (hp.trans gp.symm) (fun x hx => (sortN_keys h1).2 x (hp.subset hx))
theorem sorN_len {ks N : List L} (h : SorN ks N) : N.length ≤ 4096 := by
  rcases h with ⟨_, rfl⟩ | ⟨h1, hp, _⟩
  · exact Nat.zero_le _
  · rw [hp.length_eq]
    exact (sortN_keys h1).1
theorem sor_uni {w w' : World} {ks : List L} {e : Ending} (h : SorR w ks e w') : ∃ A c N, e = .returned (.tuple #[.slice A N.length c, .int .i64 (sortE ks)]) ∧ SorN ks N ∧ Hp w w' [] [rowT (.slice A N.length c) N] := by
  by_cases hs : sortE ks = 0
  · obtain ⟨A, c, N, rfl, hp, ho, K⟩ := h.2 hs
    exact ⟨A, c, N, by rw [hs], .inr ⟨hs, hp, ho⟩, K⟩
  · obtain ⟨rfl, K⟩ := h.1 hs
    exact ⟨none, 0, [], rfl, .inl ⟨hs, rfl⟩, (Hp.ofBelow K).nilRow 9 1⟩
def Cov (d : RowD) (A : Option Addr) (n : Nat) (m : L) : Prop := ∃ a k c, d = ⟨.slice (some a) k c, 9, 1, k, strC (List.replicate k m)⟩ ∧ A = some a ∧ n ≤ k
def HeldIn (RS : List RowD) (q : HeldD) : Prop := q.n ≤ 4096 ∧ (q.n = 0 ∨ ∃ d ∈ RS, Cov d q.LA q.n q.mark) ∧ ∃ d ∈ RS, Cov d q.MA (q.n + 1) q.mark
theorem HeldIn.mono {RS RS' : List RowD} {q : HeldD} (h : HeldIn RS q) (hs : ∀ d ∈ RS, d ∈ RS') : HeldIn RS' q := by
  obtain ⟨h1, h2, d, hd, h3⟩ := h
  exact ⟨h1, h2.imp id fun ⟨d, hd, hc⟩ => ⟨d, hs d hd, hc⟩, d, hs d hd, h3⟩
theorem cov_rd {s : Bool} {w0 w : World} {l : List Ent} {r : List RowD} (H : HpS s w0 w l r) {d : RowD} (hd : d ∈ r) {A : Option Addr} {n : Nat} {m : L} (hc : Cov d A n m) : Rd w A (strC (List.replicate n m)) := by
  obtain ⟨a, k, c, rfl, rfl, hn⟩ := hc
  obtain ⟨i, hi⟩ := List.getElem?_of_mem hd
  have h := row_at H i hi
  refine ⟨fun e => (by cases e), fun ad e j v hv => h.2 ad e j v ?_⟩
  have hj : j < n := by
    have := (List.getElem?_eq_some_iff.1 hv).1
    simpa [strC] using this
  simp only [strC, List.getElem?_map, List.getElem?_replicate, if_pos hj] at hv
  simp only [strC, List.getElem?_map, List.getElem?_replicate, if_pos (Nat.lt_of_lt_of_le hj hn)]
  exact hv
theorem held_ok {s : Bool} {w0 w : World} {l : List Ent} {r : List RowD} (H : HpS s w0 w l r) {q : HeldD} (h : HeldIn r q) : HeldOk w q := by
  obtain ⟨h1, h2, d, hd, h3⟩ := h
  refine ⟨?_, cov_rd H hd h3, by omega⟩
  rcases h2 with h2 | ⟨d2, hd2, hc⟩
  · rw [h2]
    exact ⟨fun _ => rfl, fun ad e i v hv => by simp [strC] at hv⟩
  · exact cov_rd H hd2 hc
theorem noL {s : Bool} {w0 w : World} {l : List Ent} {r : List RowD} (H : HpS s w0 w l r) : HpS s w0 w [] r := ⟨H.B, by simp, H.row, by simp, H.ndr, by simp, H.dr⟩
theorem pre_rd {w : World} {A : Option Addr} {a b : List Value} (h : Rd w A (a ++ b)) : Rd w A a := ⟨fun e => (List.append_eq_nil_iff.1 (h.1 e)).1, fun ad e i v hv => h.2 ad e i v (by rw [List.getElem?_append_left (List.getElem?_eq_some_iff.1 hv).1, hv])⟩
theorem row_addrS {s : Bool} {w0 w : World} {l : List Ent} {r : List RowD} (H : HpS s w0 w l r) (k : Nat) {A : Option Addr} {n c sz : Nat} {e : TypeId} {cs : List Value} (hk : r[k]? = some ⟨.slice A n c, e, sz, n, cs⟩) (hn : 0 < n) : ∃ g, A = some ⟨g, 0, none⟩ := by
  cases A with
  | some a => obtain ⟨g, rfl⟩ := row_addr H k hk; exact ⟨g, rfl⟩
  | none =>
    obtain ⟨A', c', e, _, _, hz⟩ := H.rd k hk
    simp only [Value.slice.injEq] at e
    exact absurd (hz e.1.symm).2 (by show n ≠ 0; omega)
theorem rep_set {N : List L} {j : Nat} {m : L} (hj : j < N.length) : (strC (List.replicate j m ++ N.drop j)).set j (.string (strOfNums m)) = strC (List.replicate (j + 1) m ++ N.drop (j + 1)) := by
  rw [List.drop_eq_getElem_cons hj, List.replicate_succ']
  simp only [strC, List.map_append, List.map_cons, List.append_assoc]
  rw [List.set_append_right _ _ (by simp)]
  simp
theorem rep_set2 {n j : Nat} {m : L} : (strC (List.replicate n m)).set j (.string (strOfNums m)) = strC (List.replicate n m) := by
  simp [strC]
theorem rep_snoc (n : Nat) (m : L) : strC (List.replicate n m) ++ [.string (strOfNums m)] = strC (List.replicate (n + 1) m) := by
  rw [List.replicate_succ']
  simp [strC]
theorem info_held : (Tryz.prog.info? 40).map (fun i => (i.zero, i.size, i.bytes)) = some (some (.agg #[.slice none 0 0, .slice none 0 0, .string ⟨#[]⟩]), 3, 64) := by kernel_rfl
theorem fill_held (A B : Option Addr) (n1 c1 n2 c2 : Nat) (t : ByteArray) : Instr.fill (fun i => some (i * 3, 3)) ((Array.range (1 * 3)).map ((Value.agg #[.slice none 0 0, .slice none 0 0, .string ⟨#[]⟩]).cells[· % (Value.agg #[.slice none 0 0, .slice none 0 0, .string ⟨#[]⟩]).cells.size]!)) [(0, .agg [.slice A n1 c1, .slice B n2 c2, .string t].toArray)] = some [Value.slice A n1 c1, .slice B n2 c2, .string t].toArray := by kernel_rfl
theorem built_held (A : Option Addr) (n c : Nat) (t : ByteArray) : Tryz.prog.built 40 [(0, .slice A n c), (2, .string t)] = some #[.slice A n c, .slice none 0 0, .string t] := by kernel_rfl
theorem fillS2 (a b : ByteArray) : Instr.fill (fun i => some (i * 1, 1)) ((Array.range (2 * 1)).map ((Value.string ⟨#[]⟩).cells[· % (Value.string ⟨#[]⟩).cells.size]!)) [(0, .string a), (1, .string b)] = some [Value.string a, .string b].toArray := by kernel_rfl
def kB : ByteArray := ⟨#[98, 46, 99, 64, 118, 49, 46, 48, 46, 48]⟩
def kA : ByteArray := ⟨#[97, 46, 99, 64, 118, 49, 46, 48, 46, 48]⟩
theorem st2 : strC [bl kB, bl kA] = [Value.string kB, .string kA] := by simp [strC, strS]
theorem ab_ok : ∀ x ∈ [bl kB, bl kA], Bytes x ∧ x.length ≤ 100000000 := by
  intro x hx
  simp only [List.mem_cons, List.not_mem_nil, or_false] at hx
  rcases hx with rfl | rfl
  · exact ⟨bl_bytes _, by rw [bl_length]; decide⟩
  · exact ⟨bl_bytes _, by rw [bl_length]; decide⟩
theorem ab_sort : sortE [bl kB, bl kA] = 0 := by decide +kernel
theorem ab_ord : InOrd [bl kA, bl kB] := by
  have h : keyF (bl kA) (bl kB) ≤ 0 := by decide +kernel
  refine List.pairwise_cons.2 ⟨fun y hy => ?_, List.pairwise_singleton ..⟩
  rw [List.mem_singleton] at hy
  rw [hy]
  exact h
theorem st2' : strC [bl kA, bl kB] = [Value.string kA, .string kB] := by simp [strC, strS]
theorem ab_len : [bl kB, bl kA].length = 2 := rfl
theorem ab_c {w : World} (hL : Lay w) {g : Nat} (h : Rd w (some ⟨g, 0, none⟩) [Value.string kB, .string kA]) :
    Calls Tryz.prog 11 #[.slice (some ⟨g, 0, none⟩) 2 2] w fun e w' => ∃ A c, e = .returned (.tuple #[.slice A 2 c, .int .i64 0]) ∧ Hp w w' [] [⟨.slice A 2 c, 9, 1, 2, [Value.string kA, .string kB]⟩] := by
  have hs := Sort_c (c := 2) hL (st2 ▸ h) ab_ok (by rw [ab_len]; decide)
  rw [ab_len] at hs
  refine hs.mono fun e w' hQ => ?_
  obtain ⟨A, c, N, rfl, hN, K⟩ := sor_uni hQ
  obtain rfl : N = [bl kA, bl kB] := sorN_one hN (.inr ⟨ab_sort, List.Perm.swap .., ab_ord⟩)
  refine ⟨A, c, by rw [ab_sort]; rfl, ?_⟩
  have K : Hp w w' [] [⟨.slice A [bl kA, bl kB].length c, 9, 1, [bl kA, bl kB].length, strC [bl kA, bl kB]⟩] := K
  rw [st2'] at K
  exact K
structure LstD where
  S : Option Addr
  ls : List L
  c : Nat
def LstD.cells (q : LstD) : List Value := [.slice q.S q.ls.length q.c]
structure LstOk (w : World) (q : LstD) : Prop where
  hS : Rd w q.S (strC q.ls)
  hn : q.ls.length ≤ 1048576
  hl : ∀ x ∈ q.ls, Bytes x ∧ x.length ≤ 1048576
theorem lst_len (q : LstD) : q.cells.length = 1 := rfl
abbrev rowK (A : Option Addr) (c : Nat) (B : List HeldD) : RowD := ⟨.slice A B.length c, 40, 3, B.length, B.flatMap HeldD.cells⟩
abbrev rowV (A : Option Addr) (n c : Nat) (l : List L) : RowD := ⟨.slice A n c, 9, 1, n, strC l⟩
set_option maxRecDepth 100000 in
set_option maxHeartbeats 32000000 in
theorem keeps_c {w : World} (hL : LayR w) {A : Option Addr} {c : Nat} {lists : List LstD} (hR : Rd w A (lists.flatMap LstD.cells)) (hok : ∀ q ∈ lists, LstOk w q) (hl : lists.length ≤ 1048576) :
    Calls Tryz.prog 4 #[.slice A lists.length c] w fun e w' => e = .returned (.bool true) ∧ Below w.heap.size w w' := by
  refine enter (args := [.slice A lists.length c]) Tryz.func4 rfl Tryz.ntmps4 rfl ?_
  have H := (Hp.nil w).nilRow 40 3
  repeat' (first | (with_reducible first | refine p_tn ?_ | refine wp_seq ?_ | refine wp_block ?_ | refine w_reg ?_ | refine l_nil ?_) | ((with_reducible refine g_on ?_); ((with_reducible refine g_as ?_); refine l_p txs rfl rfl ?_)))
  refine w_loop (σ := Nat × List HeldD × (Option Addr × Nat) × List RowD) (S := fun s => [(0, .slice A lists.length c), (3, .slice s.2.2.1.1 s.2.1.length s.2.2.1.2), (4, .int .i64 (s.1 : Int))])
    (J := fun s w' => Hp w w' [] (rowK s.2.2.1.1 s.2.2.1.2 s.2.1 :: s.2.2.2) ∧ s.1 ≤ lists.length ∧ s.2.1.length = s.1 ∧ ∀ q ∈ s.2.1, HeldIn s.2.2.2 q) (μ := fun s => lists.length - s.1) (0, [], (none, 0), []) ⟨rfl, rfl, rfl, trivial⟩ ⟨H, Nat.zero_le _, rfl, fun q hq => by cases hq⟩ ?_
  clear H
  rintro ⟨i, B, ⟨bA, bc⟩, RS⟩ f w_ ⟨H, hi, hBi, hin⟩
  simp only at H hi hBi hin ⊢
  repeat' (first | (with_reducible first | refine wp_seq ?_ | refine w_reg ?_) | ((with_reducible refine g_on ?_); (first | ((with_reducible refine g_mv ?_); refine l_p txs rfl rfl ?_) | ((with_reducible refine g_cl ?_); refine l_p txs rfl rfl ?_))))
  (with_reducible refine is_l ?_); refine l_t txs rfl rfl (fun hlt => ?_) (fun hge => ?_)
  · obtain ⟨q, hq⟩ : ∃ q, lists[i]? = some q := ⟨_, List.getElem?_eq_getElem (by omega)⟩
    have hqo := hok q (List.mem_of_getElem? hq)
    obtain ⟨la, rfl⟩ : ∃ la, A = some la := by
      cases A with
      | none =>
        have h1 := hR.1 rfl
        have h2 := recs_at (fun x _ => lst_len x) hq 0 _ rfl
        rw [h1] at h2
        simp at h2
      | some la => exact ⟨la, rfl⟩
    obtain ⟨S, ls, sc⟩ := q
    obtain ⟨hS, hn, hls⟩ := hqo
    simp only at hS hn hls
    have hq1 : w.cell? (la.add (i * 1)) = some (.slice S ls.length sc) := hR.2 la rfl _ _ (by have := recs_at (fun x _ => lst_len x) hq 0 _ rfl; simpa using this)
    have hls8 : ∀ x ∈ ls, Bytes x ∧ x.length ≤ 100000000 := fun x hx => ⟨(hls x hx).1, by have := (hls x hx).2; omega⟩
    generalize hE : sortE ls = E
    repeat' (first | (with_reducible first | refine p_tn ?_ | refine wp_seq ?_ | refine wp_block ?_ | refine w_reg ?_) | (with_reducible (refine is_if ?_; (refine w_ift rfl ?_))) | (with_reducible first | refine wp_skip ?_ | refine l_nil ?_) | ((with_reducible refine g_on ?_); (first | ((with_reducible refine g_mv ?_); refine l_p txs rfl rfl ?_) | ((with_reducible refine g_ia ?_); refine l_ia txs rfl rfl (by first | omega | assumption | decide) (by first | omega | assumption | decide) ?_))))
    (with_reducible refine is_l ?_); refine l_ld txs rfl rfl (by rw [Int.toNat_natCast]; exact H.old hq1) ?_
    skip
    (with_reducible refine is_l ?_); refine l_call rfl rfl (by kernel_rfl) (Ref.Sort_r (hL.below H.B).tkl (hS.below H.B) hls8 (by omega)) (fun e w_ hQ => ?_)
    obtain ⟨R0, c0, N, rfl, hN, K⟩ := sor_uni hQ
    rw [hE]
    refine ⟨_, rfl, ?_⟩
    have H := (H.join K).nilRow 9 1
    repeat' (first | (with_reducible first | refine p_tn ?_ | refine wp_seq ?_ | refine w_reg ?_ | refine l_nil ?_) | ((with_reducible refine g_on ?_); (first | ((with_reducible refine g_mv ?_); refine l_p txs rfl rfl ?_) | ((with_reducible refine g_as ?_); refine l_p txs rfl rfl ?_) | ((with_reducible refine g_ex ?_); refine l_p txs rfl rfl ?_) | ((with_reducible refine g_ia ?_); refine l_ia txs rfl rfl (by first | omega | assumption | decide) (by first | omega | assumption | decide) ?_))))
    (with_reducible refine is_l ?_); refine l_ld txs rfl rfl (by rw [Int.toNat_natCast]; exact H.old hq1) ?_
    skip
    (with_reducible refine is_l ?_); refine h_app H 0 rfl info_str3 Tryz.underlying25 rfl rfl rfl rfl (hS.below H.B) (by simp [strC]) (strC_all _) (by show (0 + ls.length) * 16 ≤ _; omega) (fun v w_ hv H => ?_)
    obtain ⟨Wa, wc, hv⟩ := hv
    have hv : v = .slice Wa (ls.length + 0) wc := by rw [hv]; show Value.slice Wa (0 + ls.length) wc = _; rw [Nat.zero_add]; rfl
    subst hv
    have H : Hp w w_ [] (rowV Wa (ls.length + 0) wc (ls ++ tailM 0) :: rowT (.slice R0 N.length c0) N :: rowK bA bc B :: RS) := by
      have h : Hp w w_ [] (⟨.slice Wa (ls.length + 0) wc, 9, 1, 0 + ls.length, [] ++ strC ls⟩ :: rowT (.slice R0 N.length c0) N :: rowK bA bc B :: RS) := H
      rw [Nat.zero_add] at h
      have e : ls ++ tailM 0 = ls := by simp [tailM]
      show Hp w w_ [] (⟨.slice Wa (ls.length + 0) wc, 9, 1, ls.length, strC (ls ++ tailM 0)⟩ :: rowT (.slice R0 N.length c0) N :: rowK bA bc B :: RS)
      rw [e]
      exact h
    repeat' (first | (with_reducible first | refine p_tn ?_ | refine wp_seq ?_ | refine wp_block ?_ | refine w_reg ?_ | refine l_nil ?_) | ((with_reducible refine g_on ?_); ((with_reducible refine g_as ?_); refine l_p txs rfl rfl ?_)))
    refine w_loop (σ := Nat × Option Addr × Nat) (S := fun s => [(0, .slice (some la) lists.length c), (3, .slice bA B.length bc), (4, .int .i64 (i : Int)), (5, .slice R0 N.length c0), (6, .int .i64 E), (7, .slice s.2.1 (ls.length + s.1) s.2.2), (8, .int .i64 (s.1 : Int))])
      (J := fun s w' => Hp w w' [] (rowV s.2.1 (ls.length + s.1) s.2.2 (ls ++ tailM s.1) :: rowT (.slice R0 N.length c0) N :: rowK bA bc B :: RS) ∧ s.1 ≤ 300) (μ := fun s => 300 - s.1) (0, Wa, wc) ⟨rfl, rfl, rfl, rfl, rfl, rfl, rfl, trivial⟩ ⟨H, Nat.zero_le _⟩ ?_
    clear H
    rintro ⟨j, Wa, wc⟩ f w_ ⟨H, hj⟩
    simp only at H hj ⊢
    repeat' (first | (with_reducible first | refine wp_seq ?_ | refine w_reg ?_) | ((with_reducible refine g_on ?_); ((with_reducible refine g_mv ?_); refine l_p txs rfl rfl ?_)))
    (with_reducible refine is_l ?_); refine l_t txs rfl rfl (fun hlt2 => ?_) (fun hge2 => ?_)
    · obtain ⟨z, hz⟩ : ∃ z, z = ((j % 256 : Nat) : Int) := ⟨_, rfl⟩
      have he : eM j = [101, z] := by unfold eM; rw [hz]
      have hw := byte_of j
      rw [← hz] at hw
      repeat' (first | (with_reducible first | refine p_tn ?_ | refine wp_seq ?_ | refine wp_block ?_ | refine w_reg ?_) | (with_reducible (refine is_if ?_; (refine w_ift rfl ?_))) | (with_reducible first | refine wp_skip ?_ | refine l_nil ?_) | ((with_reducible refine g_on ?_); ((with_reducible refine g_mv ?_); refine l_p txs rfl rfl ?_)))
      (with_reducible refine is_l ?_); refine l_cvi (y := z) Tryz.underlying3 Tryz.underlying5 rfl rfl hw ?_
      skip
      (with_reducible refine is_l ?_); refine h_bsn H info_u8 Tryz.underlying34 (by decide) (by decide) rfl (fill2 _ _) (fun g_ w_ H => ?_)
      skip
      (with_reducible refine is_l ?_); refine l_text rfl rfl Tryz.underlying34 Tryz.underlying5 Tryz.underlying9 (reads_of_rd (k := .u8) (xs := [101, z]) (H.cellRd 0 rfl) (by show 2 ≤ _; decide)) ?_
      skip
      (with_reducible refine is_l ?_); refine h_bs H info_str3 Tryz.underlying25 (by decide) (by decide) rfl rfl (fill_s _) (fun g_ w_ H => ?_)
      skip
      (with_reducible refine is_l ?_); refine h_app H 0 rfl info_str3 Tryz.underlying25 rfl rfl rfl rfl (H.cellRd 0 rfl) rfl rfl (by show (ls.length + j + 1) * 16 ≤ _; omega) (fun v w_ hv H => ?_)
      obtain ⟨Wb, wd, hv⟩ := hv
      have hv : v = .slice Wb (ls.length + (j + 1)) wd := hv
      subst hv
      have H := noL H
      have H : Hp w w_ [] (rowV Wb (ls.length + (j + 1)) wd (ls ++ tailM (j + 1)) :: rowT (.slice R0 N.length c0) N :: rowK bA bc B :: RS) := by
        have e : strC (ls ++ tailM (j + 1)) = strC (ls ++ tailM j) ++ [.string (strOfNums [101, z])] := by rw [tailM_succ, ← he]; simp [strC]
        show Hp w w_ [] (⟨.slice Wb (ls.length + (j + 1)) wd, 9, 1, ls.length + (j + 1), strC (ls ++ tailM (j + 1))⟩ :: rowT (.slice R0 N.length c0) N :: rowK bA bc B :: RS)
        rw [e]
        exact H
      repeat' (first | (with_reducible first | refine p_tn ?_ | refine p_bn ?_ | refine w_reg ?_ | refine l_nil ?_) | ((with_reducible refine g_on ?_); (first | ((with_reducible refine g_mv ?_); refine l_p txs rfl rfl ?_) | ((with_reducible refine g_as ?_); refine l_p txs rfl rfl ?_) | ((with_reducible refine g_bi ?_); (refine l_a txs rfl rfl (by first | exact in_i64 (by omega) (by omega) | exact in_u8 (by omega) (by omega) | exact in_u64 (by omega) (by omega) | exact in_i32 (by omega) (by omega)) ?_)))))
      exact ⟨(j + 1, Wb, wd), _, rfl, ⟨rfl, rfl, rfl, rfl, rfl, rfl, rfl, trivial⟩, ⟨H, by show j + 1 ≤ _; omega⟩, by show _ - (j + 1) < _ - j; omega⟩
    obtain rfl : j = 300 := by omega
    obtain ⟨gw, rfl⟩ := row_addrS H 0 rfl (by omega)
    obtain ⟨_, _, eW, hwc, _, _⟩ := H.rd 0 rfl
    simp only [Value.slice.injEq] at eW
    have hwc : ls.length + 300 ≤ wc := by rw [eW.2.2]; exact hwc
    clear eW
    have hWr : ∀ {w1 : World} {X : List RowD} {l1 : List Ent} (k : Nat), Hp w w1 l1 X → X[k]? = some (rowV (some ⟨gw, 0, none⟩) (ls.length + 300) wc (ls ++ tailM 300)) → Rd w1 (some ⟨gw, 0, none⟩) (strC (ls ++ tailM 300)) := fun k h hk => row_at h k hk
    have hWp : strC (ls ++ tailM 300) = strC ls ++ strC (tailM 300) := by simp [strC]
    repeat' (first | (with_reducible first | refine p_tn ?_ | refine p_tx ?_ | refine x_hit ?_ | refine wp_seq ?_ | refine w_reg ?_) | (with_reducible (refine is_if ?_; (refine w_iff rfl ?_))) | (with_reducible first | refine wp_exit ?_ | refine l_nil ?_) | ((with_reducible refine g_on ?_); (first | ((with_reducible refine g_mv ?_); refine l_p txs rfl rfl ?_) | ((with_reducible refine g_ia ?_); refine l_ia txs rfl rfl (by first | omega | assumption | decide) (by first | omega | assumption | decide) ?_))))
    (with_reducible refine is_l ?_); refine l_ld txs rfl rfl (by rw [Int.toNat_natCast]; exact H.old hq1) ?_
    repeat' ((with_reducible refine g_on ?_); ((with_reducible refine g_cl ?_); refine l_p txs rfl rfl ?_))
    (with_reducible refine is_l ?_); refine l_cutN txs 0 ls.length rfl rfl (by omega) (by omega) ?_
    rw [cut_zero (by omega)]
    skip
    (with_reducible refine is_l ?_); refine l_call rfl rfl (by kernel_rfl) (Sort_c (c := wc - 0) (hL.below H.B).lay (pre_rd (hWp ▸ hWr 0 H rfl)) hls8 (by omega)) (fun e w_ hQ => ?_)
    obtain ⟨L0, c1, N2, rfl, hN2, K⟩ := sor_uni hQ
    obtain rfl := sorN_one hN hN2
    rw [hE]
    refine ⟨_, rfl, ?_⟩
    have hNl := sorN_len hN
    have H : Hp w w_ [] (rowT (.slice L0 N.length c1) N :: rowV (some ⟨gw, 0, none⟩) (ls.length + 300) wc (ls ++ tailM 300) :: rowT (.slice R0 N.length c0) N :: rowK bA bc B :: RS) := H.join K
    repeat' (first | (with_reducible first | refine p_tn ?_ | refine wp_seq ?_ | refine w_reg ?_ | refine l_nil ?_) | ((with_reducible refine g_on ?_); (first | ((with_reducible refine g_mv ?_); refine l_p txs rfl rfl ?_) | ((with_reducible refine g_as ?_); refine l_p txs rfl rfl ?_) | ((with_reducible refine g_ex ?_); refine l_p txs rfl rfl ?_))))
    (with_reducible refine is_l ?_); refine l_callv rfl rfl (by kernel_rfl) (Ref.same_c (rowT_at H 0 rfl) (rowT_at H 2 rfl) (by omega)) (fun w_ K => ?_)
    have H := H.call K
    repeat' (first | ((with_reducible refine g_on ?_); (first | ((with_reducible refine g_mv ?_); refine l_p txs rfl rfl ?_) | ((with_reducible refine g_un ?_); (refine l_p txs rfl rfl ?_)))) | ((with_reducible refine g_if ?_); ((with_reducible refine g_mv ?_); refine l_p txs rfl rfl ?_)))
    (with_reducible refine is_l ?_); refine l_t txs rfl rfl (fun h => absurd rfl h) (fun _ => ?_)
    repeat' (first | ((with_reducible refine g_on ?_); (first | ((with_reducible refine g_mv ?_); refine l_p txs rfl rfl ?_) | ((with_reducible refine g_pk ?_); refine l_p txs rfl rfl ?_))) | ((with_reducible refine g_if ?_); (first | ((with_reducible refine g_mv ?_); refine l_p txs rfl rfl ?_) | ((with_reducible refine g_ia ?_); refine l_ia txs rfl rfl (by first | omega | assumption | decide) (by first | omega | assumption | decide) ?_))))
    (with_reducible refine is_l ?_); refine l_ld txs rfl rfl (by rw [Int.toNat_natCast]; exact H.old hq1) ?_
    skip
    (with_reducible refine is_l ?_); refine l_callv rfl rfl (by kernel_rfl) (kept_c (c := wc) (c2 := sc) (hWr 1 H rfl) (hS.below H.B) (by omega) hwc) (fun w_ K => ?_)
    have H := H.call K
    repeat' (first | (with_reducible first | refine p_tn ?_ | refine wp_seq ?_ | refine w_reg ?_) | (with_reducible (refine is_if ?_; (refine w_iff rfl ?_))) | (with_reducible first | refine wp_skip ?_ | refine l_nil ?_) | ((with_reducible refine g_on ?_); (first | ((with_reducible refine g_mv ?_); refine l_p txs rfl rfl ?_) | ((with_reducible refine g_pk ?_); refine l_p txs rfl rfl ?_))) | ((with_reducible refine g_if ?_); ((with_reducible refine g_un ?_); (refine l_p txs rfl rfl ?_))))
    obtain ⟨z1, hz1⟩ : ∃ z, z = ((i % 256 : Nat) : Int) := ⟨_, rfl⟩
    obtain ⟨z2, hz2⟩ : ∃ z, z = ((i / 256 % 256 : Nat) : Int) := ⟨_, rfl⟩
    have hw1 : IntKind.wrap .u8 (i : Int) = z1 := by rw [hz1]; exact byte_of i
    have hw2 : IntKind.wrap .u8 ((i : Int) / (256 : Nat)) = z2 := by rw [hz2, ← byte_of, Int.natCast_ediv]
    (with_reducible refine is_l ?_); refine l_cvi (y := z1) Tryz.underlying3 Tryz.underlying5 rfl rfl hw1 ?_
    repeat' ((with_reducible refine g_on ?_); ((with_reducible refine g_mv ?_); refine l_p txs rfl rfl ?_))
    (with_reducible refine is_l ?_); refine l_bii rfl rfl rfl (quoZ _ 256 (z := (i : Int) / (256 : Nat)) (by omega) (by omega) (by decide) rfl) ?_
    skip
    (with_reducible refine is_l ?_); refine l_cvi (y := z2) Tryz.underlying3 Tryz.underlying5 rfl rfl hw2 ?_
    skip
    (with_reducible refine is_l ?_); refine h_bsn H info_u8 Tryz.underlying34 (by decide) (by decide) rfl (fill3 _ _ _) (fun g_ w_ H => ?_)
    skip
    (with_reducible refine is_l ?_); refine l_text rfl rfl Tryz.underlying34 Tryz.underlying5 Tryz.underlying9 (reads_of_rd (k := .u8) (xs := [109, z1, z2]) (H.cellRd 0 rfl) (by show 3 ≤ _; decide)) ?_
    obtain ⟨mk, hmk⟩ : ∃ mk : L, mk = [109, z1, z2] := ⟨_, rfl⟩
    rw [← hmk]
    clear hmk hw1 hw2 hz1 hz2
    have H := noL H
    skip
    (with_reducible refine is_l ?_); refine h_bld rfl rfl (built_held _ _ _ _) ?_
    repeat' (first | (with_reducible first | refine p_tn ?_ | refine wp_seq ?_ | refine wp_block ?_ | refine w_reg ?_ | refine l_nil ?_) | ((with_reducible refine g_on ?_); (first | ((with_reducible refine g_as ?_); refine l_p txs rfl rfl ?_) | ((with_reducible refine g_st ?_); (refine h_stR recs H 0 rfl rfl rfl rfl rfl rfl rfl rfl rfl (fun w_ H => ?_))) | ((with_reducible refine g_al ?_); refine h_alloc recs H rfl rfl (fun g_ w_ H => ?_)))))
    have H : Hp w w_ [(g_, 40, [.slice L0 N.length c1, .slice none 0 0, .string (strOfNums mk)])] (rowV L0 N.length c1 (List.replicate 0 mk ++ N.drop 0) :: rowV (some ⟨gw, 0, none⟩) (ls.length + 300) wc (ls ++ tailM 300) :: rowK bA bc B :: RS) := Hp.keep (r := [_, _, _, _]) (rs := RS) H [0] [0, 1, 3] (by decide) (by decide) rfl rfl rfl
    obtain ⟨gH, hgH⟩ : ∃ g, g = g_ := ⟨_, rfl⟩
    rw [← hgH] at H ⊢
    clear hgH
    refine w_loop (σ := Nat) (S := fun s => [(0, .slice (some la) lists.length c), (3, .slice bA B.length bc), (4, .int .i64 (i : Int)), (7, .slice (some ⟨gw, 0, none⟩) (ls.length + 300) wc), (9, .slice L0 N.length c1), (11, .pointer (some ⟨gH, 0, none⟩)), (12, .int .i64 (s : Int))])
      (J := fun s w' => Hp w w' [(gH, 40, [.slice L0 N.length c1, .slice none 0 0, .string (strOfNums mk)])] (rowV L0 N.length c1 (List.replicate s mk ++ N.drop s) :: rowV (some ⟨gw, 0, none⟩) (ls.length + 300) wc (ls ++ tailM 300) :: rowK bA bc B :: RS) ∧ s ≤ N.length) (μ := fun s => N.length - s) 0 ⟨rfl, rfl, rfl, rfl, rfl, rfl, rfl, trivial⟩ ⟨H, Nat.zero_le _⟩ ?_
    clear H
    rintro j f w_ ⟨H, hj⟩
    repeat' (first | (with_reducible first | refine wp_seq ?_ | refine w_reg ?_) | ((with_reducible refine g_on ?_); (first | ((with_reducible refine g_mv ?_); refine l_p txs rfl rfl ?_) | ((with_reducible refine g_cl ?_); refine l_p txs rfl rfl ?_))))
    (with_reducible refine is_l ?_); refine l_t txs rfl rfl (fun hlt3 => ?_) (fun hge3 => ?_)
    · obtain ⟨gl, rfl⟩ := row_addrS H 0 rfl (by omega)
      repeat' (first | (with_reducible first | refine p_tn ?_ | refine wp_seq ?_ | refine wp_block ?_ | refine w_reg ?_) | (with_reducible (refine is_if ?_; (refine w_ift rfl ?_))) | (with_reducible first | refine wp_skip ?_ | refine l_nil ?_) | ((with_reducible refine g_on ?_); (first | ((with_reducible refine g_mv ?_); refine l_p txs rfl rfl ?_) | ((with_reducible refine g_fa ?_); refine h_fa flds rfl rfl ?_) | ((with_reducible refine g_ld ?_); (refine h_ld txs H 0 rfl rfl rfl rfl ?_)) | ((with_reducible refine g_ia ?_); refine l_ia txs rfl rfl (by first | omega | assumption | decide) (by first | omega | assumption | decide) ?_))))
      (with_reducible refine is_l ?_); refine h_stE (by kernel_rfl) H 0 (i := j) (v := .string (strOfNums mk)) rfl rfl rfl rfl (by rw [Int.toNat_natCast]; exact at_row _ _) rfl rfl (by omega) (fun w_ H => ?_)
      have H : Hp w w_ [(gH, 40, [.slice (some ⟨gl, 0, none⟩) N.length c1, .slice none 0 0, .string (strOfNums mk)])] (rowV (some ⟨gl, 0, none⟩) N.length c1 (List.replicate (j + 1) mk ++ N.drop (j + 1)) :: rowV (some ⟨gw, 0, none⟩) (ls.length + 300) wc (ls ++ tailM 300) :: rowK bA bc B :: RS) := by
        show Hp w w_ _ (⟨.slice (some ⟨gl, 0, none⟩) N.length c1, 9, 1, N.length, strC (List.replicate (j + 1) mk ++ N.drop (j + 1))⟩ :: _)
        rw [← rep_set (by omega)]
        exact H
      repeat' (first | (with_reducible first | refine p_tn ?_ | refine p_bn ?_ | refine w_reg ?_ | refine l_nil ?_) | ((with_reducible refine g_on ?_); (first | ((with_reducible refine g_mv ?_); refine l_p txs rfl rfl ?_) | ((with_reducible refine g_as ?_); refine l_p txs rfl rfl ?_) | ((with_reducible refine g_bi ?_); (refine l_a txs rfl rfl (by first | exact in_i64 (by omega) (by omega) | exact in_u8 (by omega) (by omega) | exact in_u64 (by omega) (by omega) | exact in_i32 (by omega) (by omega)) ?_)))))
      exact ⟨j + 1, _, rfl, ⟨rfl, rfl, rfl, rfl, rfl, rfl, rfl, trivial⟩, ⟨H, by omega⟩, by omega⟩
    obtain rfl : j = N.length := by omega
    rw [show List.replicate N.length mk ++ N.drop N.length = List.replicate N.length mk by simp] at H
    repeat' (first | (with_reducible first | refine p_tn ?_ | refine p_tx ?_ | refine x_hit ?_ | refine wp_seq ?_ | refine w_reg ?_) | (with_reducible (refine is_if ?_; (refine w_iff rfl ?_))) | (with_reducible first | refine wp_exit ?_ | refine l_nil ?_) | ((with_reducible refine g_on ?_); (first | ((with_reducible refine g_mv ?_); refine l_p txs rfl rfl ?_) | ((with_reducible refine g_fa ?_); refine h_fa flds rfl rfl ?_) | ((with_reducible refine g_ld ?_); (refine h_ld txs H 0 rfl rfl rfl rfl ?_)))))
    (with_reducible refine is_l ?_); refine h_bs H info_str3 Tryz.underlying25 (by decide) (by decide) rfl rfl (fill_s _) (fun g_ w_ H => ?_)
    (with_reducible refine is_l ?_); refine h_app2 H 0 rfl info_str3 Tryz.underlying25 rfl rfl rfl rfl (by decide) (H.cellRd 0 rfl) rfl rfl (by show (N.length + 1) * 16 ≤ _; omega) (fun v w_ hv => ?_)
    obtain ⟨m, mc, RS', rfl, hcov, hsub, H⟩ : ∃ (m : Addr) (mc : Nat) (RS' : List RowD), v = .slice (some m) (N.length + 1) mc ∧ (N.length = 0 ∨ ∃ d ∈ rowV (some m) (N.length + 1) mc (List.replicate (N.length + 1) mk) :: RS', Cov d L0 N.length mk) ∧ (∀ d ∈ RS, d ∈ RS') ∧ Hp w w_ [(gH, 40, [.slice L0 N.length c1, .slice none 0 0, .string (strOfNums mk)])] (rowV (some m) (N.length + 1) mc (List.replicate (N.length + 1) mk) :: rowV (some ⟨gw, 0, none⟩) (ls.length + 300) wc (ls ++ tailM 300) :: rowK bA bc B :: RS') := by
      rcases hv with ⟨a, c', e1, e2, H⟩ | ⟨A', c', e2, H⟩
      · have e1 : Value.slice L0 N.length c1 = .slice (some a) N.length c' := e1
        simp only [Value.slice.injEq, true_and] at e1
        obtain ⟨e3, e4⟩ := e1
        subst e3 e4
        have e2 : v = .slice (some a) (N.length + 1) c1 := e2
        subst e2
        refine ⟨a, c1, RS, rfl, .inr ⟨_, List.mem_cons_self .., a, N.length + 1, c1, rfl, rfl, by omega⟩, fun d h => h, ?_⟩
        have H := Hp.keep (r := [_, _, _]) (rs := RS) H [1] [0, 1, 2] (by decide) (by decide) rfl rfl rfl
        show Hp w w_ _ (⟨.slice (some a) (N.length + 1) c1, 9, 1, N.length + 1, strC (List.replicate (N.length + 1) mk)⟩ :: _)
        rw [← rep_snoc]
        exact H
      · have e2 : v = .slice A' (N.length + 1) c' := e2
        subst e2
        obtain ⟨gm, rfl⟩ := row_addrS H 0 rfl (by show 0 < N.length + 1; omega)
        refine ⟨⟨gm, 0, none⟩, c', rowV L0 N.length c1 (List.replicate N.length mk) :: RS, rfl, ?_, fun d h => List.mem_cons_of_mem _ h, ?_⟩
        · by_cases h0 : N.length = 0
          · exact .inl h0
          · obtain ⟨gl, rfl⟩ := row_addrS H 1 rfl (by show 0 < N.length; omega)
            exact .inr ⟨_, List.mem_cons_of_mem _ (List.mem_cons_self ..), ⟨gl, 0, none⟩, N.length, c1, rfl, rfl, Nat.le_refl _⟩
        · have H := Hp.keep (r := [_, _, _, _]) (rs := RS) H [1] [0, 2, 3, 1] (by decide) (by decide) rfl rfl rfl
          show Hp w w_ _ (⟨.slice (some ⟨gm, 0, none⟩) (N.length + 1) c', 9, 1, N.length + 1, strC (List.replicate (N.length + 1) mk)⟩ :: _)
          rw [← rep_snoc]
          exact H
    repeat' (first | (with_reducible first | refine p_tn ?_ | refine wp_seq ?_ | refine wp_block ?_ | refine w_reg ?_ | refine l_nil ?_) | ((with_reducible refine g_on ?_); (first | ((with_reducible refine g_as ?_); refine l_p txs rfl rfl ?_) | ((with_reducible refine g_fa ?_); refine h_fa flds rfl rfl ?_) | ((with_reducible refine g_st ?_); (refine h_st txs ones H 0 rfl rfl rfl rfl rfl rfl rfl rfl rfl (fun w_ H => ?_))))))
    have H : Hp w w_ [(gH, 40, [.slice L0 N.length c1, .slice (some m) (N.length + 1) mc, .string (strOfNums mk)])] (rowV (some m) (N.length + 1) mc (List.replicate (N.length + 1) mk) :: rowV (some ⟨gw, 0, none⟩) (ls.length + 300) wc (ls ++ tailM 300) :: rowK bA bc B :: RS') := H
    refine w_loop (σ := Nat) (S := fun s => [(0, .slice (some la) lists.length c), (3, .slice bA B.length bc), (4, .int .i64 (i : Int)), (7, .slice (some ⟨gw, 0, none⟩) (ls.length + 300) wc), (11, .pointer (some ⟨gH, 0, none⟩)), (13, .int .i64 (s : Int))])
      (J := fun s w' => Hp w w' [(gH, 40, [.slice L0 N.length c1, .slice (some m) (N.length + 1) mc, .string (strOfNums mk)])] (rowV (some m) (N.length + 1) mc (List.replicate (N.length + 1) mk) :: rowV (some ⟨gw, 0, none⟩) (ls.length + 300) wc (ls ++ tailM 300) :: rowK bA bc B :: RS') ∧ s ≤ N.length + 1) (μ := fun s => N.length + 1 - s) 0 ⟨rfl, rfl, rfl, rfl, rfl, rfl, trivial⟩ ⟨H, Nat.zero_le _⟩ ?_
    clear H
    rintro j f w_ ⟨H, hj⟩
    repeat' (first | (with_reducible first | refine wp_seq ?_ | refine w_reg ?_) | ((with_reducible refine g_on ?_); (first | ((with_reducible refine g_mv ?_); refine l_p txs rfl rfl ?_) | ((with_reducible refine g_fa ?_); refine h_fa flds rfl rfl ?_) | ((with_reducible refine g_ld ?_); (refine h_ld txs H 0 rfl rfl rfl rfl ?_)) | ((with_reducible refine g_cl ?_); refine l_p txs rfl rfl ?_))))
    (with_reducible refine is_l ?_); refine l_t txs rfl rfl (fun hlt4 => ?_) (fun hge4 => ?_)
    · obtain ⟨gm, rfl⟩ := row_addr H 0 rfl
      repeat' (first | (with_reducible first | refine p_tn ?_ | refine wp_seq ?_ | refine wp_block ?_ | refine w_reg ?_) | (with_reducible (refine is_if ?_; (refine w_ift rfl ?_))) | (with_reducible first | refine wp_skip ?_ | refine l_nil ?_) | ((with_reducible refine g_on ?_); (first | ((with_reducible refine g_mv ?_); refine l_p txs rfl rfl ?_) | ((with_reducible refine g_fa ?_); refine h_fa flds rfl rfl ?_) | ((with_reducible refine g_ld ?_); (refine h_ld txs H 0 rfl rfl rfl rfl ?_)) | ((with_reducible refine g_ia ?_); refine l_ia txs rfl rfl (by first | omega | assumption | decide) (by first | omega | assumption | decide) ?_))))
      (with_reducible refine is_l ?_); refine h_stE (by kernel_rfl) H 0 (i := j) (v := .string (strOfNums mk)) rfl rfl rfl rfl (by rw [Int.toNat_natCast]; exact at_row _ _) rfl rfl (by omega) (fun w_ H => ?_)
      have H : Hp w w_ [(gH, 40, [.slice L0 N.length c1, .slice (some ⟨gm, 0, none⟩) (N.length + 1) mc, .string (strOfNums mk)])] (rowV (some ⟨gm, 0, none⟩) (N.length + 1) mc (List.replicate (N.length + 1) mk) :: rowV (some ⟨gw, 0, none⟩) (ls.length + 300) wc (ls ++ tailM 300) :: rowK bA bc B :: RS') := by
        show Hp w w_ _ (⟨.slice (some ⟨gm, 0, none⟩) (N.length + 1) mc, 9, 1, N.length + 1, strC (List.replicate (N.length + 1) mk)⟩ :: _)
        rw [← rep_set2 (j := j)]
        exact H
      repeat' (first | (with_reducible first | refine p_tn ?_ | refine p_bn ?_ | refine w_reg ?_ | refine l_nil ?_) | ((with_reducible refine g_on ?_); (first | ((with_reducible refine g_mv ?_); refine l_p txs rfl rfl ?_) | ((with_reducible refine g_as ?_); refine l_p txs rfl rfl ?_) | ((with_reducible refine g_bi ?_); (refine l_a txs rfl rfl (by first | exact in_i64 (by omega) (by omega) | exact in_u8 (by omega) (by omega) | exact in_u64 (by omega) (by omega) | exact in_i32 (by omega) (by omega)) ?_)))))
      exact ⟨j + 1, _, rfl, ⟨rfl, rfl, rfl, rfl, rfl, rfl, trivial⟩, ⟨H, by omega⟩, by omega⟩
    clear hge4 hj
    repeat' (first | (with_reducible first | refine p_tn ?_ | refine p_tx ?_ | refine x_hit ?_ | refine wp_seq ?_ | refine w_reg ?_) | (with_reducible (refine is_if ?_; (refine w_iff rfl ?_))) | (with_reducible first | refine wp_exit ?_ | refine l_nil ?_) | ((with_reducible refine g_on ?_); (first | ((with_reducible refine g_mv ?_); refine l_p txs rfl rfl ?_) | ((with_reducible refine g_ld ?_); (refine h_ldR recs H 0 rfl rfl rfl rfl rfl ?_)))))
    (with_reducible refine is_l ?_); refine h_bs H info_held Tryz.underlying31 (by decide) (by decide) rfl rfl (fill_held _ _ _ _ _ _ _) (fun g_ w_ H => ?_)
    (with_reducible refine is_l ?_); refine h_app H 2 rfl info_held Tryz.underlying31 rfl rfl rfl rfl (H.cellRd 0 rfl) rfl rfl (by show (B.length + 1) * 64 ≤ _; omega) (fun v w_ hv H => ?_)
    obtain ⟨dA, dc, hv⟩ := hv
    have hv : v = .slice dA (B.length + 1) dc := hv
    subst hv
    obtain ⟨qd, hqd⟩ : ∃ q : HeldD, q = ⟨L0, N.length, c1, some m, mc, mk⟩ := ⟨_, rfl⟩
    have hBl : (B ++ [qd]).length = B.length + 1 := by simp
    have H : Hp w w_ [] (rowV (some m) (N.length + 1) mc (List.replicate (N.length + 1) mk) :: rowV (some ⟨gw, 0, none⟩) (ls.length + 300) wc (ls ++ tailM 300) :: rowK dA dc (B ++ [qd]) :: RS') := by
      have e : (B ++ [qd]).flatMap HeldD.cells = B.flatMap HeldD.cells ++ [.slice L0 N.length c1, .slice (some m) (N.length + 1) mc, .string (strOfNums mk)] := by rw [List.flatMap_append, hqd]; rfl
      unfold rowK
      rw [hBl, e]
      exact noL H
    have hall : ∀ q ∈ B ++ [qd], HeldIn (rowV (some m) (N.length + 1) mc (List.replicate (N.length + 1) mk) :: RS') q := by
      intro q hq
      rcases List.mem_append.1 hq with hq | hq
      · exact (hin q hq).mono fun d hd => List.mem_cons_of_mem _ (hsub d hd)
      · rw [List.mem_singleton] at hq
        subst hq
        rw [hqd]
        exact ⟨hNl, hcov, _, List.mem_cons_self .., m, N.length + 1, mc, rfl, rfl, Nat.le_refl _⟩
    have hmk := fun (w1 : World) (h : Rd w1 dA ((B ++ [qd]).flatMap HeldD.cells)) (h2 : ∀ q ∈ B ++ [qd], HeldOk w1 q) => marked_c (c := dc) h h2 (by rw [hBl]; omega)
    rw [hBl] at hmk
    have hrow : ∀ {w1 : World} {l1 : List Ent}, Hp w w1 l1 (rowV (some m) (N.length + 1) mc (List.replicate (N.length + 1) mk) :: rowV (some ⟨gw, 0, none⟩) (ls.length + 300) wc (ls ++ tailM 300) :: rowK dA dc (B ++ [qd]) :: RS') → Rd w1 dA ((B ++ [qd]).flatMap HeldD.cells) := fun h => row_at h 2 rfl
    repeat' (first | (with_reducible first | refine p_tn ?_ | refine wp_seq ?_ | refine w_reg ?_ | refine l_nil ?_) | ((with_reducible refine g_on ?_); (first | ((with_reducible refine g_mv ?_); refine l_p txs rfl rfl ?_) | ((with_reducible refine g_as ?_); refine l_p txs rfl rfl ?_))))
    (with_reducible refine is_l ?_); refine l_callv rfl rfl (by kernel_rfl) (hmk _ (hrow H) (fun q hq => held_ok H ((hall q hq).mono fun d hd => by rcases List.mem_cons.1 hd with rfl | hd; exact List.mem_cons_self ..; exact List.mem_cons_of_mem _ (List.mem_cons_of_mem _ (List.mem_cons_of_mem _ hd))))) (fun w_ K => ?_)
    have H := H.call K
    repeat' (first | ((with_reducible refine g_on ?_); (first | ((with_reducible refine g_mv ?_); refine l_p txs rfl rfl ?_) | ((with_reducible refine g_un ?_); (refine l_p txs rfl rfl ?_)))) | ((with_reducible refine g_if ?_); (first | ((with_reducible refine g_mv ?_); refine l_p txs rfl rfl ?_) | ((with_reducible refine g_ia ?_); refine l_ia txs rfl rfl (by first | omega | assumption | decide) (by first | omega | assumption | decide) ?_))))
    (with_reducible refine is_l ?_); refine l_ld txs rfl rfl (by rw [Int.toNat_natCast]; exact H.old hq1) ?_
    skip
    (with_reducible refine is_l ?_); refine l_callv rfl rfl (by kernel_rfl) (kept_c (c := wc) (c2 := sc) (hWr 1 H rfl) (hS.below H.B) (by omega) hwc) (fun w_ K => ?_)
    have H := H.call K
    repeat' (first | (with_reducible first | refine p_tn ?_ | refine p_bn ?_ | refine w_reg ?_) | (with_reducible (refine is_if ?_; (refine w_iff rfl ?_))) | (with_reducible first | refine wp_skip ?_ | refine l_nil ?_) | ((with_reducible refine g_on ?_); (first | ((with_reducible refine g_mv ?_); refine l_p txs rfl rfl ?_) | ((with_reducible refine g_as ?_); refine l_p txs rfl rfl ?_) | ((with_reducible refine g_pk ?_); refine l_p txs rfl rfl ?_) | ((with_reducible refine g_bi ?_); (refine l_a txs rfl rfl (by first | exact in_i64 (by omega) (by omega) | exact in_u8 (by omega) (by omega) | exact in_u64 (by omega) (by omega) | exact in_i32 (by omega) (by omega)) ?_)))) | ((with_reducible refine g_if ?_); ((with_reducible refine g_un ?_); (refine l_p txs rfl rfl ?_))))
    have H := Hp.keep (r := [_, _, _]) (rs := RS') H [] [2, 0] (by decide) (by decide) rfl rfl rfl
    exact ⟨(i + 1, B ++ [qd], (dA, dc), rowV (some m) (N.length + 1) mc (List.replicate (N.length + 1) mk) :: RS'), _, rfl, ⟨rfl, by show Value.slice dA (B.length + 1) dc = Value.slice dA (B ++ [qd]).length dc; rw [hBl], rfl, trivial⟩, ⟨H, by show i + 1 ≤ _; omega, by show (B ++ [qd]).length = i + 1; rw [hBl, hBi], hall⟩, by show _ - (i + 1) < _ - i; omega⟩
  · repeat' (first | (with_reducible first | refine p_tn ?_ | refine p_tx ?_ | refine x_hit ?_ | refine wp_seq ?_ | refine w_reg ?_) | (with_reducible (refine is_if ?_; (refine w_iff rfl ?_))) | (with_reducible first | refine wp_exit ?_ | refine l_nil ?_))
    (with_reducible refine is_l ?_); refine h_bsn H info_str3 Tryz.underlying25 (by decide) (by decide) rfl (fillS2 _ _) (fun g_ w_ H => ?_)
    (with_reducible refine is_l ?_); refine l_call rfl rfl (by kernel_rfl) (ab_c (hL.below H.B).lay (H.cellRd 0 rfl)) (fun e w_ hQ => ?_)
    obtain ⟨L0, c1, rfl, K⟩ := hQ
    refine ⟨_, rfl, ?_⟩
    have H := noL (H.join K)
    have H : Hp w w_ [] (⟨.slice L0 2 c1, 9, 1, 2, [Value.string kA, .string kB]⟩ :: rowK bA bc B :: RS) := H
    obtain ⟨g0, rfl⟩ := row_addrS H 0 rfl (by decide)
    repeat' (first | (with_reducible first | refine p_tn ?_ | refine wp_seq ?_ | refine w_reg ?_ | refine l_nil ?_) | ((with_reducible refine g_on ?_); (first | ((with_reducible refine g_mv ?_); refine l_p txs rfl rfl ?_) | ((with_reducible refine g_as ?_); refine l_p txs rfl rfl ?_) | ((with_reducible refine g_ex ?_); refine l_p txs rfl rfl ?_))))
    (with_reducible refine is_l ?_); refine l_callv rfl rfl (by kernel_rfl) (marked_c (c := bc) (row_at H 1 rfl) (fun q hq => held_ok H ((hin q hq).mono fun d hd => List.mem_cons_of_mem _ (List.mem_cons_of_mem _ hd))) (by omega)) (fun w_ K => ?_)
    have H := H.call K
    have hc0 := (row_at H 0 rfl).2 _ rfl 0 (.string kA) rfl
    repeat' (first | ((with_reducible refine g_on ?_); ((with_reducible refine g_mv ?_); refine l_p txs rfl rfl ?_)) | ((with_reducible refine g_if ?_); ((with_reducible refine g_mv ?_); refine l_p txs rfl rfl ?_)))
    (with_reducible refine is_l ?_); refine l_t txs rfl rfl (fun _ => ?_) (fun h => absurd rfl h)
    repeat' (first | ((with_reducible refine g_on ?_); (first | ((with_reducible refine g_mv ?_); refine l_p txs rfl rfl ?_) | ((with_reducible refine g_pk ?_); refine l_p txs rfl rfl ?_))) | ((with_reducible refine g_if ?_); (first | ((with_reducible refine g_mv ?_); refine l_p txs rfl rfl ?_) | ((with_reducible refine g_cl ?_); refine l_p txs rfl rfl ?_))))
    (with_reducible refine is_l ?_); refine l_t txs rfl rfl (fun _ => ?_) (fun h => absurd rfl h)
    repeat' (first | ((with_reducible refine g_on ?_); (first | ((with_reducible refine g_mv ?_); refine l_p txs rfl rfl ?_) | ((with_reducible refine g_pk ?_); refine l_p txs rfl rfl ?_))) | ((with_reducible refine g_if ?_); (first | ((with_reducible refine g_mv ?_); refine l_p txs rfl rfl ?_) | ((with_reducible refine g_ia ?_); refine l_ia txs rfl rfl (by first | omega | assumption | decide) (by first | omega | assumption | decide) ?_))))
    (with_reducible refine is_l ?_); refine l_ld txs rfl rfl hc0 ?_
    skip
    (with_reducible refine is_l ?_); refine l_t txs rfl rfl (fun _ => ?_) (fun h => absurd rfl h)
    repeat' (first | (with_reducible first | refine p_tn ?_ | refine wp_ret ?_ | refine l_nil ?_) | ((with_reducible refine g_on ?_); (first | ((with_reducible refine g_as ?_); refine l_p txs rfl rfl ?_) | ((with_reducible refine g_pk ?_); refine l_p txs rfl rfl ?_))))
    refine end1 rfl rfl ?_
    exact ⟨rfl, H.B⟩
end Go.Proofs.YtnimaenhijlcmaaGreatDoor.K.Kp
end
section
namespace Go.Proofs.YtnimaenhijlcmaaGreatDoor.Op
open Go.ChangeShapes Go.WideShapes Go.ChangeAt Go.RowKit
open Go.Proofs.YtnimaenhijlcmaaGreatDoor.K Go.Proofs.YtnimaenhijlcmaaGreatDoor.Q Go.Proofs.YtnimaenhijlcmaaGreatDoor.Mb Go.Proofs.YtnimaenhijlcmaaGreatDoor.LaidZ Go.Proofs.YtnimaenhijlcmaaGreatDoorW.PrintWords
set_option linter.unusedVariables false
set_option linter.unusedSimpArgs false
theorem part_le {H : Type} {d : DataW H} {l : List (DataW H)} (h : d ∈ l) : Rows.uptoBulk d ≤ Rows.uptoBulkAll l := by
  induction l with
  | nil => cases h
  | cons x r ih =>
    simp only [Rows.uptoBulkAll]
    cases List.mem_cons.1 h with
    | inl e => subst e; omega
    | inr e => have := ih e; omega
theorem strs_le {H : Type} : ∀ l : List ByteArray, l.length ≤ Rows.uptoBulkAll (strs (H := H) l) ∧ ∀ x ∈ l, x.size ≤ Rows.uptoBulkAll (strs (H := H) l)
  | [] => by simp [strs, Rows.uptoBulkAll]
  | s :: l => by
    obtain ⟨h1, h2⟩ := strs_le (H := H) l
    have e : Rows.uptoBulkAll (strs (H := H) (s :: l)) = (s.data.toList.length + 1) + Rows.uptoBulkAll (strs (H := H) l) := by simp only [strs, List.map_cons, Rows.uptoBulkAll, Rows.uptoBulk]
    rw [e, data_length]
    refine ⟨by simp only [List.length_cons]; omega, fun x hx => ?_⟩
    rcases List.mem_cons.1 hx with rfl | hx
    · omega
    · have := h2 x hx; omega
section
variable {H : Type} {enc : TypeId × Value → H} {W : World} {fuel : Nat} {cs : List Value} {x : DataW H × List MemPlace}
set_option maxRecDepth 100000 in
theorem strs_in (hf : DataW.trod enc Tryz.prog W 0 (fun _ => true) true fuel 25 cs = some x) :
    ∃ (A : Option Addr) (c : Nat) (l : List L), cs = [.slice A l.length c] ∧ l.length ≤ c ∧ Rd W A (strC l) ∧ l.length ≤ Rows.uptoBulk x.1 ∧ ∀ y ∈ l, Bytes y ∧ y.length ≤ Rows.uptoBulk x.1 := by
  rcases open_strings Tryz.underlying25 Tryz.underlying9 (by kernel_rfl) hf with ⟨rfl, hx⟩ | ⟨a, len, cap, ss, rfl, _, hl, hm, hz, rfl, hcell, hsz⟩
  · exact ⟨none, 0, [], rfl, Nat.le_refl _, ⟨fun _ => rfl, fun ad e => (by cases e)⟩, by simp, by simp⟩
  · simp only [if_true] at hz
    have hlen : ((ss.take len).map bl).length = len := by rw [List.length_map, List.length_take]; omega
    obtain ⟨h1, h2⟩ := strs_le (H := H) (ss.take len)
    have hb : Rows.uptoBulk (.slice (strs (H := H) (ss.take len)) (strs (ss.drop len))) = Rows.uptoBulkAll (strs (H := H) (ss.take len)) + Rows.uptoBulkAll (strs (H := H) (ss.drop len)) + 1 := by simp only [Rows.uptoBulk]
    refine ⟨some a, cap, (ss.take len).map bl, by rw [hlen], by rw [hlen]; omega, ⟨fun e => (by cases e), fun ad e i v hv => ?_⟩, ?_, fun y hy => ?_⟩
    · injection e with e
      subst e
      have hi : i < len := by
        have := (List.getElem?_eq_some_iff.1 hv).1
        simp only [strC, List.length_map, List.length_take] at this
        omega
      rw [hcell i (by omega)]
      simp only [strC, List.getElem?_map, List.getElem?_take_of_lt hi, Option.map_map, Option.map_eq_some_iff] at hv
      obtain ⟨s, hs, rfl⟩ := hv
      rw [List.getD_eq_getElem?_getD, hs]
      simp [strS]
    · rw [hb, List.length_map]; omega
    · obtain ⟨s, hs, rfl⟩ := List.mem_map.1 hy
      refine ⟨bl_bytes s, ?_⟩
      have := h2 s hs
      rw [bl_length, hb]
      omega
end
end Go.Proofs.YtnimaenhijlcmaaGreatDoor.Op
end
section
namespace Go.Proofs.YtnimaenhijlcmaaGreatDoor.Op
open Go.ChangeShapes Go.WideShapes Go.ChangeAt Go.RowKit
open Go.Proofs.YtnimaenhijlcmaaGreatDoor.K Go.Proofs.YtnimaenhijlcmaaGreatDoor.Q Go.Proofs.YtnimaenhijlcmaaGreatDoor.Mb Go.Proofs.YtnimaenhijlcmaaGreatDoor.LaidZ Go.Proofs.YtnimaenhijlcmaaGreatDoorW.PrintWords
open Go.Proofs.YtnimaenhijlcmaaGreatDoor.K.Rec.Law (opC)
open Go.Proofs.YtnimaenhijlcmaaGreatDoor.K.Rec.Law.All (OpD OpOk recs_at recs_len ad_add)
set_option linter.unusedVariables false
set_option linter.unusedSimpArgs false
theorem bulk_pos {H : Type} (d : DataW H) : 1 ≤ Rows.uptoBulk d := by
  cases d with
  | lit l => cases l <;> simp [Rows.uptoBulk]
  | _ => simp [Rows.uptoBulk]
theorem len_bulk {H : Type} : ∀ l : List (DataW H), l.length ≤ Rows.uptoBulkAll l
  | [] => by simp [Rows.uptoBulkAll]
  | d :: r => by
    have h1 := bulk_pos d
    have h2 := len_bulk r
    simp only [Rows.uptoBulkAll, List.length_cons]
    omega
section
variable {H : Type} {enc : TypeId × Value → H} {W : World} {fuel : Nat} {cs : List Value} {x : DataW H × List MemPlace}
set_option maxRecDepth 100000 in
theorem list_in {α : Type} {t e : TypeId} {m : Nat} (f : α → List Value) (ok : α → Prop) (dflt : α) (ht : Tryz.prog.underlying t = some (.slice e)) (em : Tryz.prog.cellsOf e = m) (hm0 : 0 < m) (hlen : ∀ q, ok q → (f q).length = m)
    (each : ∀ {fuel : Nat} {cs : List Value} {x : DataW H × List MemPlace}, DataW.trod enc Tryz.prog W 0 (fun _ => true) true fuel e cs = some x → Rows.uptoBulk x.1 ≤ 1048576 → ∃ q, cs = f q ∧ ok q)
    (hf : DataW.trod enc Tryz.prog W 0 (fun _ => true) true fuel t cs = some x) (hk : Rows.uptoBulk x.1 ≤ 1048576) :
    ∃ (A : Option Addr) (c : Nat) (l : List α), cs = [.slice A l.length c] ∧ Rd W A (l.flatMap f) ∧ (∀ q ∈ l, ok q) ∧ l.length ≤ 1048576 := by
  rcases DataW.trod_slice ht hf with ⟨rfl, _⟩ | ⟨a, len, cap, elems, rest, n, _, rfl, rfl, _, hl, hm, hle, hel, _, _⟩
  · exact ⟨none, 0, [], rfl, ⟨fun _ => rfl, fun ad e => (by cases e)⟩, (fun _ h => by cases h), by simp⟩
  · have hb : Rows.uptoBulk (DataW.slice (elems.map (·.1)) (rest.map (·.1))) = Rows.uptoBulkAll (elems.map (·.1)) + Rows.uptoBulkAll (rest.map (·.1)) + 1 := by simp only [Rows.uptoBulk]
    simp only at hk
    rw [hb] at hk
    have each2 : ∀ i : Nat, ∃ q : α, i < len → ok q ∧ ∀ (j : Nat) (v : Value), (f q)[j]? = some v → W.cell? ((a.add (i * m)).add j) = some v := fun i => by
      by_cases hi : i < len
      · have h1 := hel i hi
        rw [em, List.getElem?_eq_getElem (by omega), Option.bind_eq_some_iff] at h1
        obtain ⟨cs', hcs, hy⟩ := h1
        have hmem : (elems[i]).1 ∈ elems.map (·.1) := List.mem_map_of_mem (List.getElem_mem _)
        obtain ⟨q, rfl, hq⟩ := each hy (by have := part_le hmem; omega)
        refine ⟨q, fun _ => ⟨hq, fun j v hj => ?_⟩⟩
        have h2 := (World.cells?_some hcs).2.2 j (by have := (List.getElem?_eq_some_iff.1 hj).1; rw [hlen q hq] at this; exact this)
        rw [h2]
        exact hj
      · exact ⟨dflt, fun h => absurd h hi⟩
    obtain ⟨g, hfq⟩ := Classical.axiomOfChoice each2
    have hlist : ∀ i, i < len → ((List.range len).map g)[i]? = some (g i) := fun i hi => by rw [List.getElem?_map, List.getElem?_range hi]; rfl
    have hll : ((List.range len).map g).length = len := by simp
    have hall : ∀ q ∈ (List.range len).map g, ok q := fun q hq => by
      obtain ⟨i, hi, rfl⟩ := List.mem_map.1 hq
      exact (hfq i (List.mem_range.1 hi)).1
    have hms : ∀ q ∈ (List.range len).map g, (f q).length = m := fun q hq => hlen q (hall q hq)
    refine ⟨some a, cap, (List.range len).map g, by rw [hll], ⟨fun e => (by cases e), fun ad e k v hv => ?_⟩, hall, ?_⟩
    · injection e with e
      subst e
      have hkl : k < len * m := by
        have h1 := (List.getElem?_eq_some_iff.1 hv).1
        rw [recs_len hms, hll] at h1
        exact h1
      have hdm : k / m * m + k % m = k := by rw [Nat.mul_comm]; exact Nat.div_add_mod k m
      have hq : k / m < len := (Nat.div_lt_iff_lt_mul hm0).2 hkl
      have hr : k % m < m := Nat.mod_lt _ hm0
      have h1 := recs_at hms (hlist (k / m) hq) (k % m)
      have hfl := hlen _ (hfq (k / m) hq).1
      obtain ⟨v', hv'⟩ : ∃ v', (f (g (k / m)))[k % m]? = some v' := ⟨_, List.getElem?_eq_getElem (by rw [hfl]; exact hr)⟩
      have h2 := h1 _ hv'
      rw [hdm, hv] at h2
      injection h2 with h2
      subst h2
      have h3 := (hfq (k / m) hq).2 _ _ hv'
      rw [ad_add, hdm] at h3
      exact h3
    · rw [hll, ← hle]
      have := len_bulk (elems.map (·.1))
      rw [List.length_map] at this
      omega
end
end Go.Proofs.YtnimaenhijlcmaaGreatDoor.Op
end
section
namespace Go.Proofs.YtnimaenhijlcmaaGreatDoor.Op
open Go.ChangeShapes Go.WideShapes Go.ChangeAt Go.RowKit
open Go.Proofs.YtnimaenhijlcmaaGreatDoor.K Go.Proofs.YtnimaenhijlcmaaGreatDoor.Q Go.Proofs.YtnimaenhijlcmaaGreatDoor.Mb Go.Proofs.YtnimaenhijlcmaaGreatDoor.LaidZ Go.Proofs.YtnimaenhijlcmaaGreatDoorW.PrintWords
open Go.Proofs.YtnimaenhijlcmaaGreatDoor.K.Kp (LstD LstOk lst_len)
set_option linter.unusedVariables false
set_option linter.unusedSimpArgs false
section
variable {H : Type} {enc : TypeId × Value → H} {W : World} {fuel : Nat} {cs : List Value} {x : DataW H × List MemPlace}
theorem lst_in (hf : DataW.trod enc Tryz.prog W 0 (fun _ => true) true fuel 25 cs = some x) (hk : Rows.uptoBulk x.1 ≤ 1048576) : ∃ q : LstD, cs = q.cells ∧ LstOk W q := by
  obtain ⟨S, c, ls, rfl, _, rd, nl, bl_⟩ := strs_in hf
  exact ⟨⟨S, ls, c⟩, rfl, ⟨rd, by show ls.length ≤ _; omega, fun y hy => ⟨(bl_ y hy).1, by have := (bl_ y hy).2; omega⟩⟩⟩
theorem lst_one {W : World} (q : LstD) (_ : LstOk W q) : q.cells.length = 1 := lst_len q
set_option maxRecDepth 100000 in
theorem open_lists {base : Nat} {v : Value} {d : DataW H} {ps : List MemPlace} (hval : Value.okWide Tryz.prog W .any base 30 v) (h : DataW.Trod enc Tryz.prog W 0 (fun _ => true) true 30 v d ps) (hk : Rows.uptoBulk d ≤ 1048576) :
    ∃ (A : Option Addr) (c : Nat) (l : List LstD), v = .slice A l.length c ∧ Rd W A (l.flatMap LstD.cells) ∧ (∀ q ∈ l, LstOk W q) ∧ l.length ≤ 1048576 := by
  obtain ⟨a, len, cap, rfl⟩ := okWide_slice Tryz.underlying30 hval
  obtain ⟨fuel, hf⟩ := h
  obtain ⟨A, c, l, h1, h2⟩ := list_in LstD.cells (LstOk W) ⟨none, [], 0⟩ Tryz.underlying30 (show Tryz.prog.cellsOf 25 = 1 by kernel_rfl) (by decide) lst_one lst_in hf hk
  refine ⟨A, c, l, ?_, h2⟩
  have h3 : (Value.slice a len cap).cells.toList = [Value.slice a len cap] := rfl
  rw [h3] at h1
  exact (List.cons.inj h1).1
end
end Go.Proofs.YtnimaenhijlcmaaGreatDoor.Op
end
