/- Joined texts of mine, 4: Xm, Xo, Ya, Yb, Yc, Yd, Ye, Yf, QL, Yg, Open, Yh, QK, Yj, Ym, Yn, OpenL. -/
import Derived.Lib.Builder
import Derived.Lib.FrozenHead
import Derived.Laws.Pointers
import Derived.Lib.ItoaLen
import Derived.OpenShut
import Derived.ShutString
import Derived.SliceStrings
import Derived.ChangeSlices
import Derived.Below
import Derived.Carry
import Derived.WalkKit
import Derived.ProofKit
import Derived.Deep.DeepHandedRow
import Derived.Laws.IdiomCopy
import Derived.Test.YthgojbdpmcccaaaGreatDoorStr3
section
namespace Go.Proofs.YthgojbdpmcccaaaGreatDoor.K
open Go.RowKit Go.Proofs.YthgojbdpmcccaaaGreatDoor.Q Go.Proofs.YthgojbdpmcccaaaGreatDoor.Wb Go.Proofs.YthgojbdpmcccaaaGreatDoorW.PrintWords
set_option linter.unusedVariables false
set_option linter.unusedSimpArgs false
/-- The bytes with x behind them. -/
def padN (pad : Int) : Nat := if pad < 1100000 then pad.toNat else 1100000
def padS (b : L) (pad : Int) : L := b ++ List.replicate (padN pad) 120
set_option maxHeartbeats 4000000 in
theorem padded_c {w : World} {B : Option Addr} {c : Nat} {b : L} (h : ReadsInt w .u8 B b.length b) (pad : Int) (hs : b.length ≤ 1000000000) :
    Calls Tryz.prog 20 #[.slice B b.length c, .int .i64 pad] w fun e w' => ∃ A1 c1, e = .returned (.slice A1 (padS b pad).length c1) ∧ Hp w w' [] [rowB (.slice A1 (padS b pad).length c1) (padS b pad)] := by
  refine enter (args := [.slice B b.length c, .int .i64 pad]) Tryz.func20 rfl Tryz.ntmps20 rfl ?_
  have H := (Hp.nil w).nilRow 5 1
  repeat' (first | (first | (with_reducible refine p_tn ?_) | (with_reducible refine wp_seq ?_) | (with_reducible refine w_reg ?_)) | (first | (with_reducible refine l_nil ?_) | ((with_reducible refine g_on ?_); (first | ((with_reducible refine g_mv ?_); refine l_p txs rfl rfl ?_) | ((with_reducible refine g_as ?_); refine l_p txs rfl rfl ?_)))))
  (with_reducible refine is_l ?_); refine h_app H 0 rfl info_u8 Tryz.underlying23 rfl rfl rfl rfl (rd_of_reads (h.below H.B)) (by simp [nums]) (by simp [nums, List.all_map]; intros; rfl) (by show (0 + b.length) * 1 ≤ _; omega) (fun v w_ hv H => ?_)
  obtain ⟨A1, c1, rfl⟩ := hv
  have H := H.pick [] [0] (by decide) (by decide) rfl rfl
  simp only [Nat.zero_add, List.nil_append] at H
  rw [Nat.zero_add]
  repeat' (first | (first | (with_reducible refine p_tn ?_) | (with_reducible refine wp_seq ?_) | (with_reducible refine wp_block ?_) | (with_reducible refine w_reg ?_)) | (first | (with_reducible refine l_nil ?_) | ((with_reducible refine g_on ?_); ((with_reducible refine g_as ?_); refine l_p txs rfl rfl ?_))))
  refine w_loop (σ := Nat × Option Addr × Nat) (S := fun s => [(1, .int .i64 pad), (5, .slice s.2.1 (b ++ List.replicate s.1 120).length s.2.2), (6, .int .i64 (s.1 : Int))])
    (J := fun s w' => Hp w w' [] [rowB (.slice s.2.1 (b ++ List.replicate s.1 120).length s.2.2) (b ++ List.replicate s.1 120)] ∧ s.1 ≤ padN pad) (μ := fun s => padN pad - s.1) (0, A1, c1) ⟨rfl, by show Value.slice A1 b.length c1 = _; simp, rfl, trivial⟩ ⟨by simpa using H, by omega⟩ ?_
  rintro ⟨k, A2, c2⟩ f w_ ⟨H, hk⟩
  simp only at H hk ⊢
  have hp : padN pad ≤ 1100000 := by unfold padN; split <;> omega
  have fin : padN pad ≤ k → ∃ A1' c1', Value.slice A2 (b ++ List.replicate k 120).length c2 = Value.slice A1' (padS b pad).length c1' ∧ Hp w w_ [] [rowB (.slice A1' (padS b pad).length c1') (padS b pad)] := by
    intro hle
    have : k = padN pad := by omega
    subst this
    exact ⟨A2, c2, rfl, H⟩
  repeat' (first | (first | (with_reducible refine wp_seq ?_) | (with_reducible refine w_reg ?_)) | ((with_reducible refine g_on ?_); ((with_reducible refine g_mv ?_); refine l_p txs rfl rfl ?_)))
  (with_reducible refine is_l ?_); refine l_t txs rfl rfl (fun h1 => ?_) (fun h1 => ?_)
  · repeat' (first | ((with_reducible refine g_on ?_); ((with_reducible refine g_mv ?_); refine l_p txs rfl rfl ?_)) | ((with_reducible refine g_if ?_); ((with_reducible refine g_mv ?_); refine l_p txs rfl rfl ?_)))
    (with_reducible refine is_l ?_); refine l_t txs rfl rfl (fun h2 => ?_) (fun h2 => ?_)
    · have hlt : k < padN pad := by unfold padN; split <;> omega
      have hlen : (b ++ List.replicate k (120 : Int)).length = b.length + k := by simp
      repeat' (first | (first | (with_reducible refine p_tn ?_) | (with_reducible refine wp_seq ?_) | (with_reducible refine wp_block ?_) | (with_reducible refine w_reg ?_) | (with_reducible (refine is_if ?_; (refine w_ift rfl ?_))) | (with_reducible refine wp_skip ?_)) | (first | (with_reducible refine l_nil ?_) | ((with_reducible refine g_on ?_); (first | ((with_reducible refine g_mv ?_); refine l_p txs rfl rfl ?_) | ((with_reducible refine g_pk ?_); refine l_p txs rfl rfl ?_)))))
      (with_reducible refine is_l ?_); refine h_bs H info_u8 Tryz.underlying23 (by decide) (by decide) rfl rfl (by kernel_rfl) (fun g_ w_ H => ?_)
      (with_reducible refine is_l ?_); refine h_app H 0 rfl info_u8 Tryz.underlying23 rfl rfl rfl rfl (H.cellRd 0 rfl) rfl rfl (by show ((b ++ List.replicate k (120 : Int)).length + 1) * 1 ≤ _; omega) (fun v w_ hv H => ?_)
      obtain ⟨A', c', rfl⟩ := hv
      have e1 : b ++ List.replicate (k + 1) (120 : Int) = (b ++ List.replicate k 120) ++ [120] := by rw [List.append_assoc, List.replicate_succ']
      have e2 : (b ++ List.replicate (k + 1) (120 : Int)).length = (b ++ List.replicate k (120 : Int)).length + 1 := by simp; omega
      have H := H.pick [] [0] (by decide) (by decide) rfl rfl
      repeat' (first | (first | (with_reducible refine p_tn ?_) | (with_reducible refine p_bn ?_) | (with_reducible refine w_reg ?_)) | (first | (with_reducible refine l_nil ?_) | ((with_reducible refine g_on ?_); (first | ((with_reducible refine g_mv ?_); refine l_p txs rfl rfl ?_) | ((with_reducible refine g_as ?_); refine l_p txs rfl rfl ?_) | ((with_reducible refine g_bi ?_); (refine l_a txs rfl rfl (by first | exact in_i64 (by omega) (by omega) | exact in_u8 (by omega) (by omega) | exact in_u64 (by omega) (by omega) | exact in_i32 (by omega) (by omega)) ?_))))))
      refine ⟨(k + 1, A', c'), _, rfl, ⟨rfl, ?_, rfl, trivial⟩, ⟨?_, by show k + 1 ≤ _; omega⟩, by show _ - (k + 1) < _ - k; omega⟩
      · show Value.slice A' ((b ++ List.replicate k (120 : Int)).length + 1) c' = Value.slice A' (b ++ List.replicate (k + 1) (120 : Int)).length c'
        rw [e2]
      · show Hp w _ [] [rowB (.slice A' (b ++ List.replicate (k + 1) (120 : Int)).length c') (b ++ List.replicate (k + 1) (120 : Int))]
        unfold rowB
        rw [e2, e1]
        have e3 : nums .u8 ((b ++ List.replicate k (120 : Int)) ++ [120]) = nums .u8 (b ++ List.replicate k 120) ++ [.int .u8 120] := by rw [nums_append]; rfl
        rw [e3]
        exact H
    · repeat' (first | (first | (with_reducible refine p_tn ?_) | (with_reducible refine p_tx ?_) | (with_reducible refine x_hit ?_) | (with_reducible refine wp_seq ?_) | (with_reducible refine w_reg ?_) | (with_reducible (refine is_if ?_; (refine w_iff rfl ?_))) | (with_reducible refine wp_exit ?_) | (with_reducible refine wp_ret ?_)) | (first | (with_reducible refine l_nil ?_) | ((with_reducible refine g_on ?_); (first | ((with_reducible refine g_mv ?_); refine l_p txs rfl rfl ?_) | ((with_reducible refine g_as ?_); refine l_p txs rfl rfl ?_) | ((with_reducible refine g_pk ?_); refine l_p txs rfl rfl ?_)))))
      refine end1 rfl rfl ?_
      obtain ⟨A', c', e1, e2⟩ := fin (by unfold padN; split <;> omega)
      exact ⟨A', c', by rw [e1], e2⟩
  · repeat' (first | (first | (with_reducible refine p_tn ?_) | (with_reducible refine p_tx ?_) | (with_reducible refine x_hit ?_) | (with_reducible refine wp_seq ?_) | (with_reducible refine w_reg ?_) | (with_reducible (refine is_if ?_; (refine w_iff rfl ?_))) | (with_reducible refine wp_exit ?_) | (with_reducible refine wp_ret ?_)) | (first | (with_reducible refine l_nil ?_) | ((with_reducible refine g_on ?_); (first | ((with_reducible refine g_mv ?_); refine l_p txs rfl rfl ?_) | ((with_reducible refine g_as ?_); refine l_p txs rfl rfl ?_) | ((with_reducible refine g_pk ?_); refine l_p txs rfl rfl ?_))) | ((with_reducible refine g_if ?_); (refine l_off rfl ?_))))
    refine end1 rfl rfl ?_
    obtain ⟨A', c', e1, e2⟩ := fin (by unfold padN; split <;> omega)
    exact ⟨A', c', by rw [e1], e2⟩
def knownB : L := [80, 85, 84, 32, 47, 97, 32, 72, 84, 84, 80, 47, 49, 46, 49, 13, 10, 72, 111, 115, 116, 58, 32, 98, 13, 10, 67, 111, 110, 116, 101, 110, 116, 45, 76, 101, 110, 103, 116, 104, 58, 32, 50, 13, 10, 13, 10, 104, 105, 33]
theorem known_parse : parseReqS knownB = .ok (⟨[80, 85, 84], [47, 97], 1, [([72, 111, 115, 116], [98]), ([67, 111, 110, 116, 101, 110, 116, 45, 76, 101, 110, 103, 116, 104], [50])], [104, 105], false⟩, 49) := by kernel_rfl
theorem info_u8a : (Tryz.prog.info? 5).map (·.size) = some 1 := by kernel_rfl
theorem info_u8b : ((Tryz.prog.info? 5).bind (·.zero)).isSome = true := by kernel_rfl
set_option maxRecDepth 100000 in
set_option maxHeartbeats 8000000 in
theorem known_c {A : Nat → Addr} {w : World} (hE : LayS A w) {mx : Int} (hM : w.cell? ⟨20, 0, none⟩ = some (.int .i64 mx)) {tM : TypeId} {frM : Nat × Nat} (hT : w.heap[17]? = some (.cells meC tM frM)) :
    Calls Tryz.prog 13 #[] w fun e w' => e = .returned (.bool true) ∧ Below w.heap.size w w' := by
  have hTb : ∀ w1, Below w.heap.size w w1 → w1.heap[17]? = some (.cells meC tM frM) := fun w1 K => (K.block _ (blk_lt hT)).trans hT
  refine enter (args := []) Tryz.func13 rfl Tryz.ntmps13 rfl ?_
  have H := Hp.nil w
  repeat' (first | (first | (with_reducible refine p_tn ?_) | (with_reducible refine wp_seq ?_) | (with_reducible refine w_reg ?_)) | (first | (with_reducible refine l_nil ?_) | ((with_reducible refine g_on ?_); ((with_reducible refine g_as ?_); refine l_p txs rfl rfl ?_))))
  refine h_bytes H knownB Tryz.underlying23 Tryz.underlying5 info_u8a info_u8b rfl (by decide) (by decide) (by kernel_rfl) rfl (fun g_ w_ H hR => ?_)
  have hcall := ParseRequest_c (hE.below H.B) (H.old hM) (hTb _ H.B) (b := knownB) (c := 50) hR (by decide) (fun e => by cases e) (by unfold Bytes; decide) (by decide)
  (with_reducible refine is_l ?_); refine l_call rfl rfl (by kernel_rfl) hcall (fun e w_ hR => ?_)
  unfold PrR at hR
  rw [known_parse] at hR
  obtain ⟨Bf, cf, Bb, cb, rfl, K⟩ := hR
  refine ⟨_, rfl, ?_⟩
  have H := H.join K
  have O1 := H.row 1 _ rfl
  repeat' (first | (first | (with_reducible refine p_tn ?_) | (with_reducible refine wp_seq ?_) | (with_reducible refine w_reg ?_)) | (first | (with_reducible refine l_nil ?_) | ((with_reducible refine g_on ?_); (first | ((with_reducible refine g_mv ?_); refine l_p txs rfl rfl ?_) | ((with_reducible refine g_as ?_); refine l_p txs rfl rfl ?_) | ((with_reducible refine g_ex ?_); refine l_p txs rfl rfl ?_) | ((with_reducible refine g_st ?_); (refine h_stR recs H 0 rfl rfl rfl rfl rfl rfl rfl rfl rfl (fun w_ H => ?_))) | ((with_reducible refine g_al ?_); refine h_alloc recs H rfl rfl (fun g_ w_ H => ?_))))))
  (with_reducible refine is_l ?_); refine l_t txs rfl rfl (fun _ => ?_) (fun hh => absurd rfl hh)
  repeat' (first | ((with_reducible refine g_on ?_); ((with_reducible refine g_mv ?_); refine l_p txs rfl rfl ?_)) | ((with_reducible refine g_if ?_); ((with_reducible refine g_mv ?_); refine l_p txs rfl rfl ?_)))
  (with_reducible refine is_l ?_); refine l_t txs rfl rfl (fun _ => ?_) (fun hh => absurd rfl hh)
  repeat' (first | ((with_reducible refine g_on ?_); (first | ((with_reducible refine g_mv ?_); refine l_p txs rfl rfl ?_) | ((with_reducible refine g_pk ?_); refine l_p txs rfl rfl ?_))) | ((with_reducible refine g_if ?_); (first | ((with_reducible refine g_fa ?_); refine h_fa flds rfl rfl ?_) | ((with_reducible refine g_ld ?_); (refine h_ld txs H 0 rfl rfl rfl rfl ?_)))))
  (with_reducible refine is_l ?_); refine l_t txs rfl rfl (fun _ => ?_) (fun hh => absurd rfl hh)
  repeat' (first | ((with_reducible refine g_on ?_); (first | ((with_reducible refine g_mv ?_); refine l_p txs rfl rfl ?_) | ((with_reducible refine g_pk ?_); refine l_p txs rfl rfl ?_))) | ((with_reducible refine g_if ?_); (first | ((with_reducible refine g_fa ?_); refine h_fa flds rfl rfl ?_) | ((with_reducible refine g_ld ?_); (refine h_ld txs H 0 rfl rfl rfl rfl ?_)))))
  (with_reducible refine is_l ?_); refine l_t txs rfl rfl (fun _ => ?_) (fun hh => absurd rfl hh)
  repeat' (first | ((with_reducible refine g_on ?_); (first | ((with_reducible refine g_mv ?_); refine l_p txs rfl rfl ?_) | ((with_reducible refine g_pk ?_); refine l_p txs rfl rfl ?_))) | ((with_reducible refine g_if ?_); (first | ((with_reducible refine g_fa ?_); refine h_fa flds rfl rfl ?_) | ((with_reducible refine g_ld ?_); (refine h_ld txs H 0 rfl rfl rfl rfl ?_)))))
  (with_reducible refine is_l ?_); refine l_t txs rfl rfl (fun _ => ?_) (fun hh => absurd rfl hh)
  repeat' (first | ((with_reducible refine g_on ?_); (first | ((with_reducible refine g_mv ?_); refine l_p txs rfl rfl ?_) | ((with_reducible refine g_pk ?_); refine l_p txs rfl rfl ?_))) | ((with_reducible refine g_if ?_); (first | ((with_reducible refine g_fa ?_); refine h_fa flds rfl rfl ?_) | ((with_reducible refine g_ld ?_); (refine h_ld txs H 0 rfl rfl rfl rfl ?_)) | ((with_reducible refine g_cl ?_); refine l_p txs rfl rfl ?_))))
  (with_reducible refine is_l ?_); refine l_t txs rfl rfl (fun _ => ?_) (fun hh => absurd rfl hh)
  repeat' (first | ((with_reducible refine g_on ?_); (first | ((with_reducible refine g_mv ?_); refine l_p txs rfl rfl ?_) | ((with_reducible refine g_pk ?_); refine l_p txs rfl rfl ?_))) | ((with_reducible refine g_if ?_); (first | ((with_reducible refine g_fa ?_); refine h_fa flds rfl rfl ?_) | ((with_reducible refine g_ld ?_); (refine h_ld txs H 0 rfl rfl rfl rfl ?_)))))
  obtain ⟨A3, c3, e3, _, R3⟩ := own_reads_of_le (enc := Value.int .u8) (d := (0 : Int)) (xs := [104, 105]) (H.row 1 _ rfl)
  cases e3
  (with_reducible refine is_l ?_); refine l_text rfl rfl Tryz.underlying23 Tryz.underlying5 Tryz.underlying9 (readsInt_of.2 R3) ?_
  skip
  (with_reducible refine is_l ?_); refine l_t txs rfl rfl (fun _ => ?_) (fun hh => absurd rfl hh)
  repeat' (first | (first | (with_reducible refine p_tn ?_) | (with_reducible refine wp_ret ?_)) | (first | (with_reducible refine l_nil ?_) | ((with_reducible refine g_on ?_); (first | ((with_reducible refine g_mv ?_); refine l_p txs rfl rfl ?_) | ((with_reducible refine g_as ?_); refine l_p txs rfl rfl ?_) | ((with_reducible refine g_pk ?_); refine l_p txs rfl rfl ?_))) | ((with_reducible refine g_if ?_); (first | ((with_reducible refine g_fa ?_); refine h_fa flds rfl rfl ?_) | ((with_reducible refine g_ld ?_); (refine h_ld txs H 0 rfl rfl rfl rfl ?_)) | ((with_reducible refine g_un ?_); (refine l_p txs rfl rfl ?_))))))
  refine end1 rfl rfl ?_
  exact ⟨rfl, H.B⟩
end Go.Proofs.YthgojbdpmcccaaaGreatDoor.K
end
section
namespace Go.Proofs.YthgojbdpmcccaaaGreatDoor.K
open Go.RowKit Go.Proofs.YthgojbdpmcccaaaGreatDoor.Q Go.Proofs.YthgojbdpmcccaaaGreatDoor.Wb Go.Proofs.YthgojbdpmcccaaaGreatDoorW.PrintWords
set_option linter.unusedVariables false
set_option linter.unusedSimpArgs false
def zR : ReqS := ⟨[], [], 0, [], [], false⟩
/-- What is answered, an error as a number. -/
def outReq (b : L) : ReqS × Nat × Nat := match parseReqS b with | .ok (r, n) => (r, n, 0) | .error k => (zR, 0, k)
abbrev rowsR (F : Option Addr) (f : Nat) (l : List Fld) (B : Option Addr) (c : Nat) (b : L) : List RowD := [rowF (.slice F l.length f) l, rowB (.slice B b.length c) b]
theorem prR_out {w : World} {b : L} {e : Ending} {w' : World} (h : PrR w b e w') : ∃ F f B c, e = .returned (.tuple #[.agg (reqA (outReq b).1 F f B c), .int .i64 ((outReq b).2.1 : Int), .int .i64 ((outReq b).2.2 : Int)]) ∧ Hp w w' [] (rowsR F f (outReq b).1.fields B c (outReq b).1.body) := by
  unfold PrR at h
  unfold outReq
  cases hp : parseReqS b with
  | error k =>
    rw [hp] at h
    obtain ⟨rfl, H⟩ := h
    exact ⟨none, 0, none, 0, rfl, ((H.nilRow 5 1).nilRow 95 2).pick [] [0, 1] (by decide) (by decide) rfl rfl⟩
  | ok z =>
    obtain ⟨r, n⟩ := z
    rw [hp] at h
    obtain ⟨F, f, B, c, rfl, H⟩ := h
    exact ⟨F, f, B, c, rfl, H⟩
theorem rowF_rd {w0 w : World} {l : List Ent} {r : List RowD} (H : Hp w0 w l r) (k : Nat) {F : Option Addr} {f : Nat} {x : List Fld} (hk : r[k]? = some (rowF (.slice F x.length f) x)) : Rd w F (fldC x) := by
  obtain ⟨A0, c0, he, _, hr, _⟩ := H.rd k hk
  cases he
  exact hr
theorem rowB_rd {w0 w : World} {l : List Ent} {r : List RowD} (H : Hp w0 w l r) (k : Nat) {F : Option Addr} {f : Nat} {x : L} (hk : r[k]? = some (rowB (.slice F x.length f) x)) : ReadsInt w .u8 F x.length x ∧ x.length ≤ f ∧ (F = none → f = 0 ∧ x.length = 0) := by
  obtain ⟨A0, c0, he, hle, hr, hn⟩ := H.rd k hk
  cases he
  obtain ⟨A3, c3, e3, _, R3⟩ := own_reads_of_le (enc := Value.int .u8) (d := (0 : Int)) (xs := x) (H.row k _ hk)
  cases e3
  exact ⟨readsInt_of.2 R3, hle, hn⟩
end Go.Proofs.YthgojbdpmcccaaaGreatDoor.K
end
section
namespace Go.Proofs.YthgojbdpmcccaaaGreatDoor.K
open Go.RowKit Go.Proofs.YthgojbdpmcccaaaGreatDoor.Q Go.Proofs.YthgojbdpmcccaaaGreatDoor.Wb Go.Proofs.YthgojbdpmcccaaaGreatDoorW.PrintWords
set_option linter.unusedVariables false
set_option linter.unusedSimpArgs false
theorem headLen_cons (x : Fld) (l : List Fld) : headLen (x :: l) = (x.1.length + 2 + x.2.length + 2) + headLen l := by
  unfold headLen; simp only [List.map_cons, List.sum_cons]; omega
theorem headLen_take {l : List Fld} {i : Nat} {x : Fld} (h : l[i]? = some x) : headLen (l.take (i + 1)) = headLen (l.take i) + (x.1.length + 2 + x.2.length + 2) := by
  have hi : i < l.length := (List.getElem?_eq_some_iff.1 h).1
  have hx : l[i] = x := (List.getElem?_eq_some_iff.1 h).2
  unfold headLen
  rw [List.take_succ_eq_append_getElem hi, hx]
  simp only [List.map_append, List.map_cons, List.map_nil, List.sum_append, List.sum_cons, List.sum_nil]
  omega
theorem headLen_le {l : List Fld} (hb : BytesF l) : headLen l ≤ 2 + l.length * 200000004 := by
  induction l with
  | nil => simp [headLen]
  | cons x l ih =>
    have hx := hb x (by simp)
    have := ih (fun y hy => hb y (by simp [hy]))
    rw [headLen_cons, List.length_cons]
    omega
set_option maxHeartbeats 4000000 in
theorem long_c {w : World} {B : Option Addr} {c : Nat} {l : List Fld} (h : Rd w B (fldC l)) (hb : BytesF l) (hl : l.length ≤ 10000000) :
    Calls Tryz.prog 66 #[.slice B l.length c] w fun e w' => e = .returned (.bool (decide (16384 < headLen l))) ∧ Below w.heap.size w w' := by
  refine enter (args := [.slice B l.length c]) Tryz.func66 rfl Tryz.ntmps66 rfl ?_
  have H := Hp.nil w
  repeat' (first | (first | (with_reducible refine p_tn ?_) | (with_reducible refine wp_seq ?_) | (with_reducible refine wp_block ?_) | (with_reducible refine w_reg ?_)) | (first | (with_reducible refine l_nil ?_) | ((with_reducible refine g_on ?_); (first | ((with_reducible refine g_mv ?_); refine l_p txs rfl rfl ?_) | ((with_reducible refine g_as ?_); refine l_p txs rfl rfl ?_) | ((with_reducible refine g_cl ?_); refine l_p txs rfl rfl ?_)))))
  refine w_loop (σ := Nat) (S := fun s => [(3, .int .i64 (headLen (l.take s) : Int)), (6, .slice B l.length c), (7, .int .i64 (l.length : Int)), (8, .int .i64 (s : Int))]) (J := fun s w' => Hp w w' [] [] ∧ s ≤ l.length) (μ := fun s => l.length - s) 0 ⟨rfl, rfl, rfl, rfl, trivial⟩ ⟨H, by omega⟩ ?_
  rintro i f w_ ⟨H, hi⟩
  repeat' (first | (with_reducible refine wp_seq ?_) | (with_reducible refine w_reg ?_))
  (with_reducible refine is_l ?_); refine l_t txs rfl rfl (fun hlt => ?_) (fun hge => ?_)
  · obtain ⟨x, hx⟩ : ∃ x, l[i]? = some x := ⟨_, List.getElem?_eq_getElem (by omega)⟩
    obtain ⟨a1, rfl⟩ := rd_some h (i := i) (by omega)
    obtain ⟨bx1, bx2, lx1, lx2⟩ := hb x (List.mem_of_getElem? hx)
    have zx1 := sizeS' bx1
    have zx2 := sizeS' bx2
    have ht := headLen_take hx
    have hle := headLen_le (l := l.take i) (fun y hy => hb y (List.mem_of_mem_take hy))
    rw [List.length_take_of_le (by omega)] at hle
    repeat' (first | (first | (with_reducible refine p_tn ?_) | (with_reducible refine wp_seq ?_) | (with_reducible refine wp_block ?_) | (with_reducible refine w_reg ?_) | (with_reducible (refine is_if ?_; (refine w_ift rfl ?_))) | (with_reducible refine wp_skip ?_)) | (first | (with_reducible refine l_nil ?_) | ((with_reducible refine g_on ?_); ((with_reducible refine g_ia ?_); refine l_ia txs rfl rfl (by first | omega | assumption | decide) (by first | omega | assumption | decide) ?_))))
    rw [Int.toNat_natCast]
    (with_reducible refine is_l ?_); refine h_ldA recs (fld_part (h.below H.B) hx) rfl rfl rfl rfl ?_
    repeat' (first | (first | (with_reducible refine p_tn ?_) | (with_reducible refine p_bn ?_) | (with_reducible refine w_reg ?_)) | (first | (with_reducible refine l_nil ?_) | ((with_reducible refine g_on ?_); (first | ((with_reducible refine g_mv ?_); refine l_p txs rfl rfl ?_) | ((with_reducible refine g_as ?_); refine l_p txs rfl rfl ?_) | ((with_reducible refine g_fa ?_); refine h_fa flds rfl rfl ?_) | ((with_reducible refine g_ld ?_); (refine h_ld txs H 0 rfl rfl rfl rfl ?_)) | ((with_reducible refine g_st ?_); (refine h_stR recs H 0 rfl rfl rfl rfl rfl rfl rfl rfl rfl (fun w_ H => ?_))) | ((with_reducible refine g_al ?_); refine h_alloc recs H rfl rfl (fun g_ w_ H => ?_)) | ((with_reducible refine g_cl ?_); refine l_p txs rfl rfl ?_) | ((with_reducible refine g_bi ?_); (refine l_a txs rfl rfl (by first | exact in_i64 (by omega) (by omega) | exact in_u8 (by omega) (by omega) | exact in_u64 (by omega) (by omega) | exact in_i32 (by omega) (by omega)) ?_))))))
    refine ⟨i + 1, _, rfl, ⟨?_, rfl, rfl, rfl, trivial⟩, ⟨H.pick [] [] (by decide) (by decide) rfl rfl, by omega⟩, by omega⟩
    show Value.int .i64 _ = Value.int .i64 _
    congr 1
    omega
  · have hall : l.take i = l := List.take_of_length_le (by omega)
    rw [hall]
    repeat' (first | (first | (with_reducible refine p_tn ?_) | (with_reducible refine p_tx ?_) | (with_reducible refine x_hit ?_) | (with_reducible refine wp_seq ?_) | (with_reducible refine w_reg ?_) | (with_reducible (refine is_if ?_; (refine w_iff rfl ?_))) | (with_reducible refine wp_exit ?_)) | (first | (with_reducible refine l_nil ?_) | ((with_reducible refine g_on ?_); ((with_reducible refine g_mv ?_); refine l_p txs rfl rfl ?_))))
    (with_reducible refine is_l ?_); refine l_t txs rfl rfl (fun h1 => ?_) (fun h1 => ?_)
    · repeat' (first | (first | (with_reducible refine p_tn ?_) | (with_reducible refine wp_ret ?_)) | (first | (with_reducible refine l_nil ?_) | ((with_reducible refine g_on ?_); ((with_reducible refine g_as ?_); refine l_p txs rfl rfl ?_))))
      refine end1 rfl rfl ?_
      exact ⟨by rw [decide_eq_true (by omega)], H.B⟩
    · repeat' (first | (first | (with_reducible refine p_tn ?_) | (with_reducible refine wp_ret ?_)) | (first | (with_reducible refine l_nil ?_) | ((with_reducible refine g_on ?_); ((with_reducible refine g_as ?_); refine l_p txs rfl rfl ?_))))
      refine end1 rfl rfl ?_
      exact ⟨by rw [decide_eq_false (by omega)], H.B⟩
/-- What checkFields says. -/
def chkS (l : List Fld) : Option Nat := if 64 < l.length then some 4 else if l.all goodF then none else some 8
def errO (A : Nat → Addr) : Option Nat → Value
  | none => .nilIface
  | some k => errV (A k)
set_option maxHeartbeats 4000000 in
theorem checkFields_c {A : Nat → Addr} {w : World} (hE : LayS A w) {B : Option Addr} {c : Nat} {l : List Fld} (h : Rd w B (fldC l)) (hb : BytesF l) :
    Calls Tryz.prog 68 #[.slice B l.length c] w fun e w' => e = .returned (errO A (chkS l)) ∧ Below w.heap.size w w' := by
  have c4 := (hE.sent 4 (by decide) (by decide)).cell
  have c8 := (hE.sent 8 (by decide) (by decide)).cell
  refine enter (args := [.slice B l.length c]) Tryz.func68 rfl Tryz.ntmps68 rfl ?_
  have H := Hp.nil w
  repeat' (first | (first | (with_reducible refine p_tn ?_) | (with_reducible refine wp_seq ?_) | (with_reducible refine w_reg ?_)) | (first | (with_reducible refine l_nil ?_) | ((with_reducible refine g_on ?_); (first | ((with_reducible refine g_mv ?_); refine l_p txs rfl rfl ?_) | ((with_reducible refine g_as ?_); refine l_p txs rfl rfl ?_) | ((with_reducible refine g_cl ?_); refine l_p txs rfl rfl ?_)))))
  (with_reducible refine is_l ?_); refine l_t txs rfl rfl (fun hbig => ?_) (fun hbig => ?_)
  · have he : chkS l = some 4 := by unfold chkS; rw [if_pos (by omega)]
    repeat' (first | (first | (with_reducible refine p_tn ?_) | (with_reducible refine wp_seq ?_) | (with_reducible refine w_reg ?_) | (with_reducible (refine is_if ?_; (refine w_ift rfl ?_)))) | (with_reducible refine l_nil ?_))
    (with_reducible refine is_l ?_); refine l_ld txs rfl rfl (H.old c4) ?_
    repeat' (first | (first | (with_reducible refine p_tn ?_) | (with_reducible refine p_tr ?_) | (with_reducible refine wp_ret ?_)) | (first | (with_reducible refine l_nil ?_) | ((with_reducible refine g_on ?_); ((with_reducible refine g_as ?_); refine l_p txs rfl rfl ?_))))
    refine end1 rfl rfl ?_
    exact ⟨by rw [he]; rfl, H.B⟩
  · have he : chkS l = if l.all goodF then none else some 8 := by unfold chkS; rw [if_neg (by omega)]
    repeat' (first | (first | (with_reducible refine p_tn ?_) | (with_reducible refine wp_seq ?_) | (with_reducible refine wp_block ?_) | (with_reducible refine w_reg ?_) | (with_reducible (refine is_if ?_; (refine w_iff rfl ?_))) | (with_reducible refine wp_skip ?_)) | (first | (with_reducible refine l_nil ?_) | ((with_reducible refine g_on ?_); (first | ((with_reducible refine g_mv ?_); refine l_p txs rfl rfl ?_) | ((with_reducible refine g_cl ?_); refine l_p txs rfl rfl ?_)))))
    refine w_loop (σ := Nat) (S := fun s => [(9, .slice B l.length c), (10, .int .i64 (l.length : Int)), (11, .int .i64 (s : Int))]) (J := fun s w' => Hp w w' [] [] ∧ s ≤ l.length ∧ l.all goodF = (l.drop s).all goodF) (μ := fun s => l.length - s) 0 ⟨rfl, rfl, rfl, trivial⟩ ⟨H, by omega, rfl⟩ ?_
    rintro i f w_ ⟨H, hi, hD⟩
    repeat' (first | (with_reducible refine wp_seq ?_) | (with_reducible refine w_reg ?_))
    (with_reducible refine is_l ?_); refine l_t txs rfl rfl (fun hlt => ?_) (fun hge => ?_)
    · obtain ⟨x, hx⟩ : ∃ x, l[i]? = some x := ⟨_, List.getElem?_eq_getElem (by omega)⟩
      obtain ⟨a1, rfl⟩ := rd_some h (i := i) (by omega)
      obtain ⟨bx1, bx2, lx1, lx2⟩ := hb x (List.mem_of_getElem? hx)
      have zx1 := sizeS' bx1
      have zx2 := sizeS' bx2
      have hdrop : l.drop i = x :: l.drop (i + 1) := by
        have hil : i < l.length := by omega
        rw [List.drop_eq_getElem_cons hil]
        congr 1
        rw [List.getElem?_eq_getElem hil] at hx
        exact Option.some.inj hx
      rw [hdrop, List.all_cons] at hD
      repeat' (first | (first | (with_reducible refine p_tn ?_) | (with_reducible refine wp_seq ?_) | (with_reducible refine wp_block ?_) | (with_reducible refine w_reg ?_) | (with_reducible (refine is_if ?_; (refine w_ift rfl ?_))) | (with_reducible refine wp_skip ?_)) | (first | (with_reducible refine l_nil ?_) | ((with_reducible refine g_on ?_); ((with_reducible refine g_ia ?_); refine l_ia txs rfl rfl (by first | omega | assumption | decide) (by first | omega | assumption | decide) ?_))))
      rw [Int.toNat_natCast]
      (with_reducible refine is_l ?_); refine h_ldA recs (fld_part (h.below H.B) hx) rfl rfl rfl rfl ?_
      repeat' (first | (first | (with_reducible refine p_tn ?_) | (with_reducible refine wp_seq ?_) | (with_reducible refine w_reg ?_)) | (first | (with_reducible refine l_nil ?_) | ((with_reducible refine g_on ?_); (first | ((with_reducible refine g_fa ?_); refine h_fa flds rfl rfl ?_) | ((with_reducible refine g_ld ?_); (refine h_ld txs H 0 rfl rfl rfl rfl ?_)) | ((with_reducible refine g_st ?_); (refine h_stR recs H 0 rfl rfl rfl rfl rfl rfl rfl rfl rfl (fun w_ H => ?_))) | ((with_reducible refine g_al ?_); refine h_alloc recs H rfl rfl (fun g_ w_ H => ?_))))))
      have ht := token_c (strOfNums x.1) w_ (by omega)
      rw [blS bx1] at ht
      have bad : goodF x = false → ∃ (k : Nat), errO A (chkS l) = errV (A 8) := fun hg => ⟨0, by rw [he, hD, hg]; rfl⟩
      cases hk : tokS x.1
      · have hg : goodF x = false := by unfold goodF; rw [hk]; rfl
        rw [hk] at ht
        (with_reducible refine is_l ?_); refine l_callp rfl rfl (by kernel_rfl) ht ?_
        repeat' (first | (first | (with_reducible refine p_tn ?_) | (with_reducible refine wp_seq ?_) | (with_reducible refine w_reg ?_) | (with_reducible (refine is_if ?_; (refine w_ift rfl ?_)))) | (first | (with_reducible refine l_nil ?_) | ((with_reducible refine g_on ?_); (first | ((with_reducible refine g_mv ?_); refine l_p txs rfl rfl ?_) | ((with_reducible refine g_pk ?_); refine l_p txs rfl rfl ?_) | ((with_reducible refine g_un ?_); (refine l_p txs rfl rfl ?_)))) | ((with_reducible refine g_if ?_); (refine l_off rfl ?_))))
        (with_reducible refine is_l ?_); refine l_ld txs rfl rfl (H.old c8) ?_
        repeat' (first | (first | (with_reducible refine p_tn ?_) | (with_reducible refine p_tr ?_) | (with_reducible refine p_br ?_) | (with_reducible refine wp_ret ?_)) | (first | (with_reducible refine l_nil ?_) | ((with_reducible refine g_on ?_); ((with_reducible refine g_as ?_); refine l_p txs rfl rfl ?_))))
        refine end1 rfl rfl ?_
        obtain ⟨_, hbad⟩ := bad hg
        exact ⟨by rw [hbad], H.B⟩
      · rw [hk] at ht
        (with_reducible refine is_l ?_); refine l_callp rfl rfl (by kernel_rfl) ht ?_
        repeat' (first | ((with_reducible refine g_on ?_); (first | ((with_reducible refine g_mv ?_); refine l_p txs rfl rfl ?_) | ((with_reducible refine g_un ?_); (refine l_p txs rfl rfl ?_)))) | ((with_reducible refine g_if ?_); (first | ((with_reducible refine g_fa ?_); refine h_fa flds rfl rfl ?_) | ((with_reducible refine g_ld ?_); (refine h_ld txs H 0 rfl rfl rfl rfl ?_)))))
        have ha := all_c (strOfNums x.2) 121 valB kind_value w_ (by omega)
        rw [blS bx2] at ha
        cases hv : x.2.all valB
        · have hg : goodF x = false := by unfold goodF; rw [hk, hv]; rfl
          rw [hv] at ha
          (with_reducible refine is_l ?_); refine l_callp rfl rfl (by kernel_rfl) ha ?_
          repeat' (first | (first | (with_reducible refine p_tn ?_) | (with_reducible refine wp_seq ?_) | (with_reducible refine w_reg ?_) | (with_reducible (refine is_if ?_; (refine w_ift rfl ?_)))) | (first | (with_reducible refine l_nil ?_) | ((with_reducible refine g_on ?_); ((with_reducible refine g_pk ?_); refine l_p txs rfl rfl ?_)) | ((with_reducible refine g_if ?_); ((with_reducible refine g_un ?_); (refine l_p txs rfl rfl ?_)))))
          (with_reducible refine is_l ?_); refine l_ld txs rfl rfl (H.old c8) ?_
          repeat' (first | (first | (with_reducible refine p_tn ?_) | (with_reducible refine p_tr ?_) | (with_reducible refine p_br ?_) | (with_reducible refine wp_ret ?_)) | (first | (with_reducible refine l_nil ?_) | ((with_reducible refine g_on ?_); ((with_reducible refine g_as ?_); refine l_p txs rfl rfl ?_))))
          refine end1 rfl rfl ?_
          obtain ⟨_, hbad⟩ := bad hg
          exact ⟨by rw [hbad], H.B⟩
        · have hg : goodF x = true := by unfold goodF; rw [hk, hv]; rfl
          rw [hg, Bool.true_and] at hD
          rw [hv] at ha
          (with_reducible refine is_l ?_); refine l_callp rfl rfl (by kernel_rfl) ha ?_
          repeat' (first | (first | (with_reducible refine p_tn ?_) | (with_reducible refine p_bn ?_) | (with_reducible refine w_reg ?_) | (with_reducible (refine is_if ?_; (refine w_iff rfl ?_))) | (with_reducible refine wp_skip ?_)) | (first | (with_reducible refine l_nil ?_) | ((with_reducible refine g_on ?_); (first | ((with_reducible refine g_mv ?_); refine l_p txs rfl rfl ?_) | ((with_reducible refine g_pk ?_); refine l_p txs rfl rfl ?_) | ((with_reducible refine g_bi ?_); (refine l_a txs rfl rfl (by first | exact in_i64 (by omega) (by omega) | exact in_u8 (by omega) (by omega) | exact in_u64 (by omega) (by omega) | exact in_i32 (by omega) (by omega)) ?_)))) | ((with_reducible refine g_if ?_); ((with_reducible refine g_un ?_); (refine l_p txs rfl rfl ?_)))))
          refine ⟨i + 1, _, rfl, ⟨rfl, rfl, rfl, trivial⟩, ⟨H.pick [] [] (by decide) (by decide) rfl rfl, by omega, hD⟩, by omega⟩
    · have hnil : l.drop i = [] := List.drop_eq_nil_of_le (by omega)
      rw [hnil] at hD
      have hn : chkS l = none := by rw [he, hD]; rfl
      repeat' (first | (first | (with_reducible refine p_tn ?_) | (with_reducible refine p_tx ?_) | (with_reducible refine x_hit ?_) | (with_reducible refine wp_seq ?_) | (with_reducible refine w_reg ?_) | (with_reducible (refine is_if ?_; (refine w_iff rfl ?_))) | (with_reducible refine wp_exit ?_) | (with_reducible refine wp_ret ?_)) | (first | (with_reducible refine l_nil ?_) | ((with_reducible refine g_on ?_); ((with_reducible refine g_as ?_); refine l_p txs rfl rfl ?_))))
      refine end1 rfl rfl ?_
      exact ⟨by rw [hn]; rfl, H.B⟩
end Go.Proofs.YthgojbdpmcccaaaGreatDoor.K
end
section
namespace Go.Proofs.YthgojbdpmcccaaaGreatDoor.K
open Go.RowKit Go.Proofs.YthgojbdpmcccaaaGreatDoor.Q Go.Proofs.YthgojbdpmcccaaaGreatDoor.Wb Go.Proofs.YthgojbdpmcccaaaGreatDoorW.PrintWords
set_option linter.unusedVariables false
set_option linter.unusedSimpArgs false
theorem decDigits_S (n : Nat) : Lib.decDigits n = (decS n).map fun x => UInt8.ofNat x.toNat := by
  induction n using Nat.strongRecOn with
  | ind n ih =>
    rw [Lib.decDigits, decS]
    by_cases h : n < 10
    · rw [dif_pos h, if_pos h]
      simp only [List.map_cons, List.map_nil]
      congr 2
    · rw [dif_neg h, if_neg h, ih (n / 10) (by omega), List.map_append]
      simp only [List.map_cons, List.map_nil]
      congr 2
theorem itoa_S (n : Nat) : (⟨(Lib.itoa (n : Int)).toArray⟩ : ByteArray) = strOfNums (decS n) := by
  unfold Lib.itoa strOfNums
  rw [if_neg (by omega), Int.toNat_natCast, decDigits_S]
abbrev TabP (w : World) : Prop := ∀ w', Below w.heap.size w w' → Lib.TabIs Tryz.prog w' "internal/strconv.uint64pow10" .u64 Lib.pow10Tab
theorem TabP.below {w w' : World} (h : TabP w) (hb : Below w.heap.size w w') : TabP w' := fun w2 K => h w2 (Bt hb K)
theorem itoa_c {w : World} (hP : TabP w) (n : Nat) (hn : n ≤ 9223372036854775807) : Calls Tryz.prog 49 #[.int .i64 (n : Int)] w fun e w' => e = .returned (.string (strOfNums (decS n))) ∧ Below w.heap.size w w' := by
  refine (Tryz.strconv_Itoa (n : Int) (by omega) (by omega) w (hP w (Below.refl _ w))).mono fun e w' ⟨he, kk, os, hw⟩ => ?_
  subst hw
  exact ⟨by rw [he, itoa_S], grow_below⟩
def keptS (l : List Fld) : List Fld := (l.filter keptF).map fun f => (f.1, trimS f.2)
theorem kept_take {l : List Fld} {i : Nat} {x : Fld} (h : l[i]? = some x) : keptS (l.take (i + 1)) = keptS (l.take i) ++ if keptF x then [(x.1, trimS x.2)] else [] := by
  have hi : i < l.length := (List.getElem?_eq_some_iff.1 h).1
  have hx : l[i] = x := (List.getElem?_eq_some_iff.1 h).2
  unfold keptS
  rw [List.take_succ_eq_append_getElem hi, hx, List.filter_append, List.map_append]
  by_cases hk : keptF x = true
  · simp [hk]
  · simp [hk]
theorem kept_len (l : List Fld) : (keptS l).length ≤ l.length := by
  unfold keptS
  rw [List.length_map]
  exact List.length_filter_le _ _
theorem fldC_snoc (l : List Fld) (a : L) (b : L) : fldC (l ++ [(a, b)]) = fldC l ++ [.string (strOfNums a), .string (strOfNums b)] := by simp [fldC]
set_option maxHeartbeats 8000000 in
theorem printed_c {w : World} (hP : TabP w) {B : Option Addr} {c : Nat} {l : List Fld} (h : Rd w B (fldC l)) (hb : BytesF l) (hl : l.length ≤ 10000000) (n : Nat) (hn : n ≤ 9223372036854775807) (told : Bool) :
    Calls Tryz.prog 50 #[.slice B l.length c, .int .i64 (n : Int), .bool told] w fun e w' => ∃ A1 c1, e = .returned (.slice A1 (printedS l (if told then some n else none)).length c1) ∧ Hp w w' [] [rowF (.slice A1 (printedS l (if told then some n else none)).length c1) (printedS l (if told then some n else none))] := by
  refine enter (args := [.slice B l.length c, .int .i64 (n : Int), .bool told]) Tryz.func50 rfl Tryz.ntmps50 rfl ?_
  have H := (Hp.nil w).nilRow 95 2
  repeat' (first | (first | (with_reducible refine p_tn ?_) | (with_reducible refine wp_seq ?_) | (with_reducible refine wp_block ?_) | (with_reducible refine w_reg ?_)) | (first | (with_reducible refine l_nil ?_) | ((with_reducible refine g_on ?_); (first | ((with_reducible refine g_mv ?_); refine l_p txs rfl rfl ?_) | ((with_reducible refine g_as ?_); refine l_p txs rfl rfl ?_) | ((with_reducible refine g_cl ?_); refine l_p txs rfl rfl ?_)))))
  refine w_loop (σ := Nat × Option Addr × Nat) (S := fun s => [(1, .int .i64 (n : Int)), (2, .bool told), (7, .slice s.2.1 (keptS (l.take s.1)).length s.2.2), (10, .slice B l.length c), (11, .int .i64 (l.length : Int)), (12, .int .i64 (s.1 : Int))])
    (J := fun s w' => Hp w w' [] [rowF (.slice s.2.1 (keptS (l.take s.1)).length s.2.2) (keptS (l.take s.1))] ∧ s.1 ≤ l.length) (μ := fun s => l.length - s.1) (0, none, 0) ⟨rfl, rfl, rfl, rfl, rfl, rfl, trivial⟩ ⟨H, by omega⟩ ?_
  rintro ⟨i, A2, c2⟩ f w_ ⟨H, hi⟩
  simp only at H hi ⊢
  repeat' (first | (with_reducible refine wp_seq ?_) | (with_reducible refine w_reg ?_))
  (with_reducible refine is_l ?_); refine l_t txs rfl rfl (fun hlt => ?_) (fun hge => ?_)
  · obtain ⟨x, hx⟩ : ∃ x, l[i]? = some x := ⟨_, List.getElem?_eq_getElem (by omega)⟩
    obtain ⟨a1, rfl⟩ := rd_some h (i := i) (by omega)
    obtain ⟨bx1, bx2, lx1, lx2⟩ := hb x (List.mem_of_getElem? hx)
    have zx1 := sizeS' bx1
    have zx2 := sizeS' bx2
    have hkt := kept_take hx
    have hkl := kept_len (l.take i)
    rw [List.length_take_of_le (by omega)] at hkl
    repeat' (first | (first | (with_reducible refine p_tn ?_) | (with_reducible refine wp_seq ?_) | (with_reducible refine wp_block ?_) | (with_reducible refine w_reg ?_) | (with_reducible (refine is_if ?_; (refine w_ift rfl ?_))) | (with_reducible refine wp_skip ?_)) | (first | (with_reducible refine l_nil ?_) | ((with_reducible refine g_on ?_); ((with_reducible refine g_ia ?_); refine l_ia txs rfl rfl (by first | omega | assumption | decide) (by first | omega | assumption | decide) ?_))))
    rw [Int.toNat_natCast]
    (with_reducible refine is_l ?_); refine h_ldA recs (fld_part (h.below H.B) hx) rfl rfl rfl rfl ?_
    repeat' (first | (first | (with_reducible refine p_tn ?_) | (with_reducible refine wp_seq ?_) | (with_reducible refine w_reg ?_)) | (first | (with_reducible refine l_nil ?_) | ((with_reducible refine g_on ?_); (first | ((with_reducible refine g_fa ?_); refine h_fa flds rfl rfl ?_) | ((with_reducible refine g_ld ?_); (refine h_ld txs H 0 rfl rfl rfl rfl ?_)) | ((with_reducible refine g_st ?_); (refine h_stR recs H 0 rfl rfl rfl rfl rfl rfl rfl rfl rfl (fun w_ H => ?_))) | ((with_reducible refine g_al ?_); refine h_alloc recs H rfl rfl (fun g_ w_ H => ?_))))))
    have hlow := lower_c (strOfNums x.1) w_ (by omega)
    rw [blS bx1] at hlow
    (with_reducible refine is_l ?_); refine l_callv rfl rfl (by kernel_rfl) hlow (fun w_ K => ?_)
    have H := H.call K
    repeat' (first | (first | (with_reducible refine p_tn ?_) | (with_reducible refine wp_seq ?_) | (with_reducible refine wp_block ?_) | (with_reducible refine w_reg ?_)) | (with_reducible refine l_nil ?_))
    have e1 := blS (bytes_low bx1)
    have e2 : bl (⟨#[99, 111, 110, 116, 101, 110, 116, 45, 108, 101, 110, 103, 116, 104]⟩ : ByteArray) = nLen := by kernel_rfl
    have e3 : bl (⟨#[116, 114, 97, 110, 115, 102, 101, 114, 45, 101, 110, 99, 111, 100, 105, 110, 103]⟩ : ByteArray) = nCode := by kernel_rfl
    have skip : keptF x = false → Hp w w_ [] [rowF (.slice A2 (keptS (l.take (i + 1))).length c2) (keptS (l.take (i + 1)))] ∧ Value.slice A2 (keptS (l.take i)).length c2 = Value.slice A2 (keptS (l.take (i + 1))).length c2 := fun hf => by
      rw [hkt, hf]
      simp only [Bool.false_eq_true, if_false, List.append_nil]
      exact ⟨H.pick [] [0] (by decide) (by decide) rfl rfl, trivial⟩
    (with_reducible refine is_l ?_); refine l_t txs rfl rfl (fun h1 => ?_) (fun h1 => ?_)
    · have hf : keptF x = false := by
        unfold keptF
        rw [e1, e2] at h1
        simp [h1]
      obtain ⟨k1, k2⟩ := skip hf
      repeat' (first | (first | (with_reducible refine p_tn ?_) | (with_reducible refine p_bn ?_) | (with_reducible refine w_reg ?_) | (with_reducible (refine is_if ?_; (refine w_ift rfl ?_))) | (with_reducible refine wp_skip ?_)) | (first | (with_reducible refine l_nil ?_) | ((with_reducible refine g_on ?_); (first | ((with_reducible refine g_mv ?_); refine l_p txs rfl rfl ?_) | ((with_reducible refine g_as ?_); refine l_p txs rfl rfl ?_) | ((with_reducible refine g_bi ?_); (refine l_a txs rfl rfl (by first | exact in_i64 (by omega) (by omega) | exact in_u8 (by omega) (by omega) | exact in_u64 (by omega) (by omega) | exact in_i32 (by omega) (by omega)) ?_))))))
      refine ⟨(i + 1, A2, c2), _, rfl, ⟨rfl, rfl, k2, rfl, rfl, rfl, trivial⟩, ⟨k1, by show i + 1 ≤ _; omega⟩, by show _ - (i + 1) < _ - i; omega⟩
    · rw [e1, e2] at h1
      repeat' (first | (first | (with_reducible refine p_tn ?_) | (with_reducible refine w_reg ?_) | (with_reducible (refine is_if ?_; (refine w_iff rfl ?_)))) | (first | (with_reducible refine l_nil ?_) | ((with_reducible refine g_on ?_); ((with_reducible refine g_as ?_); refine l_p txs rfl rfl ?_))))
      (with_reducible refine is_l ?_); refine l_t txs rfl rfl (fun h2 => ?_) (fun h2 => ?_)
      · have hf : keptF x = false := by
          unfold keptF
          rw [e1, e3] at h2
          simp [h2]
        obtain ⟨k1, k2⟩ := skip hf
        repeat' (first | (first | (with_reducible refine p_tn ?_) | (with_reducible refine p_bn ?_) | (with_reducible refine w_reg ?_) | (with_reducible (refine is_if ?_; (refine w_ift rfl ?_))) | (with_reducible refine wp_skip ?_)) | (first | (with_reducible refine l_nil ?_) | ((with_reducible refine g_on ?_); (first | ((with_reducible refine g_mv ?_); refine l_p txs rfl rfl ?_) | ((with_reducible refine g_as ?_); refine l_p txs rfl rfl ?_) | ((with_reducible refine g_bi ?_); (refine l_a txs rfl rfl (by first | exact in_i64 (by omega) (by omega) | exact in_u8 (by omega) (by omega) | exact in_u64 (by omega) (by omega) | exact in_i32 (by omega) (by omega)) ?_))))))
        refine ⟨(i + 1, A2, c2), _, rfl, ⟨rfl, rfl, k2, rfl, rfl, rfl, trivial⟩, ⟨k1, by show i + 1 ≤ _; omega⟩, by show _ - (i + 1) < _ - i; omega⟩
      · rw [e1, e3] at h2
        have hf : keptF x = true := by
          unfold keptF
          simp [h1, h2]
        rw [hf, if_pos rfl] at hkt
        have htr := fun w1 => trim_c (strOfNums x.2) w1 (by omega)
        rw [blS bx2] at htr
        repeat' (first | (first | (with_reducible refine p_tn ?_) | (with_reducible (refine is_if ?_; (refine w_iff rfl ?_)))) | (first | (with_reducible refine l_nil ?_) | ((with_reducible refine g_on ?_); ((with_reducible refine g_as ?_); refine l_p txs rfl rfl ?_))))
        have HS := H.pick [0] [] (by decide) (by decide) rfl rfl
        refine d_start (fun w_ => Hp w w_ _ _) #[false, false, false, false, false, false, false, false, false, false] (by kernel_rfl) rfl rfl HS.drew ?_
        have H := H.drew
        have HS := HS.drew
        first | (refine d_pure (i := 0) #[true, false, false, false, false, false, false, false, false, false] rfl (by kernel_rfl) (fun _ _ _ h => h) rfl (fun w_ => evP_run (o := ⟨_, _, _, _, _, _⟩) txs rfl) ?_)
        first | (refine d_pure (i := 1) #[true, true, false, false, false, false, false, false, false, false] rfl (by kernel_rfl) (fun _ _ _ h => h) rfl (fun w_ => evF_run (o := ⟨_, _, _, _, _, _⟩) flds rfl) ?_) | (refine d_pure (i := 1) #[true, true, false, false, false, false, false, false, false, false] rfl (by kernel_rfl) (fun _ _ _ h => h) rfl (fun w_ => evG_run (o := ⟨_, _, _, _, _, _⟩) flds rfl) ?_)
        first | (refine d_take (i := 2) #[true, true, true, false, false, false, false, false, false, false] rfl (by kernel_rfl) (fun _ _ _ h => h) rfl (fun w_ K => evL_run (o := ⟨_, _, _, _, _, _⟩) txs rfl (K.cellAt 0 rfl rfl)) HS ?_)
        first | (refine d_pure (i := 3) #[true, true, true, true, false, false, false, false, false, false] rfl (by kernel_rfl) (fun _ _ _ h => h) rfl (fun w_ => evF_run (o := ⟨_, _, _, _, _, _⟩) flds rfl) ?_) | (refine d_pure (i := 3) #[true, true, true, true, false, false, false, false, false, false] rfl (by kernel_rfl) (fun _ _ _ h => h) rfl (fun w_ => evG_run (o := ⟨_, _, _, _, _, _⟩) flds rfl) ?_)
        first | (refine d_take (i := 4) #[true, true, true, true, true, false, false, false, false, false] rfl (by kernel_rfl) (fun _ _ _ h => h) rfl (fun w_ K => evL_run (o := ⟨_, _, _, _, _, _⟩) txs rfl (K.cellAt 0 rfl rfl)) HS ?_)
        refine d_one (i := 5) #[true, true, true, true, true, true, false, false, false, false] rfl (by kernel_rfl) rfl ?_
        refine l_callv rfl rfl (by kernel_rfl) (htr _) (fun w_ K => ?_); have H := H.call K
        refine l_nil ?_
        have HS := H.pick [0] [] (by decide) (by decide) rfl rfl
        refine ⟨rfl, HS, ?_⟩
        first | (refine d_pure (i := 6) #[true, true, true, true, true, true, true, false, false, false] rfl (by kernel_rfl) (fun _ _ _ h => h) rfl (fun w_ => evBld_run (o := ⟨_, _, _, _, _, _⟩) rfl (built_f2 _ _)) ?_)
        refine d_one (i := 7) #[true, true, true, true, true, true, true, true, false, false] rfl (by kernel_rfl) rfl ?_
        refine h_bs H info_f Tryz.underlying27 (by decide) (by decide) rfl rfl (fill_f _ _) (fun g_ w_ H => ?_)
        refine l_nil ?_
        have HS := H.pick [1] [] (by decide) (by decide) rfl rfl
        refine ⟨rfl, HS, ?_⟩
        refine d_one (i := 8) #[true, true, true, true, true, true, true, true, true, false] rfl (by kernel_rfl) rfl ?_
        (refine h_app H 0 rfl info_f Tryz.underlying27 rfl rfl rfl rfl (H.cellRd 0 rfl) rfl rfl (by show ((keptS (l.take i)).length + 1) * 32 ≤ _; omega) (fun v w_ hv H => ?_)); obtain ⟨A', c', rfl⟩ := hv
        refine l_nil ?_
        have HS := H.pick [1] [] (by decide) (by decide) rfl rfl
        refine ⟨rfl, HS, ?_⟩
        first | (refine d_pure (i := 9) #[true, true, true, true, true, true, true, true, true, true] rfl (by kernel_rfl) (fun _ _ _ h => h) rfl (fun w_ => evP_run (o := ⟨_, _, _, _, _, _⟩) txs rfl) ?_)
        refine d_done rfl ?_
        repeat' (first | (first | (with_reducible refine p_tn ?_) | (with_reducible refine p_bn ?_) | (with_reducible refine w_reg ?_)) | (first | (with_reducible refine l_nil ?_) | ((with_reducible refine g_on ?_); (first | ((with_reducible refine g_mv ?_); refine l_p txs rfl rfl ?_) | ((with_reducible refine g_bi ?_); (refine l_a txs rfl rfl (by first | exact in_i64 (by omega) (by omega) | exact in_u8 (by omega) (by omega) | exact in_u64 (by omega) (by omega) | exact in_i32 (by omega) (by omega)) ?_))))))
        have H := H.pick [] [0] (by decide) (by decide) rfl rfl
        have hlen : (keptS (l.take (i + 1))).length = (keptS (l.take i)).length + 1 := by rw [hkt]; simp
        refine ⟨(i + 1, A', c'), _, rfl, ⟨rfl, rfl, ?_, rfl, rfl, rfl, trivial⟩, ⟨?_, by show i + 1 ≤ _; omega⟩, by show _ - (i + 1) < _ - i; omega⟩
        · show Value.slice A' ((keptS (l.take i)).length + 1) c' = Value.slice A' (keptS (l.take (i + 1))).length c'
          rw [hlen]
        · show Hp w _ [] [rowF (.slice A' (keptS (l.take (i + 1))).length c') (keptS (l.take (i + 1)))]
          unfold rowF
          rw [hlen, hkt, fldC_snoc]
          exact H
  · have hall : l.take i = l := List.take_of_length_le (by omega)
    simp only [hall] at H ⊢
    have hkl := kept_len l
    repeat' (first | (first | (with_reducible refine p_tn ?_) | (with_reducible refine p_tx ?_) | (with_reducible refine x_hit ?_) | (with_reducible refine wp_seq ?_) | (with_reducible refine w_reg ?_) | (with_reducible (refine is_if ?_; (refine w_iff rfl ?_))) | (with_reducible refine wp_exit ?_)) | (first | (with_reducible refine l_nil ?_) | ((with_reducible refine g_on ?_); ((with_reducible refine g_mv ?_); refine l_p txs rfl rfl ?_))))
    cases told
    · repeat' (first | (first | (with_reducible refine p_tn ?_) | (with_reducible refine wp_seq ?_) | (with_reducible refine w_reg ?_) | (with_reducible (refine is_if ?_; (refine w_iff rfl ?_))) | (with_reducible refine wp_skip ?_) | (with_reducible refine wp_ret ?_)) | (first | (with_reducible refine l_nil ?_) | ((with_reducible refine g_on ?_); (first | ((with_reducible refine g_mv ?_); refine l_p txs rfl rfl ?_) | ((with_reducible refine g_as ?_); refine l_p txs rfl rfl ?_)))))
      refine end1 rfl rfl ?_
      have e : printedS l (if (false : Bool) = true then some n else none) = keptS l := by simp [printedS, keptS]
      rw [e]
      exact ⟨A2, c2, rfl, H⟩
    · repeat' (first | (first | (with_reducible refine w_reg ?_) | (with_reducible (refine is_if ?_; (refine w_ift rfl ?_)))) | ((with_reducible refine g_on ?_); ((with_reducible refine g_mv ?_); refine l_p txs rfl rfl ?_)))
      (with_reducible refine is_l ?_); refine l_callv rfl rfl (by kernel_rfl) (itoa_c (hP.below H.B) n hn) (fun w_ K => ?_)
      have H := H.call K
      skip
      (with_reducible refine is_l ?_); refine h_bld rfl rfl (built_f2 _ _) ?_
      skip
      (with_reducible refine is_l ?_); refine h_bs H info_f Tryz.underlying27 (by decide) (by decide) rfl rfl (fill_f _ _) (fun g_ w_ H => ?_)
      (with_reducible refine is_l ?_); refine h_app H 0 rfl info_f Tryz.underlying27 rfl rfl rfl rfl (H.cellRd 0 rfl) rfl rfl (by show ((keptS l).length + 1) * 32 ≤ _; omega) (fun v w_ hv H => ?_)
      obtain ⟨A', c', rfl⟩ := hv
      repeat' (first | (first | (with_reducible refine p_tn ?_) | (with_reducible refine wp_seq ?_) | (with_reducible refine w_reg ?_) | (with_reducible refine wp_ret ?_)) | (first | (with_reducible refine l_nil ?_) | ((with_reducible refine g_on ?_); (first | ((with_reducible refine g_mv ?_); refine l_p txs rfl rfl ?_) | ((with_reducible refine g_as ?_); refine l_p txs rfl rfl ?_)))))
      refine end1 rfl rfl ?_
      have e : printedS l (if (true : Bool) = true then some n else none) = keptS l ++ [(nLenP, decS n)] := by simp [printedS, keptS]
      have hlen : (keptS l ++ [(nLenP, decS n)]).length = (keptS l).length + 1 := by simp
      rw [e]
      unfold rowF
      rw [hlen, fldC_snoc]
      exact ⟨A', c', rfl, H.pick [] [0] (by decide) (by decide) rfl rfl⟩
end Go.Proofs.YthgojbdpmcccaaaGreatDoor.K
end
section
namespace Go.Proofs.YthgojbdpmcccaaaGreatDoor.K
open Go.RowKit Go.Proofs.YthgojbdpmcccaaaGreatDoor.Q Go.Proofs.YthgojbdpmcccaaaGreatDoor.Wb Go.Proofs.YthgojbdpmcccaaaGreatDoorW.PrintWords
set_option linter.unusedVariables false
set_option linter.unusedSimpArgs false
section
variable {P : Program} {n : Nat} {ops : Array Oper} {Q : Exit → Act → World → Prop} {rest : List Oper} {f : Fr} {w w0 : World} {d : Option Nat} {op : Op} {tt : TypeId} {ps : String} {af : Array Edge} {gd : Option (Nat × Bool)} {l l' : List Ent} {r : List RowD}
theorem l_ldp {t te : TypeId} {x : Operand} {a : Addr} {v : Value} (ht : P.underlying t = some (.pointer te)) (hw : want n ops f ⟨d, .load t x, tt, ps, af, gd⟩ = true) (hx : X n f x = .pointer (some a)) (hc : w.cell? a = some v) (h : WL P ops Q rest (act n (put f d v)) w) : WL P ops Q (⟨d, .load t x, tt, ps, af, gd⟩ :: rest) (act n f) w :=
  l_val hw (by unfold execOp; simp [go_sem, hx, Instr.loadAt, loadVar, isAgg, run_underlying ht, hc]) h
theorem l_nc {x : Operand} {a : Addr} (hw : want n ops f ⟨d, .nilCheck x, tt, ps, af, gd⟩ = true) (hx : X n f x = .pointer (some a)) (h : WL P ops Q rest (act n (put f d (.pointer (some a)))) w) : WL P ops Q (⟨d, .nilCheck x, tt, ps, af, gd⟩ :: rest) (act n f) w :=
  l_val hw (by unfold execOp; simp [hx]) h
theorem l_bop {b : BinOp} {t t2 : TypeId} {x y : Operand} {p q : Option Addr} {z : Bool} (hw : want n ops f ⟨d, .binOp b t x y t2, tt, ps, af, gd⟩ = true) (hx : X n f x = .pointer p) (hy : X n f y = .pointer q)
    (hr : (binOp b t (.pointer p) (.pointer q)).run P w = .ok (.bool z) w) (h : WL P ops Q rest (act n (put f d (.bool z))) w) : WL P ops Q (⟨d, .binOp b t x y t2, tt, ps, af, gd⟩ :: rest) (act n f) w := by
  refine l_val hw ?_ h
  have hge : (eqGuard b t x y (.pointer p) (.pointer q)).run P w = .ok () w := by
    unfold eqGuard
    cases b <;> rfl
  unfold execOp
  simp [hx, hy, hge, hr]
theorem h_stp {t te : TypeId} {x y : Operand} (ht : P.underlying t = some (.pointer te)) (ho : (P.info? t).map (·.size) = some 1) (H : Hp w0 w l r) (k : Nat) {g i : Nat} {t2 : TypeId} {cs : List Value} {q : Option Addr} (hw : want n ops f ⟨none, .store t x y, tt, ps, af, gd⟩ = true) (hx : X n f x = .pointer (some ⟨g, i, none⟩)) (hy : X n f y = .pointer q) (hk : l[k]? = some (g, t2, cs)) (hi : i < cs.length)
    (hl : l.set k (g, t2, cs.set i (.pointer q)) = l') (h : ∀ w', Hp w0 w' l' r → WL P ops Q rest (act n f) w') : WL P ops Q (⟨none, .store t x y, tt, ps, af, gd⟩ :: rest) (act n f) w := by
  subst hl
  have hb := H.get k hk
  have hr := run_store_run (P := P) (o := i) t (.pointer q) [.pointer q] hb (by simp [Value.cells]) ho (by simp; omega) (by intro q1 h1; simp at h1; subst h1; rfl)
  have hh := heap_setCells (fr := (0, 0)) [.pointer q] i w cs hb (by simp; omega)
  have e3 : cs.take i ++ [.pointer q] ++ cs.drop (i + [Value.pointer q].length) = cs.set i (.pointer q) := by
    rw [List.set_eq_take_append_cons_drop, if_pos hi]; simp
  rw [e3] at hh
  refine h_skip hw ?_ (h _ (H.upd k hk (grown_setCells [.pointer q] i w) hh))
  unfold execOp
  simp [hx, hy, hr]
theorem l_ext {g : FuncId} {args : List Value} {v : Value} (hw : want n ops f ⟨d, op, tt, ps, af, gd⟩ = true) (he : evC n f op = some (g, args)) (hr : (callFunc g args.toArray).run P w = .ok (.value v) w)
    (h : WL P ops Q rest (act n (put f d v)) w) : WL P ops Q (⟨d, op, tt, ps, af, gd⟩ :: rest) (act n f) w := by
  refine l_val hw ?_ h
  unfold evC at he
  unfold execOp
  split at he
  · rename_i c
    split at he
    · rename_i x hc
      split at he
      · rename_i k first captured hx
        cases hf : first.isEmpty with
        | false => simp [hf] at he
        | true =>
          simp only [hf, cond_true, Option.some.injEq, Prod.mk.injEq] at he
          obtain ⟨rfl, rfl⟩ := he
          have hfe : first = #[] := by simpa using hf
          subst hfe
          have harr : c.args.map (X n f) ++ captured = (c.args.toList.map (X n f) ++ captured.toList).toArray := by
            rw [← Array.toList_inj]; simp
          rw [← harr] at hr
          simp [go_sem, hc, resolve, invoke, hx, Deferred.ofValue, hr]
      · cases he
    · cases he
  · cases he
theorem append_string_block (base : Nat) (t u ty e : TypeId) (i : TypeInfo) (ht : P.underlying t = some (.slice e)) (hu : P.underlying u = some .string) (hi : P.info? e = some i) (hz : i.zero = some (.int .u8 0)) (hsize : i.size = 1) (hby : i.bytes = 1)
    (v : Value) (m : Nat) (xs : List Value) (hown : w.ownsRow base e 1 v m xs) (s : ByteArray) (hbytes : m + s.size ≤ 140737488355328) {v' : Value} {w' : World} (hr : (Builtin.append_ #[t, u] ty #[v, .string s]).run P w = .ok v' w') :
    v'.ownBlock = v.ownBlock ∨ v'.ownBlock = some w.heap.size := by
  have hxl : xs.length = m := by simpa using hown.1
  rcases hown.2 with ⟨rfl, rfl⟩ | ⟨g, cap, cur, rfl, hbg, hg, hnc, hcm, hcs, htake⟩
  · by_cases hm : s.size = 0
    · have hf := Lib.run_firstCells_string (P := P) w 1 s
      rw [hm] at hf
      have h2 : (Builtin.append_ #[t, u] ty #[.slice none 0 0, .string s]).run P w = .ok (.slice none 0 0) w := by
        simp [Builtin.append_, run_underlying ht, run_underlying hu, sizeOf, typeInfo, hi, hsize, Builtin.lenOf, hm, hf]
      have := hr.symm.trans h2
      injection this with e1 _
      subst e1
      exact .inl rfl
    · have h2 := run_append_nil_string (P := P) w t u ty e i (.int .u8 0) ht hu hi hz s (by omega) (by omega) (by rw [hby]; omega)
      have := hr.symm.trans h2
      injection this with e1 _
      subst e1
      exact .inr rfl
  · by_cases hroom : m + s.size ≤ cap
    · have hcs' : cur.size = cap := by simpa using hcs
      have h2 := Lib.run_append_room_string (P := P) w t u ty e i ht hu hi hsize g m cap cur hg s hroom (by omega)
      have := hr.symm.trans h2
      injection this with e1 _
      subst e1
      exact .inl rfl
    · have holds : ∀ j u, xs[j]? = some u → w.cell? ((⟨g, 0, none⟩ : Addr).add j) = some u := hown.cells (g := g) rfl
      have h2 := Lib.run_append_grow_string (P := P) w t u ty e i (.int .u8 0) ht hu hi hz ⟨g, 0, none⟩ m cap xs (by rw [hsize]; simpa using hxl) holds s (by omega) (by omega) (by rw [hby]; exact growslice_fits (by omega) (by omega))
      have := hr.symm.trans h2
      injection this with e1 _
      subst e1
      exact .inr rfl
theorem h_appS (H : Hp w0 w l r) (k : Nat) {t u e : TypeId} {v0 : Value} {xs : L} {s : ByteArray} {x y : Operand} (hinfo : (P.info? e).map (fun i => (i.zero, i.size, i.bytes)) = some (some (.int .u8 0), 1, 1)) (ht : P.underlying t = some (.slice e)) (hu : P.underlying u = some .string)
    (hk : r[k]? = some ⟨v0, e, 1, xs.length, nums .u8 xs⟩) (hx : nf (X n f x) = some v0) (hy : nf (X n f y) = some (.string s)) (hl : xs.length + s.size ≤ 140737488355328)
    (h : ∀ v w', (∃ A' c', v = .slice A' (xs ++ bl s).length c') → Hp w0 w' l (r.set k ⟨v, e, 1, (xs ++ bl s).length, nums .u8 (xs ++ bl s)⟩) → WL P ops Q rest (act n (put f d v)) w') : WL P ops Q (⟨d, .call { callee := .builtin .append, args := #[x, y], argTypes := #[t, u] }, tt, ps, af, none⟩ :: rest) (act n f) w := by
  obtain ⟨i0, hi, hzz⟩ := Option.map_eq_some_iff.1 hinfo
  simp only [Prod.mk.injEq] at hzz
  obtain ⟨hz0, hz1, hz2⟩ := hzz
  have HO := H.row k _ hk
  obtain ⟨v1, w1, hr, hown, hg, _⟩ := Lib.run_append_own_string (P := P) w w0.heap.size t u tt e i0 ht hu hi hz0 hz1 hz2 v0 xs.length (nums .u8 xs) HO s (by simp only [maxLen]; omega) hl H.B.size
  have hat := append_string_block (P := P) w0.heap.size t u tt e i0 ht hu hi hz0 hz1 hz2 v0 xs.length (nums .u8 xs) HO s hl hr
  have hlen : xs.length + s.size = (xs ++ bl s).length := by rw [List.length_append, bl_length]
  have hc : nums .u8 xs ++ Lib.strCells s = nums .u8 (xs ++ bl s) := by
    rw [nums_append]
    congr 1
    simp [nums, bl, Lib.strCells]
  rw [hlen, hc] at hown
  have H1 := H.put (d' := ⟨v1, e, 1, (xs ++ bl s).length, nums .u8 (xs ++ bl s)⟩) k hk hg hown (by
    rcases hat with hat | hat
    · exact .inl hat
    · exact .inr ⟨_, hat, Nat.le_refl _⟩)
  obtain ⟨A', c', hv⟩ := own_slice hown
  have hx' := nf_eq hx
  have hy' := nf_eq hy
  refine ⟨?_⟩
  refine wpList_plain rfl fun K hK => ?_
  unfold Oper.wp execOp
  rw [eval_act]
  simp only [resolve, invoke, builtin, Sem.run_bind, Sem.run_pure, Result.andThen_ok, List.map_toArray, List.map_cons, List.map_nil, ← hx', ← hy', hr]
  refine hK _ _ ?_
  rw [put_act]
  exact (h v1 w1 ⟨A', c', hv⟩ H1).out
theorem end0 {fn : Func} {R : Ending → World → Prop} (hr : fn.results = #[]) (h : R (.returned (.tuple #[])) w) : bodyPost P fn R .normal (act n f) w :=
  ⟨rfl, .tuple #[], by unfold results; simp [hr], h⟩
theorem l_cvp {src dst : TypeId} {x : Operand} {a : Addr} (hw : want n ops f ⟨d, .convert src dst x, tt, ps, af, gd⟩ = true) (hx : X n f x = .pointer (some a)) (hr : (convert src dst (.pointer (some a))).run P w = .ok (.pointer (some a)) w) (h : WL P ops Q rest (act n (put f d (.pointer (some a)))) w) : WL P ops Q (⟨d, .convert src dst x, tt, ps, af, gd⟩ :: rest) (act n f) w :=
  l_val hw (by unfold execOp; simp [hx, hr]) h
end
abbrev bT : TypeId := 168
abbrev entB (b : Nat) (p v : Value) : Ent := (b, bT, [p, v])
abbrev ptrB (b : Nat) : Value := .pointer (some ⟨b, 0, none⟩)
theorem sizeB : (Tryz.prog.info? bT).map (·.size) = some 2 := by kernel_rfl
theorem liesB : liesAt Tryz.prog Tryz.prog.depth bT (2 / Tryz.prog.cellsOf bT) 0 bT 1 = true := by kernel_rfl
theorem onePB : (Tryz.prog.info? 166).map (·.size) = some 1 := by kernel_rfl
set_option maxHeartbeats 4000000 in
theorem copyCheck_c {w0 w : World} {b : Nat} {p v : Value} {xs : L} (H : Hp w0 w [entB b p v] [rowB v xs]) (hp : p = .pointer none ∨ p = ptrB b) :
    Calls Tryz.prog 155 #[ptrB b] w fun e w' => e = .returned (.tuple #[]) ∧ Hp w0 w' [entB b (ptrB b) v] [rowB v xs] := by
  obtain ⟨j, hj, hjs⟩ := Option.map_eq_some_iff.1 sizeB
  refine enter (args := [ptrB b]) Tryz.func155 rfl Tryz.ntmps155 rfl ?_
  have hsh : ∀ (w1 : World) (p1 : Value), Hp w0 w1 [entB b p1 v] [rowB v xs] → w1.shape? b = some (bT, 2) := fun w1 p1 H1 => by
    have := H1.get 0 rfl
    unfold World.shape?
    rw [this]
    rfl
  rcases hp with rfl | rfl
  · repeat' (first | (first | (with_reducible refine wp_seq ?_) | (with_reducible refine w_reg ?_)) | ((with_reducible refine g_on ?_); ((with_reducible refine g_mv ?_); refine l_p txs rfl rfl ?_)))
    (with_reducible refine is_l ?_); refine l_nc rfl rfl ?_
    repeat' ((with_reducible refine g_on ?_); ((with_reducible refine g_fa ?_); refine h_fa flds rfl rfl ?_))
    (with_reducible refine is_l ?_); refine l_ldp Tryz.underlying166 rfl rfl (H.cellAt 0 rfl rfl) ?_
    skip
    (with_reducible refine is_l ?_); refine l_bop rfl rfl rfl (run_eql_pointer_nil w 166 none (by kernel_rfl)) ?_
    repeat' (first | (first | (with_reducible refine p_tn ?_) | (with_reducible refine w_reg ?_) | (with_reducible (refine is_if ?_; (refine w_ift rfl ?_)))) | (first | (with_reducible refine l_nil ?_) | ((with_reducible refine g_on ?_); ((with_reducible refine g_mv ?_); refine l_p txs rfl rfl ?_))))
    (with_reducible refine is_l ?_); refine l_cvp rfl rfl (Lib.run_to_unsafe w ⟨b, 0, none⟩ Tryz.underlying166 Tryz.underlying259 hj (by rw [hjs]; decide) (hsh _ _ H) (Nat.zero_lt_succ 1)) ?_
    skip
    (with_reducible refine is_l ?_); refine l_ext (args := [ptrB b]) (v := ptrB b) rfl rfl (by
      rw [run_callFunc_extern Tryz.func183 (by kernel_rfl) (by kernel_rfl) (by kernel_rfl) (e := Extern.AbiNoEscape.same) (by kernel_rfl), Lib.run_noEscape]
      rfl) ?_
    skip
    (with_reducible refine is_l ?_); refine l_cvp rfl rfl (Lib.run_from_unsafe w ⟨b, 0, none⟩ Tryz.underlying259 Tryz.underlying166 hj (hsh _ _ H) liesB) ?_
    skip
    (with_reducible refine is_l ?_); refine l_nc rfl rfl ?_
    repeat' ((with_reducible refine g_on ?_); ((with_reducible refine g_fa ?_); refine h_fa flds rfl rfl ?_))
    (with_reducible refine is_l ?_); refine h_stp Tryz.underlying166 onePB H 0 rfl rfl rfl rfl (Nat.zero_lt_succ 1) rfl (fun w_ H => ?_)
    repeat' (with_reducible refine l_nil ?_)
    refine end0 rfl ?_
    exact ⟨rfl, H⟩
  · repeat' (first | (first | (with_reducible refine wp_seq ?_) | (with_reducible refine w_reg ?_)) | ((with_reducible refine g_on ?_); ((with_reducible refine g_mv ?_); refine l_p txs rfl rfl ?_)))
    (with_reducible refine is_l ?_); refine l_nc rfl rfl ?_
    repeat' ((with_reducible refine g_on ?_); ((with_reducible refine g_fa ?_); refine h_fa flds rfl rfl ?_))
    (with_reducible refine is_l ?_); refine l_ldp Tryz.underlying166 rfl rfl (H.cellAt 0 rfl rfl) ?_
    skip
    (with_reducible refine is_l ?_); refine l_bop rfl rfl rfl (run_eql_pointer_nil w 166 (some ⟨b, 0, none⟩) (by kernel_rfl)) ?_
    repeat' (first | (first | (with_reducible refine p_tn ?_) | (with_reducible refine wp_seq ?_) | (with_reducible refine w_reg ?_) | (with_reducible (refine is_if ?_; (refine w_iff rfl ?_)))) | (first | (with_reducible refine l_nil ?_) | ((with_reducible refine g_on ?_); ((with_reducible refine g_mv ?_); refine l_p txs rfl rfl ?_))))
    (with_reducible refine is_l ?_); refine l_nc rfl rfl ?_
    repeat' ((with_reducible refine g_on ?_); ((with_reducible refine g_fa ?_); refine h_fa flds rfl rfl ?_))
    (with_reducible refine is_l ?_); refine l_ldp Tryz.underlying166 rfl rfl (H.cellAt 0 rfl rfl) ?_
    repeat' ((with_reducible refine g_on ?_); ((with_reducible refine g_mv ?_); refine l_p txs rfl rfl ?_))
    (with_reducible refine is_l ?_); refine l_bop rfl rfl rfl (Lib.run_neq_ptr_same w ⟨b, 0, none⟩ Tryz.underlying166 hj) ?_
    repeat' (first | (first | (with_reducible refine p_tn ?_) | (with_reducible (refine is_if ?_; (refine w_iff rfl ?_))) | (with_reducible refine wp_skip ?_)) | (with_reducible refine l_nil ?_))
    refine end0 rfl ?_
    exact ⟨rfl, H⟩
theorem info_u8x : (Tryz.prog.info? 5).map (fun i => (i.zero, i.size, i.bytes)) = some (some (.int .u8 0), 1, 1) := by kernel_rfl
set_option maxHeartbeats 4000000 in
theorem bWriteS_c {w0 w : World} {b : Nat} {p v : Value} {xs : L} (H : Hp w0 w [entB b p v] [rowB v xs]) (hp : p = .pointer none ∨ p = ptrB b) (s : ByteArray) (hs : xs.length + s.size ≤ 140737488355328) :
    Calls Tryz.prog 105 #[ptrB b, .string s] w fun e w' => ∃ v', e = .returned (.tuple #[.int .i64 (s.size : Int), .nilIface]) ∧ Hp w0 w' [entB b (ptrB b) v'] [rowB v' (xs ++ bl s)] := by
  obtain ⟨A0, c0, he, _⟩ := H.rd 0 rfl
  have he : v = .slice A0 xs.length c0 := he
  subst he
  refine enter (args := [ptrB b, .string s]) Tryz.func105 rfl Tryz.ntmps105 rfl ?_
  repeat' (first | (first | (with_reducible refine p_tn ?_) | (with_reducible refine wp_seq ?_) | (with_reducible refine w_reg ?_)) | (first | (with_reducible refine l_nil ?_) | ((with_reducible refine g_on ?_); (first | ((with_reducible refine g_mv ?_); refine l_p txs rfl rfl ?_) | ((with_reducible refine g_as ?_); refine l_p txs rfl rfl ?_)))))
  (with_reducible refine is_l ?_); refine l_callv rfl rfl (by kernel_rfl) (copyCheck_c H hp) (fun w_ H => ?_)
  repeat' (first | (first | (with_reducible refine p_tn ?_) | (with_reducible refine wp_seq ?_) | (with_reducible refine w_reg ?_)) | (first | (with_reducible refine l_nil ?_) | ((with_reducible refine g_on ?_); ((with_reducible refine g_mv ?_); refine l_p txs rfl rfl ?_))))
  (with_reducible refine is_l ?_); refine l_nc rfl rfl ?_
  repeat' ((with_reducible refine g_on ?_); (first | ((with_reducible refine g_mv ?_); refine l_p txs rfl rfl ?_) | ((with_reducible refine g_fa ?_); refine h_fa flds rfl rfl ?_) | ((with_reducible refine g_ld ?_); (refine h_ld txs H 0 rfl rfl rfl rfl ?_))))
  (with_reducible refine is_l ?_); refine h_appS H 0 info_u8x Tryz.underlying23 Tryz.underlying9 rfl rfl rfl hs (fun v' w_ hv H => ?_)
  obtain ⟨A', c', rfl⟩ := hv
  skip
  (with_reducible refine is_l ?_); refine l_nc rfl rfl ?_
  repeat' (first | (first | (with_reducible refine p_tn ?_) | (with_reducible refine wp_seq ?_) | (with_reducible refine w_reg ?_) | (with_reducible refine wp_ret ?_)) | (first | (with_reducible refine l_nil ?_) | ((with_reducible refine g_on ?_); (first | ((with_reducible refine g_mv ?_); refine l_p txs rfl rfl ?_) | ((with_reducible refine g_as ?_); refine l_p txs rfl rfl ?_) | ((with_reducible refine g_fa ?_); refine h_fa flds rfl rfl ?_) | ((with_reducible refine g_st ?_); (refine h_st txs ones H 0 rfl rfl rfl rfl rfl rfl rfl rfl rfl (fun w_ H => ?_))) | ((with_reducible refine g_cl ?_); refine l_p txs rfl rfl ?_)))))
  refine end2 rfl rfl rfl ?_
  exact ⟨_, rfl, H⟩
set_option maxHeartbeats 4000000 in
theorem bWrite_c {w0 w : World} {b : Nat} {p v : Value} {xs : L} (H : Hp w0 w [entB b p v] [rowB v xs]) (hp : p = .pointer none ∨ p = ptrB b) {B : Option Addr} {c : Nat} {ys : L} (hr : ∀ w1, Below w0.heap.size w0 w1 → ReadsInt w1 .u8 B ys.length ys) (hs : xs.length + ys.length ≤ 140737488355328) :
    Calls Tryz.prog 106 #[ptrB b, .slice B ys.length c] w fun e w' => ∃ v', e = .returned (.tuple #[.int .i64 (ys.length : Int), .nilIface]) ∧ Hp w0 w' [entB b (ptrB b) v'] [rowB v' (xs ++ ys)] := by
  obtain ⟨A0, c0, he, _⟩ := H.rd 0 rfl
  have he : v = .slice A0 xs.length c0 := he
  subst he
  refine enter (args := [ptrB b, .slice B ys.length c]) Tryz.func106 rfl Tryz.ntmps106 rfl ?_
  repeat' (first | (first | (with_reducible refine p_tn ?_) | (with_reducible refine wp_seq ?_) | (with_reducible refine w_reg ?_)) | (first | (with_reducible refine l_nil ?_) | ((with_reducible refine g_on ?_); (first | ((with_reducible refine g_mv ?_); refine l_p txs rfl rfl ?_) | ((with_reducible refine g_as ?_); refine l_p txs rfl rfl ?_)))))
  (with_reducible refine is_l ?_); refine l_callv rfl rfl (by kernel_rfl) (copyCheck_c H hp) (fun w_ H => ?_)
  repeat' (first | (first | (with_reducible refine p_tn ?_) | (with_reducible refine wp_seq ?_) | (with_reducible refine w_reg ?_)) | (first | (with_reducible refine l_nil ?_) | ((with_reducible refine g_on ?_); ((with_reducible refine g_mv ?_); refine l_p txs rfl rfl ?_))))
  (with_reducible refine is_l ?_); refine l_nc rfl rfl ?_
  repeat' ((with_reducible refine g_on ?_); (first | ((with_reducible refine g_mv ?_); refine l_p txs rfl rfl ?_) | ((with_reducible refine g_fa ?_); refine h_fa flds rfl rfl ?_) | ((with_reducible refine g_ld ?_); (refine h_ld txs H 0 rfl rfl rfl rfl ?_))))
  (with_reducible refine is_l ?_); refine h_app H 0 rfl info_u8 Tryz.underlying23 rfl rfl rfl rfl (rd_of_reads (hr _ H.B)) (by simp [nums]) (by simp [nums, List.all_map]; intros; rfl) (by show (xs.length + ys.length) * 1 ≤ _; omega) (fun v' w_ hv H => ?_)
  obtain ⟨A', c', rfl⟩ := hv
  have e0 : nums .u8 xs ++ nums .u8 ys = nums .u8 (xs ++ ys) := (nums_append _ _ _).symm
  have hlt : (xs ++ ys).length = xs.length + ys.length := List.length_append
  simp only [e0] at H
  skip
  (with_reducible refine is_l ?_); refine l_nc rfl rfl ?_
  repeat' (first | (first | (with_reducible refine p_tn ?_) | (with_reducible refine wp_seq ?_) | (with_reducible refine w_reg ?_) | (with_reducible refine wp_ret ?_)) | (first | (with_reducible refine l_nil ?_) | ((with_reducible refine g_on ?_); (first | ((with_reducible refine g_mv ?_); refine l_p txs rfl rfl ?_) | ((with_reducible refine g_as ?_); refine l_p txs rfl rfl ?_) | ((with_reducible refine g_fa ?_); refine h_fa flds rfl rfl ?_) | ((with_reducible refine g_st ?_); (refine h_st txs ones H 0 rfl rfl rfl rfl rfl rfl rfl rfl rfl (fun w_ H => ?_))) | ((with_reducible refine g_cl ?_); refine l_p txs rfl rfl ?_)))))
  refine end2 rfl rfl rfl ?_
  unfold rowB
  rw [hlt]
  exact ⟨_, rfl, H⟩
end Go.Proofs.YthgojbdpmcccaaaGreatDoor.K
end
section
namespace Go.Proofs.YthgojbdpmcccaaaGreatDoor.K
open Go.RowKit Go.Proofs.YthgojbdpmcccaaaGreatDoor.Q Go.Proofs.YthgojbdpmcccaaaGreatDoor.Wb Go.Proofs.YthgojbdpmcccaaaGreatDoorW.PrintWords
set_option linter.unusedVariables false
set_option linter.unusedSimpArgs false
theorem bl_cat (s t : ByteArray) : bl (s ++ t) = bl s ++ bl t := by
  unfold bl
  rw [ByteArray.data_append, Array.toList_append, List.map_append]
theorem l_cvb {P : Program} {n : Nat} {ops : Array Oper} {Q : Exit → Act → World → Prop} {rest : List Oper} {f : Fr} {w : World} {d : Option Nat} {tt : TypeId} {ps : String} {af : Array Edge} {gd : Option (Nat × Bool)} {src dst e : TypeId} {x : Operand} {s : ByteArray} {u : TypeDesc}
    (hs : P.underlying src = some u) (hd : P.underlying dst = some (.slice e)) (he : P.underlying e = some (.int .u8)) (hw : want n ops f ⟨d, .convert src dst x, tt, ps, af, gd⟩ = true) (hx : nf (X n f x) = some (.string s))
    (h : WL P ops Q rest (act n (put f d (.slice (some ⟨w.heap.size, 0, none⟩) s.size (grownCap w s.size 0 e)))) (Lib.bytesWorld w e s)) : WL P ops Q (⟨d, .convert src dst x, tt, ps, af, gd⟩ :: rest) (act n f) w := by
  have hx' := nf_eq hx
  have hr := Lib.run_convert_string_bytes (P := P) w src dst e s hs hd he
  refine h_valw hw ?_ h
  unfold execOp
  simp [← hx', hr]
def linesF (l : List Fld) : L := l.flatMap fun f => lineF f ++ [13, 10]
theorem headF_lines' (l : List Fld) : headF l = linesF l ++ [13, 10] := by
  induction l with
  | nil => rfl
  | cons f r ih => simp only [headF, linesF, List.flatMap_cons] at ih ⊢; rw [ih]; simp
theorem lines_take {l : List Fld} {i : Nat} {x : Fld} (h : l[i]? = some x) : linesF (l.take (i + 1)) = linesF (l.take i) ++ (lineF x ++ [13, 10]) := by
  have hi : i < l.length := (List.getElem?_eq_some_iff.1 h).1
  have hx : l[i] = x := (List.getElem?_eq_some_iff.1 h).2
  unfold linesF
  rw [List.take_succ_eq_append_getElem hi, hx, List.flatMap_append]
  simp
theorem lines_len {l : List Fld} (h : headLen l ≤ 16384) (i : Nat) : (linesF (l.take i)).length ≤ 16384 := by
  have h1 : (linesF l).length + 2 = headLen l := by rw [← headF_length, headF_lines']; simp
  have h2 : linesF l = linesF (l.take i) ++ linesF (l.drop i) := by
    unfold linesF
    rw [← List.flatMap_append, List.take_append_drop]
  have h3 := congrArg List.length h2
  rw [List.length_append] at h3
  omega
/-- What whole ends in: bytes in a block of their own that ends in the mark of a text's bytes. -/
def WhR (w : World) (x : L) (e : Ending) (w' : World) : Prop := ∃ g cur c, e = .returned (.slice (some ⟨g, 0, none⟩) x.length c) ∧ x.length ≤ c ∧ Below w.heap.size w w' ∧ w.heap.size ≤ g ∧ w'.heap[g]? = some (.cells cur 5 (c, c + 1)) ∧ cur.size = c ∧ c ≤ maxLen ∧ cur.toList.take x.length = nums .u8 x
set_option maxHeartbeats 8000000 in
theorem whole_c {w : World} {B B2 : Option Addr} {c c2 : Nat} {l : List Fld} {body : L} {start : ByteArray} (h : Rd w B (fldC l)) (hb : BytesF l) (hl : headLen l ≤ 16384) (hr : ReadsInt w .u8 B2 body.length body) (hbb : Bytes body) (hbl : body.length ≤ 100000000) (hs : start.size ≤ 100000000) (hll : l.length ≤ 100000) :
    Calls Tryz.prog 53 #[.string start, .slice B l.length c, .slice B2 body.length c2] w (WhR w (wholeS (bl start) l body)) := by
  refine enter (args := [.string start, .slice B l.length c, .slice B2 body.length c2]) Tryz.func53 rfl Tryz.ntmps53 rfl ?_
  have H := (Hp.nil w).nilRow 5 1
  repeat' (first | (first | (with_reducible refine p_tn ?_) | (with_reducible refine wp_seq ?_) | (with_reducible refine w_reg ?_)) | (first | (with_reducible refine l_nil ?_) | ((with_reducible refine g_on ?_); (first | ((with_reducible refine g_mv ?_); refine l_p txs rfl rfl ?_) | ((with_reducible refine g_as ?_); refine l_p txs rfl rfl ?_) | ((with_reducible refine g_al ?_); refine h_alloc recs H rfl rfl (fun g_ w_ H => ?_))))))
  obtain ⟨gB, rfl⟩ : ∃ z, z = g_ := ⟨_, rfl⟩
  (with_reducible refine is_l ?_); refine l_cat rfl rfl (by show start.size + 2 ≤ _; omega) ?_
  skip
  (with_reducible refine is_l ?_); refine l_call rfl rfl (by kernel_rfl) (bWriteS_c (xs := []) H (.inl rfl) _ (by show 0 + (start ++ _).size ≤ _; rw [ByteArray.size_append]; show 0 + (start.size + 2) ≤ _; omega)) (fun e w_ hR => ?_)
  obtain ⟨v1, rfl, H⟩ := hR
  refine ⟨_, rfl, ?_⟩
  rw [List.nil_append, bl_cat] at H
  repeat' (first | (first | (with_reducible refine p_tn ?_) | (with_reducible refine wp_seq ?_) | (with_reducible refine wp_block ?_) | (with_reducible refine w_reg ?_)) | (first | (with_reducible refine l_nil ?_) | ((with_reducible refine g_on ?_); (first | ((with_reducible refine g_mv ?_); refine l_p txs rfl rfl ?_) | ((with_reducible refine g_cl ?_); refine l_p txs rfl rfl ?_)))))
  have e13 : bl (⟨#[13, 10]⟩ : ByteArray) = [13, 10] := rfl
  rw [e13] at H
  have hsl := bl_length start
  refine w_loop (σ := Nat × Value) (S := fun s => [(2, .slice B2 body.length c2), (7, ptrB gB), (13, .slice B l.length c), (14, .int .i64 (l.length : Int)), (15, .int .i64 (s.1 : Int))])
    (J := fun s w' => Hp w w' [entB gB (ptrB gB) s.2] [rowB s.2 (bl start ++ [13, 10] ++ linesF (l.take s.1))] ∧ s.1 ≤ l.length) (μ := fun s => l.length - s.1) (0, v1) ⟨rfl, rfl, rfl, rfl, rfl, trivial⟩ ⟨by simpa [linesF] using H, by omega⟩ ?_
  rintro ⟨i, v2⟩ f w_ ⟨H, hi⟩
  simp only at H hi ⊢
  have hll2 := lines_len hl i
  repeat' (first | (with_reducible refine wp_seq ?_) | (with_reducible refine w_reg ?_))
  (with_reducible refine is_l ?_); refine l_t txs rfl rfl (fun hlt => ?_) (fun hge => ?_)
  · obtain ⟨x, hx⟩ : ∃ x, l[i]? = some x := ⟨_, List.getElem?_eq_getElem (by omega)⟩
    obtain ⟨a1, rfl⟩ := rd_some h (i := i) (by omega)
    obtain ⟨bx1, bx2, lx1, lx2⟩ := hb x (List.mem_of_getElem? hx)
    have zx1 := sizeS' bx1
    have zx2 := sizeS' bx2
    have hlt' := lines_take hx
    repeat' (first | (first | (with_reducible refine p_tn ?_) | (with_reducible refine wp_seq ?_) | (with_reducible refine wp_block ?_) | (with_reducible refine w_reg ?_) | (with_reducible (refine is_if ?_; (refine w_ift rfl ?_))) | (with_reducible refine wp_skip ?_)) | (first | (with_reducible refine l_nil ?_) | ((with_reducible refine g_on ?_); ((with_reducible refine g_ia ?_); refine l_ia txs rfl rfl (by first | omega | assumption | decide) (by first | omega | assumption | decide) ?_))))
    rw [Int.toNat_natCast]
    (with_reducible refine is_l ?_); refine h_ldA recs (fld_part (h.below H.B) hx) rfl rfl rfl rfl ?_
    repeat' (first | (first | (with_reducible refine p_tn ?_) | (with_reducible refine w_reg ?_)) | (first | (with_reducible refine l_nil ?_) | ((with_reducible refine g_on ?_); (first | ((with_reducible refine g_fa ?_); refine h_fa flds rfl rfl ?_) | ((with_reducible refine g_ld ?_); (refine h_ld txs H 0 rfl rfl rfl rfl ?_)) | ((with_reducible refine g_st ?_); (refine h_stR recs H 0 rfl rfl rfl rfl rfl rfl rfl rfl rfl (fun w_ H => ?_))) | ((with_reducible refine g_al ?_); refine h_alloc recs H rfl rfl (fun g_ w_ H => ?_))))))
    have e2 : (⟨#[58, 32]⟩ : ByteArray).size = 2 := rfl
    have e3 : (⟨#[13, 10]⟩ : ByteArray).size = 2 := rfl
    (with_reducible refine is_l ?_); refine l_cat rfl rfl (by rw [e2]; omega) ?_
    repeat' ((with_reducible refine g_on ?_); (first | ((with_reducible refine g_fa ?_); refine h_fa flds rfl rfl ?_) | ((with_reducible refine g_ld ?_); (refine h_ld txs H 0 rfl rfl rfl rfl ?_))))
    (with_reducible refine is_l ?_); refine l_cat rfl rfl (by rw [ByteArray.size_append, e2]; omega) ?_
    skip
    (with_reducible refine is_l ?_); refine l_cat rfl rfl (by rw [ByteArray.size_append, ByteArray.size_append, e2, e3]; omega) ?_
    skip
    have HP := H.pick [1] [0] (by decide) (by decide) rfl rfl
    have hpre : (bl start ++ [13, 10] ++ linesF (l.take i)).length = start.size + 2 + (linesF (l.take i)).length := by simp [hsl]; omega
    (with_reducible refine is_l ?_); refine l_call rfl rfl (by kernel_rfl) (bWriteS_c HP (.inr rfl) _ (by rw [hpre, ByteArray.size_append, ByteArray.size_append, ByteArray.size_append, e2, e3]; omega)) (fun e w_ hR => ?_)
    obtain ⟨v3, rfl, H⟩ := hR
    refine ⟨_, rfl, ?_⟩
    rw [bl_cat, bl_cat, bl_cat, blS bx1, blS bx2] at H
    repeat' (first | (first | (with_reducible refine p_tn ?_) | (with_reducible refine p_bn ?_) | (with_reducible refine w_reg ?_)) | (first | (with_reducible refine l_nil ?_) | ((with_reducible refine g_on ?_); (first | ((with_reducible refine g_mv ?_); refine l_p txs rfl rfl ?_) | ((with_reducible refine g_bi ?_); (refine l_a txs rfl rfl (by first | exact in_i64 (by omega) (by omega) | exact in_u8 (by omega) (by omega) | exact in_u64 (by omega) (by omega) | exact in_i32 (by omega) (by omega)) ?_))))))
    refine ⟨(i + 1, v3), _, rfl, ⟨rfl, rfl, rfl, rfl, rfl, trivial⟩, ⟨?_, by show i + 1 ≤ _; omega⟩, by show _ - (i + 1) < _ - i; omega⟩
    show Hp w _ [entB gB (ptrB gB) v3] [rowB v3 (bl start ++ [13, 10] ++ linesF (l.take (i + 1)))]
    rw [hlt', ← List.append_assoc]
    exact H
  · have hall : l.take i = l := List.take_of_length_le (by omega)
    rw [hall] at H hll2
    have hpre : (bl start ++ [13, 10] ++ linesF l).length = start.size + 2 + (linesF l).length := by simp [hsl]; omega
    have e3 : (⟨#[13, 10]⟩ : ByteArray).size = 2 := rfl
    repeat' (first | (first | (with_reducible refine p_tn ?_) | (with_reducible refine p_tx ?_) | (with_reducible refine x_hit ?_) | (with_reducible refine wp_seq ?_) | (with_reducible refine w_reg ?_) | (with_reducible (refine is_if ?_; (refine w_iff rfl ?_))) | (with_reducible refine wp_exit ?_)) | (with_reducible refine l_nil ?_))
    (with_reducible refine is_l ?_); refine l_call rfl rfl (by kernel_rfl) (bWriteS_c H (.inr rfl) _ (by rw [hpre, e3]; omega)) (fun e w_ hR => ?_)
    obtain ⟨v3, rfl, H⟩ := hR
    refine ⟨_, rfl, ?_⟩
    have e13 : bl (⟨#[13, 10]⟩ : ByteArray) = [13, 10] := rfl
    rw [e13] at H
    repeat' (first | (first | (with_reducible refine p_tn ?_) | (with_reducible refine wp_seq ?_) | (with_reducible refine w_reg ?_)) | (first | (with_reducible refine l_nil ?_) | ((with_reducible refine g_on ?_); ((with_reducible refine g_mv ?_); refine l_p txs rfl rfl ?_))))
    (with_reducible refine is_l ?_); refine l_call rfl rfl (by kernel_rfl) (bWrite_c H (.inr rfl) (fun w1 K => hr.below K) (by rw [List.length_append, hpre]; show _ + 2 + _ ≤ _; omega)) (fun e w_ hR => ?_)
    obtain ⟨v4, rfl, H⟩ := hR
    refine ⟨_, rfl, ?_⟩
    have hw : bl start ++ [13, 10] ++ linesF l ++ [13, 10] ++ body = wholeS (bl start) l body := by
      unfold wholeS
      rw [headF_lines']
      simp only [List.append_assoc]
    rw [hw] at H
    have hX : Bytes (wholeS (bl start) l body) := by
      unfold wholeS
      rw [headF_lines']
      intro y hy
      simp only [List.mem_append] at hy
      rcases hy with ((hy | hy) | hy | hy) | hy
      · exact bl_bytes _ y hy
      · simp only [List.mem_cons, List.not_mem_nil, or_false] at hy; omega
      · unfold linesF at hy
        obtain ⟨f1, hf1, hy⟩ := List.mem_flatMap.1 hy
        obtain ⟨k1, k2, _, _⟩ := hb f1 hf1
        unfold lineF at hy
        simp only [List.mem_append] at hy
        rcases hy with ((hy | hy) | hy) | hy
        · exact k1 y hy
        · simp only [List.mem_cons, List.not_mem_nil, or_false] at hy; omega
        · exact k2 y hy
        · simp only [List.mem_cons, List.not_mem_nil, or_false] at hy; omega
      · simp only [List.mem_cons, List.not_mem_nil, or_false] at hy; omega
      · exact hbb y hy
    have hlenX : (wholeS (bl start) l body).length ≤ 200100000 := by rw [← hw, List.length_append, List.length_append, hpre]; show _ + 2 + _ ≤ _; omega
    generalize wholeS (bl start) l body = Y at H hX hlenX ⊢
    obtain ⟨sX, rfl⟩ : ∃ sX, Y = bl sX := ⟨strOfNums Y, (blS hX).symm⟩
    have hsX := bl_length sX
    have hcells : nums .u8 (bl sX) = Lib.byteCells sX.data.toList := by simp [nums, bl, Lib.byteCells]
    have hlenC : (bl sX).length = (Lib.byteCells sX.data.toList).length := by simp [bl, Lib.byteCells]
    have hIs : Lib.IsBuilder bT 5 w.heap.size gB (Lib.byteCells sX.data.toList) w_ := by
      have h1 := H.row 0 _ rfl
      have h2 := H.blk 0 _ rfl
      have h3 := H.ndm 0 0 _ _ rfl rfl
      simp only [hcells, hlenC] at h1
      exact .inr ⟨h2.1, v4, h2.2, h1, h3⟩
    repeat' (first | (first | (with_reducible refine p_tn ?_) | (with_reducible refine wp_seq ?_) | (with_reducible refine w_reg ?_)) | (with_reducible refine l_nil ?_))
    (with_reducible refine is_l ?_); refine l_callv rfl rfl (by kernel_rfl) (Tryz.Builder_String_any w.heap.size gB sX.data.toList w_ hIs H.B.size) (fun w_ K => ?_)
    have es : (⟨sX.data.toList.toArray⟩ : ByteArray) = sX := by cases sX; simp
    rw [es]
    (with_reducible refine is_l ?_); refine l_cvb Tryz.underlying9 Tryz.underlying23 Tryz.underlying5 rfl rfl ?_
    repeat' (first | (first | (with_reducible refine p_tn ?_) | (with_reducible refine wp_ret ?_)) | (first | (with_reducible refine l_nil ?_) | ((with_reducible refine g_on ?_); ((with_reducible refine g_as ?_); refine l_p txs rfl rfl ?_))))
    refine end1 rfl rfl ?_
    have hge := grownCap_ge w_ sX.size 0 5
    have hcs : (Lib.bytesCells w_ 5 sX).size = grownCap w_ sX.size 0 5 := by
      unfold Lib.bytesCells
      simp only [Array.size_append, Array.size_map, Array.size_replicate]
      show sX.size + _ = _
      omega
    refine ⟨w_.heap.size, Lib.bytesCells w_ 5 sX, grownCap w_ sX.size 0 5, by rw [hsX], by omega, bytes_below (H.B.trans K) (H.B.trans K).size _ _, (H.B.trans K).size, ?_, hcs, grownCap_le_maxLen _ _ _ _ (by simp only [maxLen]; omega), ?_⟩
    · have := Lib.bytesWorld_at_new w_ 5 sX
      rw [hcs] at this
      exact this
    · unfold Lib.bytesCells
      rw [hcells, Array.toList_append, hlenC]
      have : (Lib.byteCells sX.data.toList).length = (sX.data.map fun b => Value.int .u8 (b.toNat : Int)).toList.length := by simp [Lib.byteCells]
      rw [this, List.take_left]
      simp [Lib.byteCells]
end Go.Proofs.YthgojbdpmcccaaaGreatDoor.K
end
section
namespace Go.Proofs.YthgojbdpmcccaaaGreatDoor.K
open Go.RowKit Go.Proofs.YthgojbdpmcccaaaGreatDoor.Q Go.Proofs.YthgojbdpmcccaaaGreatDoor.Wb Go.Proofs.YthgojbdpmcccaaaGreatDoorW.PrintWords
set_option linter.unusedVariables false
set_option linter.unusedSimpArgs false
/-- An error as it is answered: none at 0. -/
def ErrAt (A : Nat → Addr) (v : Value) (k : Nat) : Prop := if k = 0 then v = .nilIface else ErrOf A v k
theorem errAt_nil (A : Nat → Addr) : ErrAt A .nilIface 0 := rfl
theorem errAt_of {A : Nat → Addr} {v : Value} {k : Nat} (h0 : k ≠ 0) (h : ErrOf A v k) : ErrAt A v k := by unfold ErrAt; rw [if_neg h0]; exact h
set_option maxRecDepth 100000 in
set_option maxHeartbeats 8000000 in
theorem checkRequest_c {A : Nat → Addr} {w : World} (hE : LayS A w) {mx : Int} (hM : w.cell? ⟨20, 0, none⟩ = some (.int .i64 mx)) {tM : TypeId} {frM : Nat × Nat} (hT : w.heap[17]? = some (.cells meC tM frM))
    (r : ReqS) {F B1 : Option Addr} {f1 b1 : Nat} (hm : Bytes r.method) (ht : Bytes r.target) (hml : r.method.length ≤ 100000000) (htl : r.target.length ≤ 100000000) (start : ByteArray) (hsl : start.size ≤ 1000000000)
    {B : Option Addr} {c : Nat} {l : List Fld} (hR : Rd w B (fldC l)) (hb : BytesF l) (hl : l.length ≤ 10000000) :
    Calls Tryz.prog 51 #[.agg (reqA r F f1 B1 b1), .string start, .slice B l.length c] w fun e w' => ∃ v, e = .returned v ∧ ErrAt A v (checkReqS r.method r.target r.minor (bl start) l r.body) ∧ Below w.heap.size w w' := by
  have hTb : ∀ w1, Below w.heap.size w w1 → w1.heap[17]? = some (.cells meC tM frM) := fun w1 K => (K.block _ (blk_lt hT)).trans hT
  have c2 := (hE.sent 2 (by decide) (by decide)).cell
  have c4 := (hE.sent 4 (by decide) (by decide)).cell
  have c6 := (hE.sent 6 (by decide) (by decide)).cell
  have c7 := (hE.sent 7 (by decide) (by decide)).cell
  have c10 := (hE.sent 10 (by decide) (by decide)).cell
  have c12 := (hE.sent 12 (by decide) (by decide)).cell
  have hbs := bl_length start
  have zm := sizeS' hm
  have zt := sizeS' ht
  refine enter (args := [.agg (reqA r F f1 B1 b1), .string start, .slice B l.length c]) Tryz.func51 rfl Tryz.ntmps51 rfl ?_
  have H := Hp.nil w
  generalize hk : checkReqS r.method r.target r.minor (bl start) l r.body = k
  unfold checkReqS at hk
  repeat' (first | (first | (with_reducible refine p_tn ?_) | (with_reducible refine wp_seq ?_) | (with_reducible refine wp_block ?_) | (with_reducible refine w_reg ?_)) | (first | (with_reducible refine l_nil ?_) | ((with_reducible refine g_on ?_); (first | ((with_reducible refine g_mv ?_); refine l_p txs rfl rfl ?_) | ((with_reducible refine g_as ?_); refine l_p txs rfl rfl ?_) | ((with_reducible refine g_bx ?_); refine h_box H rfl rfl rfl (fun g_ w_ H => ?_)) | ((with_reducible refine g_cl ?_); refine l_p txs rfl rfl ?_)))))
  (with_reducible refine is_l ?_); refine l_t txs rfl rfl (fun h1 => ?_) (fun h1 => ?_)
  · rw [if_pos (by omega)] at hk
    repeat' (first | (first | (with_reducible refine p_tn ?_) | (with_reducible refine wp_seq ?_) | (with_reducible refine w_reg ?_) | (with_reducible (refine is_if ?_; (refine w_ift rfl ?_)))) | (first | (with_reducible refine l_nil ?_) | ((with_reducible refine g_on ?_); ((with_reducible refine g_as ?_); refine l_p txs rfl rfl ?_))))
    (with_reducible refine is_l ?_); refine l_ld txs rfl rfl (H.old c2) ?_
    repeat' (first | (first | (with_reducible refine p_tn ?_) | (with_reducible refine p_tr ?_) | (with_reducible refine p_br ?_) | (with_reducible refine wp_ret ?_)) | (first | (with_reducible refine l_nil ?_) | ((with_reducible refine g_on ?_); ((with_reducible refine g_as ?_); refine l_p txs rfl rfl ?_))))
    refine end1 rfl rfl ?_
    subst hk
    exact ⟨_, rfl, errAt_of (by decide) ⟨2, by decide, by decide, rfl, .inl rfl⟩, H.B⟩
  rw [if_neg (by omega)] at hk
  repeat' (first | (first | (with_reducible refine p_tn ?_) | (with_reducible refine wp_seq ?_) | (with_reducible refine w_reg ?_) | (with_reducible (refine is_if ?_; (refine w_iff rfl ?_)))) | (first | (with_reducible refine l_nil ?_) | ((with_reducible refine g_on ?_); (first | ((with_reducible refine g_mv ?_); refine l_p txs rfl rfl ?_) | ((with_reducible refine g_as ?_); refine l_p txs rfl rfl ?_)))))
  have hlo := long_c (c := c) (hR.below H.B) hb hl
  by_cases h2 : 16384 < headLen l
  · rw [if_pos h2] at hk
    rw [decide_eq_true h2] at hlo
    (with_reducible refine is_l ?_); refine l_callv rfl rfl (by kernel_rfl) hlo (fun w_ K => ?_)
    have H := H.call K
    repeat' (first | (first | (with_reducible refine p_tn ?_) | (with_reducible refine wp_seq ?_) | (with_reducible refine w_reg ?_) | (with_reducible (refine is_if ?_; (refine w_ift rfl ?_)))) | (first | (with_reducible refine l_nil ?_) | ((with_reducible refine g_on ?_); ((with_reducible refine g_as ?_); refine l_p txs rfl rfl ?_))))
    (with_reducible refine is_l ?_); refine l_ld txs rfl rfl (H.old c4) ?_
    repeat' (first | (first | (with_reducible refine p_tn ?_) | (with_reducible refine p_tr ?_) | (with_reducible refine p_br ?_) | (with_reducible refine wp_ret ?_)) | (first | (with_reducible refine l_nil ?_) | ((with_reducible refine g_on ?_); ((with_reducible refine g_as ?_); refine l_p txs rfl rfl ?_))))
    refine end1 rfl rfl ?_
    subst hk
    exact ⟨_, rfl, errAt_of (by decide) ⟨4, by decide, by decide, rfl, .inl rfl⟩, H.B⟩
  rw [if_neg h2] at hk
  rw [decide_eq_false h2] at hlo
  (with_reducible refine is_l ?_); refine l_callv rfl rfl (by kernel_rfl) hlo (fun w_ K => ?_)
  have H := H.call K
  repeat' (first | (first | (with_reducible refine p_tn ?_) | (with_reducible refine wp_seq ?_) | (with_reducible refine w_reg ?_) | (with_reducible (refine is_if ?_; (refine w_iff rfl ?_)))) | (first | (with_reducible refine l_nil ?_) | ((with_reducible refine g_on ?_); (first | ((with_reducible refine g_as ?_); refine l_p txs rfl rfl ?_) | ((with_reducible refine g_fa ?_); refine h_fa flds rfl rfl ?_) | ((with_reducible refine g_ld ?_); (refine h_ld txs H 0 rfl rfl rfl rfl ?_))))))
  have hto := token_c (strOfNums r.method) w_ (by omega)
  rw [blS hm] at hto
  cases h3 : tokS r.method
  · rw [if_pos (.inl h3)] at hk
    rw [h3] at hto
    (with_reducible refine is_l ?_); refine l_callp rfl rfl (by kernel_rfl) hto ?_
    repeat' (first | (first | (with_reducible refine p_tn ?_) | (with_reducible refine wp_seq ?_) | (with_reducible refine w_reg ?_) | (with_reducible (refine is_if ?_; (refine w_ift rfl ?_)))) | (first | (with_reducible refine l_nil ?_) | ((with_reducible refine g_on ?_); (first | ((with_reducible refine g_mv ?_); refine l_p txs rfl rfl ?_) | ((with_reducible refine g_as ?_); refine l_p txs rfl rfl ?_) | ((with_reducible refine g_pk ?_); refine l_p txs rfl rfl ?_) | ((with_reducible refine g_un ?_); (refine l_p txs rfl rfl ?_)))) | ((with_reducible refine g_if ?_); (refine l_off rfl ?_))))
    (with_reducible refine is_l ?_); refine l_ld txs rfl rfl (H.old c6) ?_
    repeat' (first | (first | (with_reducible refine p_tn ?_) | (with_reducible refine p_tr ?_) | (with_reducible refine p_br ?_) | (with_reducible refine wp_ret ?_)) | (first | (with_reducible refine l_nil ?_) | ((with_reducible refine g_on ?_); ((with_reducible refine g_as ?_); refine l_p txs rfl rfl ?_))))
    refine end1 rfl rfl ?_
    subst hk
    exact ⟨_, rfl, errAt_of (by decide) ⟨6, by decide, by decide, rfl, .inl rfl⟩, H.B⟩
  rw [h3] at hto
  (with_reducible refine is_l ?_); refine l_callp rfl rfl (by kernel_rfl) hto ?_
  repeat' (first | ((with_reducible refine g_on ?_); (first | ((with_reducible refine g_mv ?_); refine l_p txs rfl rfl ?_) | ((with_reducible refine g_un ?_); (refine l_p txs rfl rfl ?_)))) | ((with_reducible refine g_if ?_); (first | ((with_reducible refine g_fa ?_); refine h_fa flds rfl rfl ?_) | ((with_reducible refine g_ld ?_); (refine h_ld txs H 0 rfl rfl rfl rfl ?_)))))
  (with_reducible refine is_l ?_); refine l_t txs rfl rfl (fun h4 => ?_) (fun h4 => ?_)
  · have h4' : r.target = [] := by rw [blS ht] at h4; exact h4
    rw [if_pos (.inr (.inl h4'))] at hk
    repeat' (first | (first | (with_reducible refine p_tn ?_) | (with_reducible refine wp_seq ?_) | (with_reducible refine w_reg ?_) | (with_reducible (refine is_if ?_; (refine w_ift rfl ?_)))) | (first | (with_reducible refine l_nil ?_) | ((with_reducible refine g_on ?_); (first | ((with_reducible refine g_mv ?_); refine l_p txs rfl rfl ?_) | ((with_reducible refine g_as ?_); refine l_p txs rfl rfl ?_) | ((with_reducible refine g_pk ?_); refine l_p txs rfl rfl ?_))) | ((with_reducible refine g_if ?_); (refine l_off rfl ?_))))
    (with_reducible refine is_l ?_); refine l_ld txs rfl rfl (H.old c6) ?_
    repeat' (first | (first | (with_reducible refine p_tn ?_) | (with_reducible refine p_tr ?_) | (with_reducible refine p_br ?_) | (with_reducible refine wp_ret ?_)) | (first | (with_reducible refine l_nil ?_) | ((with_reducible refine g_on ?_); ((with_reducible refine g_as ?_); refine l_p txs rfl rfl ?_))))
    refine end1 rfl rfl ?_
    subst hk
    exact ⟨_, rfl, errAt_of (by decide) ⟨6, by decide, by decide, rfl, .inl rfl⟩, H.B⟩
  have h4' : r.target ≠ [] := fun e => h4 (by rw [blS ht, e]; rfl)
  repeat' (first | ((with_reducible refine g_on ?_); (first | ((with_reducible refine g_mv ?_); refine l_p txs rfl rfl ?_) | ((with_reducible refine g_pk ?_); refine l_p txs rfl rfl ?_))) | ((with_reducible refine g_if ?_); (first | ((with_reducible refine g_fa ?_); refine h_fa flds rfl rfl ?_) | ((with_reducible refine g_ld ?_); (refine h_ld txs H 0 rfl rfl rfl rfl ?_)))))
  have hvi := all_c (strOfNums r.target) 100 visB kind_visible w_ (by omega)
  rw [blS ht] at hvi
  cases h5 : r.target.all visB
  · rw [if_pos (.inr (.inr h5))] at hk
    rw [h5] at hvi
    (with_reducible refine is_l ?_); refine l_callp rfl rfl (by kernel_rfl) hvi ?_
    repeat' (first | (first | (with_reducible refine p_tn ?_) | (with_reducible refine wp_seq ?_) | (with_reducible refine w_reg ?_) | (with_reducible (refine is_if ?_; (refine w_ift rfl ?_)))) | (first | (with_reducible refine l_nil ?_) | ((with_reducible refine g_on ?_); (first | ((with_reducible refine g_as ?_); refine l_p txs rfl rfl ?_) | ((with_reducible refine g_pk ?_); refine l_p txs rfl rfl ?_))) | ((with_reducible refine g_if ?_); ((with_reducible refine g_un ?_); (refine l_p txs rfl rfl ?_)))))
    (with_reducible refine is_l ?_); refine l_ld txs rfl rfl (H.old c6) ?_
    repeat' (first | (first | (with_reducible refine p_tn ?_) | (with_reducible refine p_tr ?_) | (with_reducible refine p_br ?_) | (with_reducible refine wp_ret ?_)) | (first | (with_reducible refine l_nil ?_) | ((with_reducible refine g_on ?_); ((with_reducible refine g_as ?_); refine l_p txs rfl rfl ?_))))
    refine end1 rfl rfl ?_
    subst hk
    exact ⟨_, rfl, errAt_of (by decide) ⟨6, by decide, by decide, rfl, .inl rfl⟩, H.B⟩
  rw [h5] at hvi
  rw [if_neg (by rw [h3, h5]; simp [h4'])] at hk
  (with_reducible refine is_l ?_); refine l_callp rfl rfl (by kernel_rfl) hvi ?_
  repeat' (first | (first | (with_reducible refine p_tn ?_) | (with_reducible refine wp_seq ?_) | (with_reducible refine w_reg ?_) | (with_reducible (refine is_if ?_; (refine w_iff rfl ?_)))) | (first | (with_reducible refine l_nil ?_) | ((with_reducible refine g_on ?_); (first | ((with_reducible refine g_as ?_); refine l_p txs rfl rfl ?_) | ((with_reducible refine g_pk ?_); refine l_p txs rfl rfl ?_) | ((with_reducible refine g_fa ?_); refine h_fa flds rfl rfl ?_) | ((with_reducible refine g_ld ?_); (refine h_ld txs H 0 rfl rfl rfl rfl ?_)))) | ((with_reducible refine g_if ?_); ((with_reducible refine g_un ?_); (refine l_p txs rfl rfl ?_)))))
  have hme := isMethod_c (hTb _ H.B) (strOfNums r.method)
  rw [blS hm] at hme
  cases h6 : methodsS.contains r.method
  · rw [if_pos h6] at hk
    rw [h6] at hme
    (with_reducible refine is_l ?_); refine l_callp rfl rfl (by kernel_rfl) hme ?_
    repeat' (first | (first | (with_reducible refine p_tn ?_) | (with_reducible refine wp_seq ?_) | (with_reducible refine w_reg ?_) | (with_reducible (refine is_if ?_; (refine w_ift rfl ?_)))) | (first | (with_reducible refine l_nil ?_) | ((with_reducible refine g_on ?_); (first | ((with_reducible refine g_as ?_); refine l_p txs rfl rfl ?_) | ((with_reducible refine g_un ?_); (refine l_p txs rfl rfl ?_))))))
    (with_reducible refine is_l ?_); refine l_ld txs rfl rfl (H.old c12) ?_
    repeat' (first | (first | (with_reducible refine p_tn ?_) | (with_reducible refine p_tr ?_) | (with_reducible refine p_br ?_) | (with_reducible refine wp_ret ?_)) | (first | (with_reducible refine l_nil ?_) | ((with_reducible refine g_on ?_); ((with_reducible refine g_as ?_); refine l_p txs rfl rfl ?_))))
    refine end1 rfl rfl ?_
    subst hk
    exact ⟨_, rfl, errAt_of (by decide) ⟨12, by decide, by decide, rfl, .inl rfl⟩, H.B⟩
  rw [h6] at hme
  rw [if_neg (by rw [h6]; simp)] at hk
  (with_reducible refine is_l ?_); refine l_callp rfl rfl (by kernel_rfl) hme ?_
  repeat' (first | (first | (with_reducible refine p_tn ?_) | (with_reducible refine wp_seq ?_) | (with_reducible refine w_reg ?_) | (with_reducible (refine is_if ?_; (refine w_iff rfl ?_)))) | (first | (with_reducible refine l_nil ?_) | ((with_reducible refine g_on ?_); (first | ((with_reducible refine g_as ?_); refine l_p txs rfl rfl ?_) | ((with_reducible refine g_fa ?_); refine h_fa flds rfl rfl ?_) | ((with_reducible refine g_ld ?_); (refine h_ld txs H 0 rfl rfl rfl rfl ?_)) | ((with_reducible refine g_un ?_); (refine l_p txs rfl rfl ?_))))))
  (with_reducible refine is_l ?_); refine l_t txs rfl rfl (fun h7 => ?_) (fun h7 => ?_)
  · repeat' (first | ((with_reducible refine g_on ?_); ((with_reducible refine g_mv ?_); refine l_p txs rfl rfl ?_)) | ((with_reducible refine g_if ?_); (first | ((with_reducible refine g_fa ?_); refine h_fa flds rfl rfl ?_) | ((with_reducible refine g_ld ?_); (refine h_ld txs H 0 rfl rfl rfl rfl ?_)))))
    (with_reducible refine is_l ?_); refine l_t txs rfl rfl (fun h8 => ?_) (fun h8 => ?_)
    · rw [if_pos ⟨by omega, by omega⟩] at hk
      repeat' (first | (first | (with_reducible refine p_tn ?_) | (with_reducible refine wp_seq ?_) | (with_reducible refine w_reg ?_) | (with_reducible (refine is_if ?_; (refine w_ift rfl ?_)))) | (first | (with_reducible refine l_nil ?_) | ((with_reducible refine g_on ?_); (first | ((with_reducible refine g_as ?_); refine l_p txs rfl rfl ?_) | ((with_reducible refine g_pk ?_); refine l_p txs rfl rfl ?_)))))
      (with_reducible refine is_l ?_); refine l_ld txs rfl rfl (H.old c7) ?_
      repeat' (first | (first | (with_reducible refine p_tn ?_) | (with_reducible refine p_tr ?_) | (with_reducible refine p_br ?_) | (with_reducible refine wp_ret ?_)) | (first | (with_reducible refine l_nil ?_) | ((with_reducible refine g_on ?_); ((with_reducible refine g_as ?_); refine l_p txs rfl rfl ?_))))
      refine end1 rfl rfl ?_
      subst hk
      exact ⟨_, rfl, errAt_of (by decide) ⟨7, by decide, by decide, rfl, .inl rfl⟩, H.B⟩
    · rw [if_neg (by omega)] at hk
      repeat' (first | (first | (with_reducible refine p_tn ?_) | (with_reducible refine p_bn ?_) | (with_reducible refine wp_seq ?_) | (with_reducible refine w_reg ?_) | (with_reducible (refine is_if ?_; (refine w_iff rfl ?_))) | (with_reducible refine wp_skip ?_)) | (first | (with_reducible refine l_nil ?_) | ((with_reducible refine g_on ?_); (first | ((with_reducible refine g_mv ?_); refine l_p txs rfl rfl ?_) | ((with_reducible refine g_as ?_); refine l_p txs rfl rfl ?_) | ((with_reducible refine g_pk ?_); refine l_p txs rfl rfl ?_)))))
      have hcf := checkFields_c (c := c) (hE.below H.B) (hR.below H.B) hb
      by_cases h9 : 64 < l.length
      · have hck : chkS l = some 4 := by unfold chkS; rw [if_pos h9]
        rw [if_pos h9] at hk
        rw [hck] at hcf
        (with_reducible refine is_l ?_); refine l_callv rfl rfl (by kernel_rfl) hcf (fun w_ K => ?_)
        have H := H.call K
        repeat' (first | (first | (with_reducible refine p_tn ?_) | (with_reducible refine wp_seq ?_) | (with_reducible refine w_reg ?_)) | (first | (with_reducible refine l_nil ?_) | ((with_reducible refine g_on ?_); (first | ((with_reducible refine g_mv ?_); refine l_p txs rfl rfl ?_) | ((with_reducible refine g_as ?_); refine l_p txs rfl rfl ?_)))))
        (with_reducible refine is_l ?_); refine l_t txs rfl rfl (fun _ => ?_) (fun hh => absurd trivial hh)
        repeat' (first | (first | (with_reducible refine p_tn ?_) | (with_reducible refine wp_seq ?_) | (with_reducible refine w_reg ?_) | (with_reducible (refine is_if ?_; (refine w_ift rfl ?_)))) | (first | (with_reducible refine l_nil ?_) | ((with_reducible refine g_on ?_); ((with_reducible refine g_mv ?_); refine l_p txs rfl rfl ?_))))
        (with_reducible refine is_l ?_); refine l_callp rfl rfl (by kernel_rfl) (in_c tFields _ _ _) ?_
        repeat' (first | (first | (with_reducible refine p_tn ?_) | (with_reducible refine p_tr ?_) | (with_reducible refine wp_ret ?_)) | (first | (with_reducible refine l_nil ?_) | ((with_reducible refine g_on ?_); ((with_reducible refine g_as ?_); refine l_p txs rfl rfl ?_))))
        refine end1 rfl rfl ?_
        subst hk
        exact ⟨_, rfl, errAt_of (by decide) ⟨4, by decide, by decide, rfl, .inr ⟨by decide, tFields, rfl⟩⟩, H.B⟩
      rw [if_neg h9] at hk
      cases h10 : l.all goodF
      · have hck : chkS l = some 8 := by unfold chkS; rw [if_neg h9, h10]; rfl
        rw [if_pos h10] at hk
        rw [hck] at hcf
        (with_reducible refine is_l ?_); refine l_callv rfl rfl (by kernel_rfl) hcf (fun w_ K => ?_)
        have H := H.call K
        repeat' (first | (first | (with_reducible refine p_tn ?_) | (with_reducible refine wp_seq ?_) | (with_reducible refine w_reg ?_)) | (first | (with_reducible refine l_nil ?_) | ((with_reducible refine g_on ?_); (first | ((with_reducible refine g_mv ?_); refine l_p txs rfl rfl ?_) | ((with_reducible refine g_as ?_); refine l_p txs rfl rfl ?_)))))
        (with_reducible refine is_l ?_); refine l_t txs rfl rfl (fun _ => ?_) (fun hh => absurd trivial hh)
        repeat' (first | (first | (with_reducible refine p_tn ?_) | (with_reducible refine wp_seq ?_) | (with_reducible refine w_reg ?_) | (with_reducible (refine is_if ?_; (refine w_ift rfl ?_)))) | (first | (with_reducible refine l_nil ?_) | ((with_reducible refine g_on ?_); ((with_reducible refine g_mv ?_); refine l_p txs rfl rfl ?_))))
        (with_reducible refine is_l ?_); refine l_callp rfl rfl (by kernel_rfl) (in_c tFields _ _ _) ?_
        repeat' (first | (first | (with_reducible refine p_tn ?_) | (with_reducible refine p_tr ?_) | (with_reducible refine wp_ret ?_)) | (first | (with_reducible refine l_nil ?_) | ((with_reducible refine g_on ?_); ((with_reducible refine g_as ?_); refine l_p txs rfl rfl ?_))))
        refine end1 rfl rfl ?_
        subst hk
        exact ⟨_, rfl, errAt_of (by decide) ⟨8, by decide, by decide, rfl, .inr ⟨by decide, tFields, rfl⟩⟩, H.B⟩
      have hck : chkS l = none := by unfold chkS; rw [if_neg h9, h10]; rfl
      rw [if_neg (by rw [h10]; simp)] at hk
      rw [hck] at hcf
      (with_reducible refine is_l ?_); refine l_callv rfl rfl (by kernel_rfl) hcf (fun w_ K => ?_)
      have H := H.call K
      repeat' (first | (first | (with_reducible refine p_tn ?_) | (with_reducible refine wp_seq ?_) | (with_reducible refine w_reg ?_)) | (first | (with_reducible refine l_nil ?_) | ((with_reducible refine g_on ?_); (first | ((with_reducible refine g_mv ?_); refine l_p txs rfl rfl ?_) | ((with_reducible refine g_as ?_); refine l_p txs rfl rfl ?_)))))
      (with_reducible refine is_l ?_); refine l_t txs rfl rfl (fun hh => absurd hh (by simp)) (fun _ => ?_)
      repeat' (first | (first | (with_reducible refine p_tn ?_) | (with_reducible refine wp_seq ?_) | (with_reducible (refine is_if ?_; (refine w_iff rfl ?_))) | (with_reducible refine wp_skip ?_)) | (with_reducible refine l_nil ?_))
      have hho := fun (w1 : World) (K : Below w.heap.size w w1) => checkHost_c (hE.below K) (frmS l) (frm_host l hb) r.minor
      rw [host_bad hb] at hho
      cases h11 : hostOk l r.minor
      · rw [if_pos h11] at hk
        rw [h11] at hho
        have HS := H.pick [0] [] (by decide) (by decide) rfl rfl
        refine d_start (fun w_ => Hp w w_ _ _) #[false, false, false, false, false, false] (by kernel_rfl) rfl rfl HS.drew ?_
        have H := H.drew
        have HS := HS.drew
        first | (refine d_pure (i := 0) #[true, false, false, false, false, false] rfl (by kernel_rfl) (fun _ _ _ h => h) rfl (fun w_ => evP_run (o := ⟨_, _, _, _, _, _⟩) txs rfl) ?_)
        first | (refine d_pure (i := 2) #[true, false, true, false, false, false] rfl (by kernel_rfl) (fun _ _ _ h => h) rfl (fun w_ => evF_run (o := ⟨_, _, _, _, _, _⟩) flds rfl) ?_) | (refine d_pure (i := 2) #[true, false, true, false, false, false] rfl (by kernel_rfl) (fun _ _ _ h => h) rfl (fun w_ => evG_run (o := ⟨_, _, _, _, _, _⟩) flds rfl) ?_)
        first | (refine d_take (i := 3) #[true, false, true, true, false, false] rfl (by kernel_rfl) (fun _ _ _ h => h) rfl (fun w_ K => evL_run (o := ⟨_, _, _, _, _, _⟩) txs rfl (K.cellAt 0 rfl rfl)) HS ?_)
        refine d_one (i := 1) #[true, true, true, true, false, false] rfl (by kernel_rfl) rfl ?_
        refine l_callv rfl rfl (by kernel_rfl) (framingOf_c (c := c) (H.old hM) (hR.below H.B) hb (by omega)) (fun w_ K => ?_); have H := H.call K
        refine l_nil ?_
        have HS := H.pick [0] [] (by decide) (by decide) rfl rfl
        refine ⟨rfl, HS, ?_⟩
        refine d_one (i := 4) #[true, true, true, true, true, false] rfl (by kernel_rfl) rfl ?_
        refine l_callv rfl rfl (by kernel_rfl) (hho _ H.B) (fun w_ K => ?_); have H := H.call K
        refine l_nil ?_
        have HS := H.pick [0] [] (by decide) (by decide) rfl rfl
        refine ⟨rfl, HS, ?_⟩
        first | (refine d_pure (i := 5) #[true, true, true, true, true, true] rfl (by kernel_rfl) (fun _ _ _ h => h) rfl (fun w_ => evP_run (o := ⟨_, _, _, _, _, _⟩) txs rfl) ?_)
        refine d_done rfl ?_
        repeat' (first | (first | (with_reducible refine p_tn ?_) | (with_reducible refine wp_seq ?_) | (with_reducible refine w_reg ?_)) | ((with_reducible refine g_on ?_); ((with_reducible refine g_mv ?_); refine l_p txs rfl rfl ?_)))
        (with_reducible refine is_l ?_); refine l_t txs rfl rfl (fun _ => ?_) (fun hh => absurd trivial hh)
        repeat' (first | (first | (with_reducible refine p_tn ?_) | (with_reducible refine p_tr ?_) | (with_reducible refine wp_seq ?_) | (with_reducible refine w_reg ?_) | (with_reducible (refine is_if ?_; (refine w_ift rfl ?_))) | (with_reducible refine wp_ret ?_)) | (first | (with_reducible refine l_nil ?_) | ((with_reducible refine g_on ?_); (first | ((with_reducible refine g_mv ?_); refine l_p txs rfl rfl ?_) | ((with_reducible refine g_as ?_); refine l_p txs rfl rfl ?_)))))
        refine end1 rfl rfl ?_
        subst hk
        exact ⟨_, rfl, errAt_of (by decide) ⟨9, by decide, by decide, rfl, .inl rfl⟩, H.B⟩
      rw [if_neg (by rw [h11]; simp)] at hk
      rw [h11] at hho
      have HS := H.pick [0] [] (by decide) (by decide) rfl rfl
      refine d_start (fun w_ => Hp w w_ _ _) #[false, false, false, false, false, false] (by kernel_rfl) rfl rfl HS.drew ?_
      have H := H.drew
      have HS := HS.drew
      first | (refine d_pure (i := 0) #[true, false, false, false, false, false] rfl (by kernel_rfl) (fun _ _ _ h => h) rfl (fun w_ => evP_run (o := ⟨_, _, _, _, _, _⟩) txs rfl) ?_)
      first | (refine d_pure (i := 2) #[true, false, true, false, false, false] rfl (by kernel_rfl) (fun _ _ _ h => h) rfl (fun w_ => evF_run (o := ⟨_, _, _, _, _, _⟩) flds rfl) ?_) | (refine d_pure (i := 2) #[true, false, true, false, false, false] rfl (by kernel_rfl) (fun _ _ _ h => h) rfl (fun w_ => evG_run (o := ⟨_, _, _, _, _, _⟩) flds rfl) ?_)
      first | (refine d_take (i := 3) #[true, false, true, true, false, false] rfl (by kernel_rfl) (fun _ _ _ h => h) rfl (fun w_ K => evL_run (o := ⟨_, _, _, _, _, _⟩) txs rfl (K.cellAt 0 rfl rfl)) HS ?_)
      refine d_one (i := 1) #[true, true, true, true, false, false] rfl (by kernel_rfl) rfl ?_
      refine l_callv rfl rfl (by kernel_rfl) (framingOf_c (c := c) (H.old hM) (hR.below H.B) hb (by omega)) (fun w_ K => ?_); have H := H.call K
      refine l_nil ?_
      have HS := H.pick [0] [] (by decide) (by decide) rfl rfl
      refine ⟨rfl, HS, ?_⟩
      refine d_one (i := 4) #[true, true, true, true, true, false] rfl (by kernel_rfl) rfl ?_
      refine l_callv rfl rfl (by kernel_rfl) (hho _ H.B) (fun w_ K => ?_); have H := H.call K
      refine l_nil ?_
      have HS := H.pick [0] [] (by decide) (by decide) rfl rfl
      refine ⟨rfl, HS, ?_⟩
      first | (refine d_pure (i := 5) #[true, true, true, true, true, true] rfl (by kernel_rfl) (fun _ _ _ h => h) rfl (fun w_ => evP_run (o := ⟨_, _, _, _, _, _⟩) txs rfl) ?_)
      refine d_done rfl ?_
      repeat' (first | (first | (with_reducible refine p_tn ?_) | (with_reducible refine wp_seq ?_) | (with_reducible refine w_reg ?_)) | ((with_reducible refine g_on ?_); ((with_reducible refine g_mv ?_); refine l_p txs rfl rfl ?_)))
      (with_reducible refine is_l ?_); refine l_t txs rfl rfl (fun hh => absurd hh (by simp)) (fun _ => ?_)
      repeat' (first | (first | (with_reducible refine p_tn ?_) | (with_reducible refine wp_seq ?_) | (with_reducible refine w_reg ?_) | (with_reducible (refine is_if ?_; (refine w_iff rfl ?_))) | (with_reducible refine wp_skip ?_)) | (first | (with_reducible refine l_nil ?_) | ((with_reducible refine g_on ?_); (first | ((with_reducible refine g_fa ?_); refine h_fa flds rfl rfl ?_) | ((with_reducible refine g_ld ?_); (refine h_ld txs H 0 rfl rfl rfl rfl ?_)) | ((with_reducible refine g_cl ?_); refine l_p txs rfl rfl ?_)))))
      (with_reducible refine is_l ?_); refine l_t txs rfl rfl (fun h12 => ?_) (fun h12 => ?_)
      · rw [if_pos (by omega)] at hk
        repeat' (first | (first | (with_reducible refine p_tn ?_) | (with_reducible refine wp_seq ?_) | (with_reducible refine w_reg ?_) | (with_reducible (refine is_if ?_; (refine w_ift rfl ?_)))) | (with_reducible refine l_nil ?_))
        (with_reducible refine is_l ?_); refine l_ld txs rfl rfl (H.old c10) ?_
        repeat' (first | (first | (with_reducible refine p_tn ?_) | (with_reducible refine p_tr ?_) | (with_reducible refine wp_ret ?_)) | (first | (with_reducible refine l_nil ?_) | ((with_reducible refine g_on ?_); ((with_reducible refine g_as ?_); refine l_p txs rfl rfl ?_))))
        refine end1 rfl rfl ?_
        subst hk
        exact ⟨_, rfl, errAt_of (by decide) ⟨10, by decide, by decide, rfl, .inl rfl⟩, H.B⟩
      rw [if_neg (by omega)] at hk
      repeat' (first | (first | (with_reducible refine p_tn ?_) | (with_reducible refine wp_seq ?_) | (with_reducible refine w_reg ?_) | (with_reducible (refine is_if ?_; (refine w_iff rfl ?_))) | (with_reducible refine wp_skip ?_) | (with_reducible refine wp_ret ?_)) | (first | (with_reducible refine l_nil ?_) | ((with_reducible refine g_on ?_); ((with_reducible refine g_as ?_); refine l_p txs rfl rfl ?_))))
      refine end1 rfl rfl ?_
      subst hk
      exact ⟨_, rfl, errAt_nil A, H.B⟩
  · rw [if_neg (by omega)] at hk
    repeat' (first | (first | (with_reducible refine p_tn ?_) | (with_reducible refine p_bn ?_) | (with_reducible refine wp_seq ?_) | (with_reducible refine w_reg ?_) | (with_reducible (refine is_if ?_; (refine w_iff rfl ?_))) | (with_reducible refine wp_skip ?_)) | (first | (with_reducible refine l_nil ?_) | ((with_reducible refine g_on ?_); (first | ((with_reducible refine g_mv ?_); refine l_p txs rfl rfl ?_) | ((with_reducible refine g_as ?_); refine l_p txs rfl rfl ?_) | ((with_reducible refine g_pk ?_); refine l_p txs rfl rfl ?_))) | ((with_reducible refine g_if ?_); (refine l_off rfl ?_))))
    have hcf := checkFields_c (c := c) (hE.below H.B) (hR.below H.B) hb
    by_cases h9 : 64 < l.length
    · have hck : chkS l = some 4 := by unfold chkS; rw [if_pos h9]
      rw [if_pos h9] at hk
      rw [hck] at hcf
      (with_reducible refine is_l ?_); refine l_callv rfl rfl (by kernel_rfl) hcf (fun w_ K => ?_)
      have H := H.call K
      repeat' (first | (first | (with_reducible refine p_tn ?_) | (with_reducible refine wp_seq ?_) | (with_reducible refine w_reg ?_)) | (first | (with_reducible refine l_nil ?_) | ((with_reducible refine g_on ?_); (first | ((with_reducible refine g_mv ?_); refine l_p txs rfl rfl ?_) | ((with_reducible refine g_as ?_); refine l_p txs rfl rfl ?_)))))
      (with_reducible refine is_l ?_); refine l_t txs rfl rfl (fun _ => ?_) (fun hh => absurd trivial hh)
      repeat' (first | (first | (with_reducible refine p_tn ?_) | (with_reducible refine wp_seq ?_) | (with_reducible refine w_reg ?_) | (with_reducible (refine is_if ?_; (refine w_ift rfl ?_)))) | (first | (with_reducible refine l_nil ?_) | ((with_reducible refine g_on ?_); ((with_reducible refine g_mv ?_); refine l_p txs rfl rfl ?_))))
      (with_reducible refine is_l ?_); refine l_callp rfl rfl (by kernel_rfl) (in_c tFields _ _ _) ?_
      repeat' (first | (first | (with_reducible refine p_tn ?_) | (with_reducible refine p_tr ?_) | (with_reducible refine wp_ret ?_)) | (first | (with_reducible refine l_nil ?_) | ((with_reducible refine g_on ?_); ((with_reducible refine g_as ?_); refine l_p txs rfl rfl ?_))))
      refine end1 rfl rfl ?_
      subst hk
      exact ⟨_, rfl, errAt_of (by decide) ⟨4, by decide, by decide, rfl, .inr ⟨by decide, tFields, rfl⟩⟩, H.B⟩
    rw [if_neg h9] at hk
    cases h10 : l.all goodF
    · have hck : chkS l = some 8 := by unfold chkS; rw [if_neg h9, h10]; rfl
      rw [if_pos h10] at hk
      rw [hck] at hcf
      (with_reducible refine is_l ?_); refine l_callv rfl rfl (by kernel_rfl) hcf (fun w_ K => ?_)
      have H := H.call K
      repeat' (first | (first | (with_reducible refine p_tn ?_) | (with_reducible refine wp_seq ?_) | (with_reducible refine w_reg ?_)) | (first | (with_reducible refine l_nil ?_) | ((with_reducible refine g_on ?_); (first | ((with_reducible refine g_mv ?_); refine l_p txs rfl rfl ?_) | ((with_reducible refine g_as ?_); refine l_p txs rfl rfl ?_)))))
      (with_reducible refine is_l ?_); refine l_t txs rfl rfl (fun _ => ?_) (fun hh => absurd trivial hh)
      repeat' (first | (first | (with_reducible refine p_tn ?_) | (with_reducible refine wp_seq ?_) | (with_reducible refine w_reg ?_) | (with_reducible (refine is_if ?_; (refine w_ift rfl ?_)))) | (first | (with_reducible refine l_nil ?_) | ((with_reducible refine g_on ?_); ((with_reducible refine g_mv ?_); refine l_p txs rfl rfl ?_))))
      (with_reducible refine is_l ?_); refine l_callp rfl rfl (by kernel_rfl) (in_c tFields _ _ _) ?_
      repeat' (first | (first | (with_reducible refine p_tn ?_) | (with_reducible refine p_tr ?_) | (with_reducible refine wp_ret ?_)) | (first | (with_reducible refine l_nil ?_) | ((with_reducible refine g_on ?_); ((with_reducible refine g_as ?_); refine l_p txs rfl rfl ?_))))
      refine end1 rfl rfl ?_
      subst hk
      exact ⟨_, rfl, errAt_of (by decide) ⟨8, by decide, by decide, rfl, .inr ⟨by decide, tFields, rfl⟩⟩, H.B⟩
    have hck : chkS l = none := by unfold chkS; rw [if_neg h9, h10]; rfl
    rw [if_neg (by rw [h10]; simp)] at hk
    rw [hck] at hcf
    (with_reducible refine is_l ?_); refine l_callv rfl rfl (by kernel_rfl) hcf (fun w_ K => ?_)
    have H := H.call K
    repeat' (first | (first | (with_reducible refine p_tn ?_) | (with_reducible refine wp_seq ?_) | (with_reducible refine w_reg ?_)) | (first | (with_reducible refine l_nil ?_) | ((with_reducible refine g_on ?_); (first | ((with_reducible refine g_mv ?_); refine l_p txs rfl rfl ?_) | ((with_reducible refine g_as ?_); refine l_p txs rfl rfl ?_)))))
    (with_reducible refine is_l ?_); refine l_t txs rfl rfl (fun hh => absurd hh (by simp)) (fun _ => ?_)
    repeat' (first | (first | (with_reducible refine p_tn ?_) | (with_reducible refine wp_seq ?_) | (with_reducible (refine is_if ?_; (refine w_iff rfl ?_))) | (with_reducible refine wp_skip ?_)) | (with_reducible refine l_nil ?_))
    have hho := fun (w1 : World) (K : Below w.heap.size w w1) => checkHost_c (hE.below K) (frmS l) (frm_host l hb) r.minor
    rw [host_bad hb] at hho
    cases h11 : hostOk l r.minor
    · rw [if_pos h11] at hk
      rw [h11] at hho
      have HS := H.pick [0] [] (by decide) (by decide) rfl rfl
      refine d_start (fun w_ => Hp w w_ _ _) #[false, false, false, false, false, false] (by kernel_rfl) rfl rfl HS.drew ?_
      have H := H.drew
      have HS := HS.drew
      first | (refine d_pure (i := 0) #[true, false, false, false, false, false] rfl (by kernel_rfl) (fun _ _ _ h => h) rfl (fun w_ => evP_run (o := ⟨_, _, _, _, _, _⟩) txs rfl) ?_)
      first | (refine d_pure (i := 2) #[true, false, true, false, false, false] rfl (by kernel_rfl) (fun _ _ _ h => h) rfl (fun w_ => evF_run (o := ⟨_, _, _, _, _, _⟩) flds rfl) ?_) | (refine d_pure (i := 2) #[true, false, true, false, false, false] rfl (by kernel_rfl) (fun _ _ _ h => h) rfl (fun w_ => evG_run (o := ⟨_, _, _, _, _, _⟩) flds rfl) ?_)
      first | (refine d_take (i := 3) #[true, false, true, true, false, false] rfl (by kernel_rfl) (fun _ _ _ h => h) rfl (fun w_ K => evL_run (o := ⟨_, _, _, _, _, _⟩) txs rfl (K.cellAt 0 rfl rfl)) HS ?_)
      refine d_one (i := 1) #[true, true, true, true, false, false] rfl (by kernel_rfl) rfl ?_
      refine l_callv rfl rfl (by kernel_rfl) (framingOf_c (c := c) (H.old hM) (hR.below H.B) hb (by omega)) (fun w_ K => ?_); have H := H.call K
      refine l_nil ?_
      have HS := H.pick [0] [] (by decide) (by decide) rfl rfl
      refine ⟨rfl, HS, ?_⟩
      refine d_one (i := 4) #[true, true, true, true, true, false] rfl (by kernel_rfl) rfl ?_
      refine l_callv rfl rfl (by kernel_rfl) (hho _ H.B) (fun w_ K => ?_); have H := H.call K
      refine l_nil ?_
      have HS := H.pick [0] [] (by decide) (by decide) rfl rfl
      refine ⟨rfl, HS, ?_⟩
      first | (refine d_pure (i := 5) #[true, true, true, true, true, true] rfl (by kernel_rfl) (fun _ _ _ h => h) rfl (fun w_ => evP_run (o := ⟨_, _, _, _, _, _⟩) txs rfl) ?_)
      refine d_done rfl ?_
      repeat' (first | (first | (with_reducible refine p_tn ?_) | (with_reducible refine wp_seq ?_) | (with_reducible refine w_reg ?_)) | ((with_reducible refine g_on ?_); ((with_reducible refine g_mv ?_); refine l_p txs rfl rfl ?_)))
      (with_reducible refine is_l ?_); refine l_t txs rfl rfl (fun _ => ?_) (fun hh => absurd trivial hh)
      repeat' (first | (first | (with_reducible refine p_tn ?_) | (with_reducible refine p_tr ?_) | (with_reducible refine wp_seq ?_) | (with_reducible refine w_reg ?_) | (with_reducible (refine is_if ?_; (refine w_ift rfl ?_))) | (with_reducible refine wp_ret ?_)) | (first | (with_reducible refine l_nil ?_) | ((with_reducible refine g_on ?_); (first | ((with_reducible refine g_mv ?_); refine l_p txs rfl rfl ?_) | ((with_reducible refine g_as ?_); refine l_p txs rfl rfl ?_)))))
      refine end1 rfl rfl ?_
      subst hk
      exact ⟨_, rfl, errAt_of (by decide) ⟨9, by decide, by decide, rfl, .inl rfl⟩, H.B⟩
    rw [if_neg (by rw [h11]; simp)] at hk
    rw [h11] at hho
    have HS := H.pick [0] [] (by decide) (by decide) rfl rfl
    refine d_start (fun w_ => Hp w w_ _ _) #[false, false, false, false, false, false] (by kernel_rfl) rfl rfl HS.drew ?_
    have H := H.drew
    have HS := HS.drew
    first | (refine d_pure (i := 0) #[true, false, false, false, false, false] rfl (by kernel_rfl) (fun _ _ _ h => h) rfl (fun w_ => evP_run (o := ⟨_, _, _, _, _, _⟩) txs rfl) ?_)
    first | (refine d_pure (i := 2) #[true, false, true, false, false, false] rfl (by kernel_rfl) (fun _ _ _ h => h) rfl (fun w_ => evF_run (o := ⟨_, _, _, _, _, _⟩) flds rfl) ?_) | (refine d_pure (i := 2) #[true, false, true, false, false, false] rfl (by kernel_rfl) (fun _ _ _ h => h) rfl (fun w_ => evG_run (o := ⟨_, _, _, _, _, _⟩) flds rfl) ?_)
    first | (refine d_take (i := 3) #[true, false, true, true, false, false] rfl (by kernel_rfl) (fun _ _ _ h => h) rfl (fun w_ K => evL_run (o := ⟨_, _, _, _, _, _⟩) txs rfl (K.cellAt 0 rfl rfl)) HS ?_)
    refine d_one (i := 1) #[true, true, true, true, false, false] rfl (by kernel_rfl) rfl ?_
    refine l_callv rfl rfl (by kernel_rfl) (framingOf_c (c := c) (H.old hM) (hR.below H.B) hb (by omega)) (fun w_ K => ?_); have H := H.call K
    refine l_nil ?_
    have HS := H.pick [0] [] (by decide) (by decide) rfl rfl
    refine ⟨rfl, HS, ?_⟩
    refine d_one (i := 4) #[true, true, true, true, true, false] rfl (by kernel_rfl) rfl ?_
    refine l_callv rfl rfl (by kernel_rfl) (hho _ H.B) (fun w_ K => ?_); have H := H.call K
    refine l_nil ?_
    have HS := H.pick [0] [] (by decide) (by decide) rfl rfl
    refine ⟨rfl, HS, ?_⟩
    first | (refine d_pure (i := 5) #[true, true, true, true, true, true] rfl (by kernel_rfl) (fun _ _ _ h => h) rfl (fun w_ => evP_run (o := ⟨_, _, _, _, _, _⟩) txs rfl) ?_)
    refine d_done rfl ?_
    repeat' (first | (first | (with_reducible refine p_tn ?_) | (with_reducible refine wp_seq ?_) | (with_reducible refine w_reg ?_)) | ((with_reducible refine g_on ?_); ((with_reducible refine g_mv ?_); refine l_p txs rfl rfl ?_)))
    (with_reducible refine is_l ?_); refine l_t txs rfl rfl (fun hh => absurd hh (by simp)) (fun _ => ?_)
    repeat' (first | (first | (with_reducible refine p_tn ?_) | (with_reducible refine wp_seq ?_) | (with_reducible refine w_reg ?_) | (with_reducible (refine is_if ?_; (refine w_iff rfl ?_))) | (with_reducible refine wp_skip ?_)) | (first | (with_reducible refine l_nil ?_) | ((with_reducible refine g_on ?_); (first | ((with_reducible refine g_fa ?_); refine h_fa flds rfl rfl ?_) | ((with_reducible refine g_ld ?_); (refine h_ld txs H 0 rfl rfl rfl rfl ?_)) | ((with_reducible refine g_cl ?_); refine l_p txs rfl rfl ?_)))))
    (with_reducible refine is_l ?_); refine l_t txs rfl rfl (fun h12 => ?_) (fun h12 => ?_)
    · rw [if_pos (by omega)] at hk
      repeat' (first | (first | (with_reducible refine p_tn ?_) | (with_reducible refine wp_seq ?_) | (with_reducible refine w_reg ?_) | (with_reducible (refine is_if ?_; (refine w_ift rfl ?_)))) | (with_reducible refine l_nil ?_))
      (with_reducible refine is_l ?_); refine l_ld txs rfl rfl (H.old c10) ?_
      repeat' (first | (first | (with_reducible refine p_tn ?_) | (with_reducible refine p_tr ?_) | (with_reducible refine wp_ret ?_)) | (first | (with_reducible refine l_nil ?_) | ((with_reducible refine g_on ?_); ((with_reducible refine g_as ?_); refine l_p txs rfl rfl ?_))))
      refine end1 rfl rfl ?_
      subst hk
      exact ⟨_, rfl, errAt_of (by decide) ⟨10, by decide, by decide, rfl, .inl rfl⟩, H.B⟩
    rw [if_neg (by omega)] at hk
    repeat' (first | (first | (with_reducible refine p_tn ?_) | (with_reducible refine wp_seq ?_) | (with_reducible refine w_reg ?_) | (with_reducible (refine is_if ?_; (refine w_iff rfl ?_))) | (with_reducible refine wp_skip ?_) | (with_reducible refine wp_ret ?_)) | (first | (with_reducible refine l_nil ?_) | ((with_reducible refine g_on ?_); ((with_reducible refine g_as ?_); refine l_p txs rfl rfl ?_))))
    refine end1 rfl rfl ?_
    subst hk
    exact ⟨_, rfl, errAt_nil A, H.B⟩
end Go.Proofs.YthgojbdpmcccaaaGreatDoor.K
end
section
namespace Go.Proofs.YthgojbdpmcccaaaGreatDoor.K
open Go.RowKit Go.Proofs.YthgojbdpmcccaaaGreatDoor.Q Go.Proofs.YthgojbdpmcccaaaGreatDoor.Wb Go.Proofs.YthgojbdpmcccaaaGreatDoorW.PrintWords
set_option linter.unusedVariables false
set_option linter.unusedSimpArgs false
theorem itoa_I (n : Int) : (⟨(Lib.itoa n).toArray⟩ : ByteArray) = strOfNums (decI n) := by
  unfold Lib.itoa decI strOfNums
  by_cases h : n < 0
  · rw [if_pos h, if_neg (by omega), decDigits_S, show n.natAbs = (-n).toNat by omega]
    rfl
  · rw [if_neg h, if_pos (by omega), decDigits_S]
theorem decS_le (n : Nat) : (decS n).length ≤ n + 1 := by
  induction n using Nat.strongRecOn with
  | ind n ih =>
    rw [decS]
    by_cases h : n < 10
    · rw [if_pos h]; simp
    · rw [if_neg h, List.length_append]
      have := ih (n / 10) (by omega)
      simp only [List.length_cons, List.length_nil]
      omega
theorem decS_bytes (n : Nat) : Bytes (decS n) := by
  induction n using Nat.strongRecOn with
  | ind n ih =>
    rw [decS]
    by_cases h : n < 10
    · rw [if_pos h]; intro x hx; simp at hx; omega
    · rw [if_neg h]
      intro x hx
      rcases List.mem_append.1 hx with hx | hx
      · exact ih (n / 10) (by omega) x hx
      · simp at hx; omega
theorem decI_bytes (n : Int) : Bytes (decI n) := by
  unfold decI
  split
  · exact decS_bytes _
  · intro x hx
    rcases List.mem_cons.1 hx with hx | hx
    · omega
    · exact decS_bytes _ x hx
theorem itoaI_c {w : World} (hP : TabP w) (n : Int) (h0 : -9223372036854775808 ≤ n) (h1 : n ≤ 9223372036854775807) : Calls Tryz.prog 49 #[.int .i64 n] w fun e w' => e = .returned (.string (strOfNums (decI n))) ∧ Below w.heap.size w w' := by
  refine (Tryz.strconv_Itoa n h0 h1 w (hP w (Below.refl _ w))).mono fun e w' ⟨he, kk, os, hw⟩ => ?_
  subst hw
  exact ⟨by rw [he, itoa_I], grow_below⟩
theorem itoaI_size (n : Int) (h0 : -9223372036854775808 ≤ n) (h1 : n ≤ 9223372036854775807) : (strOfNums (decI n)).size ≤ 21 := by
  rw [← itoa_I]
  show (Lib.itoa n).toArray.size ≤ 21
  rw [List.size_toArray]
  exact Lib.itoa_length_le n h0 h1
theorem printed_bytes {l : List Fld} (hb : BytesF l) {t : Option Nat} (ht : ∀ n, t = some n → n ≤ 10000000) : BytesF (printedS l t) := by
  intro x hx
  unfold printedS at hx
  rcases List.mem_append.1 hx with hx | hx
  · obtain ⟨y, hy, rfl⟩ := List.mem_map.1 hx
    obtain ⟨k1, k2, k3, k4⟩ := hb y (List.mem_filter.1 hy).1
    refine ⟨k1, bytes_trim k2, k3, ?_⟩
    have h4 : (y.2.dropWhile blkB).length ≤ y.2.length := List.Sublist.length_le (List.dropWhile_sublist _)
    have h5 : (trimR (y.2.dropWhile blkB)).length ≤ (y.2.dropWhile blkB).length := by
      unfold trimR
      rw [List.length_reverse]
      have := List.Sublist.length_le (List.dropWhile_sublist blkB (l := (y.2.dropWhile blkB).reverse))
      rw [List.length_reverse] at this
      exact this
    show (trimS y.2).length ≤ _
    unfold trimS
    omega
  · cases t with
    | none => cases hx
    | some n =>
      simp only [List.mem_cons, List.not_mem_nil, or_false] at hx
      subst hx
      have := decS_le n
      have := ht n rfl
      exact ⟨by intro x hx; simp [nLenP] at hx; omega, decS_bytes n, (by show nLenP.length ≤ _; decide), by show (decS n).length ≤ _; omega⟩
theorem printed_len' (l : List Fld) (t : Option Nat) : (printedS l t).length ≤ l.length + 1 := by
  unfold printedS
  rw [List.length_append, List.length_map]
  have := List.length_filter_le keptF l
  cases t <;> simp <;> omega
theorem check_ok {m t : L} {mi : Int} {st : L} {l : List Fld} {b : L} (h : checkReqS m t mi st l b = 0) : st.length ≤ 8000 ∧ headLen l ≤ 16384 ∧ l.length ≤ 64 ∧ b.length ≤ 1048576 := by
  unfold checkReqS at h
  repeat' (split at h; · cases h)
  omega
def startI (r : ReqS) : L := r.method ++ [32] ++ r.target ++ [32, 72, 84, 84, 80, 47, 49, 46] ++ decI r.minor
def formS (r : ReqS) : Nat := checkReqS r.method r.target r.minor (startI r) (printedS r.fields (toldB r.body)) r.body
/-- Bytes in a block of their own that ends in the mark of a text's bytes. -/
def BytB (w w' : World) (x : L) (v : Value) : Prop := ∃ g cur c, v = .slice (some ⟨g, 0, none⟩) x.length c ∧ x.length ≤ c ∧ w.heap.size ≤ g ∧ w'.heap[g]? = some (.cells cur 5 (c, c + 1)) ∧ cur.size = c ∧ c ≤ maxLen ∧ cur.toList.take x.length = nums .u8 x
def FmR (w : World) (r : ReqS) (e : Ending) (w' : World) : Prop := Below w.heap.size w w' ∧ ∃ v, e = .returned (.tuple #[v, .int .i64 (formS r : Int)]) ∧ (formS r ≠ 0 → v = .slice none 0 0) ∧ (formS r = 0 → BytB w w' (wholeS (startI r) (printedS r.fields (toldB r.body)) r.body) v)
set_option maxRecDepth 100000 in
set_option maxHeartbeats 8000000 in
theorem FormatRequest_c {A : Nat → Addr} {w : World} (hE : LayS A w) (hP : TabP w) {mx : Int} (hM : w.cell? ⟨20, 0, none⟩ = some (.int .i64 mx)) {tM : TypeId} {frM : Nat × Nat} (hT : w.heap[17]? = some (.cells meC tM frM))
    (r : ReqS) {F B1 : Option Addr} {f1 b1 : Nat} (hm : Bytes r.method) (ht : Bytes r.target) (hml : r.method.length ≤ 10000000) (htl : r.target.length ≤ 10000000) (hmi : -9223372036854775808 ≤ r.minor ∧ r.minor ≤ 9223372036854775807)
    (hR : Rd w F (fldC r.fields)) (hb : BytesF r.fields) (hl : r.fields.length ≤ 5000000) (hr : ReadsInt w .u8 B1 r.body.length r.body) (hbb : Bytes r.body) (hbl : r.body.length ≤ 10000000) :
    Calls Tryz.prog 15 #[.agg (reqA r F f1 B1 b1)] w (FmR w r) := by
  have zm := sizeS' hm
  have zt := sizeS' ht
  have zi := itoaI_size r.minor hmi.1 hmi.2
  refine enter (args := [.agg (reqA r F f1 B1 b1)]) Tryz.func15 rfl Tryz.ntmps15 rfl ?_
  have H := Hp.nil w
  repeat' (first | (first | (with_reducible refine p_tn ?_) | (with_reducible refine wp_seq ?_) | (with_reducible refine w_reg ?_)) | (first | (with_reducible refine l_nil ?_) | ((with_reducible refine g_on ?_); (first | ((with_reducible refine g_as ?_); refine l_p txs rfl rfl ?_) | ((with_reducible refine g_bx ?_); refine h_box H rfl rfl rfl (fun g_ w_ H => ?_))))))
  have HS := H.pick [0] [] (by decide) (by decide) rfl rfl
  refine d_start (fun w_ => Hp w w_ _ _) #[false, false, false, false, false, false, false, false, false, false, false, false] (by kernel_rfl) rfl rfl HS.drew ?_
  have H := H.drew
  have HS := HS.drew
  first | (refine d_pure (i := 0) #[true, false, false, false, false, false, false, false, false, false, false, false] rfl (by kernel_rfl) (fun _ _ _ h => h) rfl (fun w_ => evF_run (o := ⟨_, _, _, _, _, _⟩) flds rfl) ?_) | (refine d_pure (i := 0) #[true, false, false, false, false, false, false, false, false, false, false, false] rfl (by kernel_rfl) (fun _ _ _ h => h) rfl (fun w_ => evG_run (o := ⟨_, _, _, _, _, _⟩) flds rfl) ?_)
  first | (refine d_take (i := 1) #[true, true, false, false, false, false, false, false, false, false, false, false] rfl (by kernel_rfl) (fun _ _ _ h => h) rfl (fun w_ K => evL_run (o := ⟨_, _, _, _, _, _⟩) txs rfl (K.cellAt 0 rfl rfl)) HS ?_)
  first | (refine d_pure (i := 2) #[true, true, true, false, false, false, false, false, false, false, false, false] rfl (by kernel_rfl) (fun _ _ _ h => h) rfl (fun w_ => evCat_run (o := ⟨_, _, _, _, _, _⟩) rfl (by show _ + 1 ≤ _; omega)) ?_)
  first | (refine d_pure (i := 3) #[true, true, true, true, false, false, false, false, false, false, false, false] rfl (by kernel_rfl) (fun _ _ _ h => h) rfl (fun w_ => evF_run (o := ⟨_, _, _, _, _, _⟩) flds rfl) ?_) | (refine d_pure (i := 3) #[true, true, true, true, false, false, false, false, false, false, false, false] rfl (by kernel_rfl) (fun _ _ _ h => h) rfl (fun w_ => evG_run (o := ⟨_, _, _, _, _, _⟩) flds rfl) ?_)
  first | (refine d_take (i := 4) #[true, true, true, true, true, false, false, false, false, false, false, false] rfl (by kernel_rfl) (fun _ _ _ h => h) rfl (fun w_ K => evL_run (o := ⟨_, _, _, _, _, _⟩) txs rfl (K.cellAt 0 rfl rfl)) HS ?_)
  first | (refine d_pure (i := 5) #[true, true, true, true, true, true, false, false, false, false, false, false] rfl (by kernel_rfl) (fun _ _ _ h => h) rfl (fun w_ => evCat_run (o := ⟨_, _, _, _, _, _⟩) rfl (by rw [ByteArray.size_append]; show _ + 1 + _ ≤ _; omega)) ?_)
  first | (refine d_pure (i := 6) #[true, true, true, true, true, true, true, false, false, false, false, false] rfl (by kernel_rfl) (fun _ _ _ h => h) rfl (fun w_ => evCat_run (o := ⟨_, _, _, _, _, _⟩) rfl (by rw [ByteArray.size_append, ByteArray.size_append]; show _ + 1 + _ + 8 ≤ _; omega)) ?_)
  first | (refine d_pure (i := 7) #[true, true, true, true, true, true, true, true, false, false, false, false] rfl (by kernel_rfl) (fun _ _ _ h => h) rfl (fun w_ => evF_run (o := ⟨_, _, _, _, _, _⟩) flds rfl) ?_) | (refine d_pure (i := 7) #[true, true, true, true, true, true, true, true, false, false, false, false] rfl (by kernel_rfl) (fun _ _ _ h => h) rfl (fun w_ => evG_run (o := ⟨_, _, _, _, _, _⟩) flds rfl) ?_)
  first | (refine d_take (i := 8) #[true, true, true, true, true, true, true, true, true, false, false, false] rfl (by kernel_rfl) (fun _ _ _ h => h) rfl (fun w_ K => evL_run (o := ⟨_, _, _, _, _, _⟩) txs rfl (K.cellAt 0 rfl rfl)) HS ?_)
  refine d_one (i := 9) #[true, true, true, true, true, true, true, true, true, true, false, false] rfl (by kernel_rfl) rfl ?_
  refine l_callv rfl rfl (by kernel_rfl) (itoaI_c (hP.below H.B) _ hmi.1 hmi.2) (fun w_ K => ?_); have H := H.call K
  refine l_nil ?_
  have HS := H.pick [0] [] (by decide) (by decide) rfl rfl
  refine ⟨rfl, HS, ?_⟩
  first | (refine d_pure (i := 10) #[true, true, true, true, true, true, true, true, true, true, true, false] rfl (by kernel_rfl) (fun _ _ _ h => h) rfl (fun w_ => evCat_run (o := ⟨_, _, _, _, _, _⟩) rfl (by rw [ByteArray.size_append, ByteArray.size_append, ByteArray.size_append]; show _ + 1 + _ + 8 + _ ≤ _; omega)) ?_)
  first | (refine d_pure (i := 11) #[true, true, true, true, true, true, true, true, true, true, true, true] rfl (by kernel_rfl) (fun _ _ _ h => h) rfl (fun w_ => evP_run (o := ⟨_, _, _, _, _, _⟩) txs rfl) ?_)
  refine d_done rfl ?_
  repeat' (first | (first | (with_reducible refine p_tn ?_) | (with_reducible refine wp_seq ?_) | (with_reducible refine w_reg ?_)) | ((with_reducible refine g_on ?_); (first | ((with_reducible refine g_fa ?_); refine h_fa flds rfl rfl ?_) | ((with_reducible refine g_ld ?_); (refine h_ld txs H 0 rfl rfl rfl rfl ?_)) | ((with_reducible refine g_cl ?_); refine l_p txs rfl rfl ?_))))
  have hTb : ∀ w1, Below w.heap.size w w1 → w1.heap[17]? = some (.cells meC tM frM) := fun w1 K => (K.block _ (blk_lt hT)).trans hT
  have hpb : BytesF (printedS r.fields (toldB r.body)) := printed_bytes hb (fun n hn => by
    unfold toldB at hn
    split at hn
    · cases hn
    · simp only [Option.some.injEq] at hn; omega)
  have hpl := printed_len' r.fields (toldB r.body)
  (with_reducible refine is_l ?_); refine l_t txs rfl rfl (fun h1 => ?_) (fun h1 => ?_)
  · have hT2 : toldB r.body = some r.body.length := by
      unfold toldB
      rw [if_neg]
      intro e
      rw [e] at h1
      simp at h1
    have hpr := fun (w1 : World) (K : Below w.heap.size w w1) => printed_c (c := f1) (hP.below K) (hR.below K) hb (by omega) r.body.length (by omega) true
    simp only [if_true, ← hT2] at hpr
    (with_reducible refine is_l ?_); refine l_call rfl rfl (by kernel_rfl) (hpr _ H.B) (fun e w_ hR2 => ?_)
    obtain ⟨F2, f2, rfl, K⟩ := hR2
    refine ⟨_, rfl, ?_⟩
    have H := H.join K
    repeat' (first | (first | (with_reducible refine p_tn ?_) | (with_reducible refine wp_seq ?_) | (with_reducible refine w_reg ?_)) | (first | (with_reducible refine l_nil ?_) | ((with_reducible refine g_on ?_); (first | ((with_reducible refine g_mv ?_); refine l_p txs rfl rfl ?_) | ((with_reducible refine g_as ?_); refine l_p txs rfl rfl ?_) | ((with_reducible refine g_ld ?_); (refine h_ldR recs H 0 rfl rfl rfl rfl rfl ?_))))))
    (with_reducible refine is_l ?_); refine l_call rfl rfl (by kernel_rfl) (checkRequest_c (hE.below H.B) (H.old hM) (hTb _ H.B) r hm ht (by omega) (by omega) _ (by rw [ByteArray.size_append, ByteArray.size_append, ByteArray.size_append, ByteArray.size_append]; show _ + 1 + _ + 8 + _ ≤ _; omega) (rowF_rd H 0 rfl) hpb (by omega)) (fun e w_ hR3 => ?_)
    obtain ⟨v, rfl, hv, K⟩ := hR3
    refine ⟨_, rfl, ?_⟩
    have H := H.call K
    simp only [bl_cat, blS hm, blS ht, blS (decI_bytes _)] at hv
    have hv : ErrAt A v (formS r) := hv
    by_cases hk : formS r = 0
    · unfold ErrAt at hv
      rw [if_pos hk] at hv
      subst hv
      repeat' (first | (first | (with_reducible refine p_tn ?_) | (with_reducible refine wp_seq ?_) | (with_reducible refine w_reg ?_)) | (first | (with_reducible refine l_nil ?_) | ((with_reducible refine g_on ?_); (first | ((with_reducible refine g_mv ?_); refine l_p txs rfl rfl ?_) | ((with_reducible refine g_as ?_); refine l_p txs rfl rfl ?_)))))
      (with_reducible refine is_l ?_); refine l_t txs rfl rfl (fun hh => absurd hh (by simp)) (fun _ => ?_)
      repeat' (first | (first | (with_reducible refine p_tn ?_) | (with_reducible refine wp_seq ?_) | (with_reducible refine w_reg ?_) | (with_reducible (refine is_if ?_; (refine w_iff rfl ?_))) | (with_reducible refine wp_skip ?_)) | (first | (with_reducible refine l_nil ?_) | ((with_reducible refine g_on ?_); (first | ((with_reducible refine g_mv ?_); refine l_p txs rfl rfl ?_) | ((with_reducible refine g_fa ?_); refine h_fa flds rfl rfl ?_) | ((with_reducible refine g_ld ?_); (refine h_ld txs H 0 rfl rfl rfl rfl ?_))))))
      obtain ⟨o1, o2, o3, o4⟩ := check_ok hk
      (with_reducible refine is_l ?_); refine l_call rfl rfl (by kernel_rfl) (whole_c (rowF_rd H 0 rfl) hpb o2 (hr.below H.B) hbb (by omega) (by rw [ByteArray.size_append, ByteArray.size_append, ByteArray.size_append, ByteArray.size_append]; show _ + 1 + _ + 8 + _ ≤ _; omega) (by omega)) (fun e w_ hR4 => ?_)
      obtain ⟨g, cur, c, rfl, q1, q2, q3, q4, q5, q6, q7⟩ := hR4
      refine ⟨_, rfl, ?_⟩
      have hsz := H.B.size
      have H := H.call q2
      simp only [bl_cat, blS hm, blS ht, blS (decI_bytes _)] at q1 q7 ⊢
      repeat' (first | (first | (with_reducible refine p_tn ?_) | (with_reducible refine wp_ret ?_)) | (first | (with_reducible refine l_nil ?_) | ((with_reducible refine g_on ?_); ((with_reducible refine g_as ?_); refine l_p txs rfl rfl ?_))))
      refine end2 rfl rfl rfl ?_
      refine ⟨H.B, _, by rw [hk]; rfl, fun h => absurd hk h, fun _ => ⟨g, cur, c, rfl, q1, by omega, q4, q5, q6, q7⟩⟩
    · unfold ErrAt at hv
      rw [if_neg hk] at hv
      obtain ⟨tv, uv, rfl⟩ := errOf_iface hv
      repeat' (first | (first | (with_reducible refine p_tn ?_) | (with_reducible refine wp_seq ?_) | (with_reducible refine w_reg ?_)) | (first | (with_reducible refine l_nil ?_) | ((with_reducible refine g_on ?_); (first | ((with_reducible refine g_mv ?_); refine l_p txs rfl rfl ?_) | ((with_reducible refine g_as ?_); refine l_p txs rfl rfl ?_)))))
      (with_reducible refine is_l ?_); refine l_t txs rfl rfl (fun _ => ?_) (fun hh => absurd trivial hh)
      repeat' (first | (first | (with_reducible refine p_tn ?_) | (with_reducible refine wp_seq ?_) | (with_reducible refine w_reg ?_) | (with_reducible (refine is_if ?_; (refine w_ift rfl ?_)))) | (first | (with_reducible refine l_nil ?_) | ((with_reducible refine g_on ?_); ((with_reducible refine g_mv ?_); refine l_p txs rfl rfl ?_))))
      (with_reducible refine is_l ?_); refine l_callv rfl rfl (by kernel_rfl) (errOf_c (hE.below H.B) hv) (fun w_ K => ?_)
      have H := H.call K
      repeat' (first | (first | (with_reducible refine p_tn ?_) | (with_reducible refine p_tr ?_) | (with_reducible refine wp_ret ?_)) | (first | (with_reducible refine l_nil ?_) | ((with_reducible refine g_on ?_); ((with_reducible refine g_as ?_); refine l_p txs rfl rfl ?_))))
      refine end2 rfl rfl rfl ?_
      exact ⟨H.B, _, rfl, fun _ => rfl, fun h => absurd h hk⟩
  · have hT2 : toldB r.body = none := by
      unfold toldB
      rw [if_pos]
      exact List.eq_nil_of_length_eq_zero (by omega)
    have hpr := fun (w1 : World) (K : Below w.heap.size w w1) => printed_c (c := f1) (hP.below K) (hR.below K) hb (by omega) r.body.length (by omega) false
    simp only [Bool.false_eq_true, if_false, ← hT2] at hpr
    (with_reducible refine is_l ?_); refine l_call rfl rfl (by kernel_rfl) (hpr _ H.B) (fun e w_ hR2 => ?_)
    obtain ⟨F2, f2, rfl, K⟩ := hR2
    refine ⟨_, rfl, ?_⟩
    have H := H.join K
    repeat' (first | (first | (with_reducible refine p_tn ?_) | (with_reducible refine wp_seq ?_) | (with_reducible refine w_reg ?_)) | (first | (with_reducible refine l_nil ?_) | ((with_reducible refine g_on ?_); (first | ((with_reducible refine g_mv ?_); refine l_p txs rfl rfl ?_) | ((with_reducible refine g_as ?_); refine l_p txs rfl rfl ?_) | ((with_reducible refine g_ld ?_); (refine h_ldR recs H 0 rfl rfl rfl rfl rfl ?_))))))
    (with_reducible refine is_l ?_); refine l_call rfl rfl (by kernel_rfl) (checkRequest_c (hE.below H.B) (H.old hM) (hTb _ H.B) r hm ht (by omega) (by omega) _ (by rw [ByteArray.size_append, ByteArray.size_append, ByteArray.size_append, ByteArray.size_append]; show _ + 1 + _ + 8 + _ ≤ _; omega) (rowF_rd H 0 rfl) hpb (by omega)) (fun e w_ hR3 => ?_)
    obtain ⟨v, rfl, hv, K⟩ := hR3
    refine ⟨_, rfl, ?_⟩
    have H := H.call K
    simp only [bl_cat, blS hm, blS ht, blS (decI_bytes _)] at hv
    have hv : ErrAt A v (formS r) := hv
    by_cases hk : formS r = 0
    · unfold ErrAt at hv
      rw [if_pos hk] at hv
      subst hv
      repeat' (first | (first | (with_reducible refine p_tn ?_) | (with_reducible refine wp_seq ?_) | (with_reducible refine w_reg ?_)) | (first | (with_reducible refine l_nil ?_) | ((with_reducible refine g_on ?_); (first | ((with_reducible refine g_mv ?_); refine l_p txs rfl rfl ?_) | ((with_reducible refine g_as ?_); refine l_p txs rfl rfl ?_)))))
      (with_reducible refine is_l ?_); refine l_t txs rfl rfl (fun hh => absurd hh (by simp)) (fun _ => ?_)
      repeat' (first | (first | (with_reducible refine p_tn ?_) | (with_reducible refine wp_seq ?_) | (with_reducible refine w_reg ?_) | (with_reducible (refine is_if ?_; (refine w_iff rfl ?_))) | (with_reducible refine wp_skip ?_)) | (first | (with_reducible refine l_nil ?_) | ((with_reducible refine g_on ?_); (first | ((with_reducible refine g_mv ?_); refine l_p txs rfl rfl ?_) | ((with_reducible refine g_fa ?_); refine h_fa flds rfl rfl ?_) | ((with_reducible refine g_ld ?_); (refine h_ld txs H 0 rfl rfl rfl rfl ?_))))))
      obtain ⟨o1, o2, o3, o4⟩ := check_ok hk
      (with_reducible refine is_l ?_); refine l_call rfl rfl (by kernel_rfl) (whole_c (rowF_rd H 0 rfl) hpb o2 (hr.below H.B) hbb (by omega) (by rw [ByteArray.size_append, ByteArray.size_append, ByteArray.size_append, ByteArray.size_append]; show _ + 1 + _ + 8 + _ ≤ _; omega) (by omega)) (fun e w_ hR4 => ?_)
      obtain ⟨g, cur, c, rfl, q1, q2, q3, q4, q5, q6, q7⟩ := hR4
      refine ⟨_, rfl, ?_⟩
      have hsz := H.B.size
      have H := H.call q2
      simp only [bl_cat, blS hm, blS ht, blS (decI_bytes _)] at q1 q7 ⊢
      repeat' (first | (first | (with_reducible refine p_tn ?_) | (with_reducible refine wp_ret ?_)) | (first | (with_reducible refine l_nil ?_) | ((with_reducible refine g_on ?_); ((with_reducible refine g_as ?_); refine l_p txs rfl rfl ?_))))
      refine end2 rfl rfl rfl ?_
      refine ⟨H.B, _, by rw [hk]; rfl, fun h => absurd hk h, fun _ => ⟨g, cur, c, rfl, q1, by omega, q4, q5, q6, q7⟩⟩
    · unfold ErrAt at hv
      rw [if_neg hk] at hv
      obtain ⟨tv, uv, rfl⟩ := errOf_iface hv
      repeat' (first | (first | (with_reducible refine p_tn ?_) | (with_reducible refine wp_seq ?_) | (with_reducible refine w_reg ?_)) | (first | (with_reducible refine l_nil ?_) | ((with_reducible refine g_on ?_); (first | ((with_reducible refine g_mv ?_); refine l_p txs rfl rfl ?_) | ((with_reducible refine g_as ?_); refine l_p txs rfl rfl ?_)))))
      (with_reducible refine is_l ?_); refine l_t txs rfl rfl (fun _ => ?_) (fun hh => absurd trivial hh)
      repeat' (first | (first | (with_reducible refine p_tn ?_) | (with_reducible refine wp_seq ?_) | (with_reducible refine w_reg ?_) | (with_reducible (refine is_if ?_; (refine w_ift rfl ?_)))) | (first | (with_reducible refine l_nil ?_) | ((with_reducible refine g_on ?_); ((with_reducible refine g_mv ?_); refine l_p txs rfl rfl ?_))))
      (with_reducible refine is_l ?_); refine l_callv rfl rfl (by kernel_rfl) (errOf_c (hE.below H.B) hv) (fun w_ K => ?_)
      have H := H.call K
      repeat' (first | (first | (with_reducible refine p_tn ?_) | (with_reducible refine p_tr ?_) | (with_reducible refine wp_ret ?_)) | (first | (with_reducible refine l_nil ?_) | ((with_reducible refine g_on ?_); ((with_reducible refine g_as ?_); refine l_p txs rfl rfl ?_))))
      refine end2 rfl rfl rfl ?_
      exact ⟨H.B, _, rfl, fun _ => rfl, fun h => absurd h hk⟩
end Go.Proofs.YthgojbdpmcccaaaGreatDoor.K
end
section
namespace Go.Proofs.YthgojbdpmcccaaaGreatDoor.Q
open Go.RowKit Go.Proofs.YthgojbdpmcccaaaGreatDoorW.PrintWords Go.Proofs.YthgojbdpmcccaaaGreatDoorW.PrintLast
set_option linter.unusedVariables false
set_option linter.unusedSimpArgs false
section
variable {P : Program} {n : Nat} {ops : Array Oper} {Q : Exit → Act → World → Prop} {S : World → Prop} {ds : List Nat} {f : Fr} {w : World}
theorem e_start {id m : Nat} {a : Act} (S : World → Prop) (ds : List Nat) (l : Array Bool) (hm : P.follows .mixedOrders = true) (hn : ops.size = m) (hl : Array.replicate m false = l) (hS : S w.drew)
    (h : WA P .any ops Q S ds m l a w.drew) : (Code.region id ops true).wp P Q a w := start_ l hm hn hl hS (fun _ => h.out)
theorem e_pure {i fuel : Nat} {l : Array Bool} {o : Oper} {v : Value} (l' : Array Bool) (hi : ops[i]? = some o) (hc : anyB .any ops l l' i = true) (hQ : ∀ c a w, Q (.panic c) (a.put o.dst v) w → Q (.panic c) a w)
    (hw : want n ops f o = true) (hv : ∀ w, (execOp (X n f) o).run P w = .ok (.value v) w) (h : WA P .any ops Q S ds fuel l' (act n (put f o.dst v)) w) : WA P .any ops Q S ds (fuel + 1) l (act n f) w :=
  ⟨pure_ l' hi rfl hc hQ (Or.inl ⟨by rw [want_eq]; exact hw, fun w => by rw [eval_act]; exact hv w⟩) (put_act n f _ v) h.out⟩
theorem e_take {i fuel : Nat} {l : Array Bool} {o : Oper} {v : Value} (l' : Array Bool) (hi : ops[i]? = some o) (hc : takeB .any ops ds l l' i = true) (hQ : ∀ c a w, Q (.panic c) (a.put o.dst v) w → Q (.panic c) a w)
    (hw : want n ops f o = true) (hv : ∀ w, S w → (execOp (X n f) o).run P w = .ok (.value v) w) (hS : S w) (h : WA P .any ops Q S ds fuel l' (act n (put f o.dst v)) w) : WA P .any ops Q S ds (fuel + 1) l (act n f) w :=
  ⟨take_ l' hi rfl hc hQ (Or.inl ⟨by rw [want_eq]; exact hw, fun w hS => by rw [eval_act]; exact hv w hS⟩) hS (put_act n f _ v) h.out⟩
theorem e_one {i fuel : Nat} {l : Array Bool} {o : Oper} (l' : Array Bool) (hi : ops[i]? = some o) (hc : readyB .any ops l l' i = true) (hd : i ∉ ds) (hw : want n ops f o = true)
    (h : WL P ops (fun ex a' w' => ex = .normal ∧ S w' ∧ WA P .any ops Q S ds fuel l' a' w') [o] (act n f) w) : WA P .any ops Q S ds (fuel + 1) l (act n f) w := by
  have h := h.out
  refine ⟨?_⟩
  refine one_ l' hi rfl hc hd (fun K hK => ?_)
  have hw' : Region.wanted o (yielded ops (act n f).tmps) = true := by rw [want_eq]; exact hw
  rw [if_pos hw']
  simp only [wpList, hw', if_true] at h
  rcases h with h | ⟨_, _, _, h, _⟩
  · refine Oper.wp_mono (fun a' w' hk => hK.out a' w' hk.1 (fun _ => hk.2.out)) (wp_of_normal (K := fun a' w' => S w' ∧ WA P .any ops Q S ds fuel l' a' w') ?_)
    exact Oper.wp_mono (fun a' w' hk => hk.2) h
  · cases h
theorem e_two {i j fuel : Nat} {l : Array Bool} {o p : Oper} (li lj : Array Bool) (hi : ops[i]? = some o) (hj : ops[j]? = some p) (hc : (Region.ready .any ops l == [i, j] && l.setIfInBounds i true == li && l.setIfInBounds j true == lj) = true) (hdi : i ∉ ds) (hdj : j ∉ ds) (hw : want n ops f o = true) (hv : want n ops f p = true)
    (h : WL P ops (fun ex a' w' => ex = .normal ∧ S w' ∧ WA P .any ops Q S ds fuel li a' w') [o] (act n f) w)
    (g : WL P ops (fun ex a' w' => ex = .normal ∧ S w' ∧ WA P .any ops Q S ds fuel lj a' w') [p] (act n f) w) : WA P .any ops Q S ds (fuel + 1) l (act n f) w := by
  have h := h.out
  have g := g.out
  have hw' : Region.wanted o (yielded ops (act n f).tmps) = true := by rw [want_eq]; exact hw
  have hv' : Region.wanted p (yielded ops (act n f).tmps) = true := by rw [want_eq]; exact hv
  refine ⟨?_⟩
  refine two_ li lj hi hj rfl rfl hc hdi hdj (fun K hK => ?_) (fun K hK => ?_)
  · rw [if_pos hw']
    simp only [wpList, hw', if_true] at h
    rcases h with h | ⟨_, _, _, h, _⟩
    · refine Oper.wp_mono (fun a' w' hk => hK.out a' w' hk.1 (fun _ => hk.2.out)) (wp_of_normal (K := fun a' w' => S w' ∧ WA P .any ops Q S ds fuel li a' w') ?_)
      exact Oper.wp_mono (fun a' w' hk => hk.2) h
    · cases h
  · rw [if_pos hv']
    simp only [wpList, hv', if_true] at g
    rcases g with g | ⟨_, _, _, g, _⟩
    · refine Oper.wp_mono (fun a' w' hk => hK.out a' w' hk.1 (fun _ => hk.2.out)) (wp_of_normal (K := fun a' w' => S w' ∧ WA P .any ops Q S ds fuel lj a' w') ?_)
      exact Oper.wp_mono (fun a' w' hk => hk.2) g
    · cases g
theorem e_last {i fuel : Nat} {l : Array Bool} {o : Oper} (l' : Array Bool) (hi : ops[i]? = some o) (hc : readyB .any ops l l' i = true) (hd : i ∈ ds) (hw : want n ops f o = true)
    (h : WL P ops (fun ex a' w' => ex = .normal ∧ WA P .any ops Q S ds fuel l' a' w') [o] (act n f) w) : WA P .any ops Q S ds (fuel + 1) l (act n f) w := by
  have h := h.out
  refine ⟨?_⟩
  refine last_ l' hi rfl hc hd (fun K hK => ?_)
  have hw' : Region.wanted o (yielded ops (act n f).tmps) = true := by rw [want_eq]; exact hw
  rw [if_pos hw']
  simp only [wpList, hw', if_true] at h
  rcases h with h | ⟨_, _, _, h, _⟩
  · refine Oper.wp_mono (fun a' w' hk => hK.out a' w' hk.out) (wp_of_normal (K := fun a' w' => WA P .any ops Q S ds fuel l' a' w') ?_)
    exact Oper.wp_mono (fun a' w' hk => hk.2) h
  · cases h
theorem e_done {l : Array Bool} {m : Nat} {a : Act} (hr : (Region.ready .any ops l == []) = true) (h : Q .normal a w) : WA P .any ops Q S ds m l a w := ⟨done_ hr h⟩
end
end Go.Proofs.YthgojbdpmcccaaaGreatDoor.Q
end
section
namespace Go.Proofs.YthgojbdpmcccaaaGreatDoor.K
open Go.RowKit Go.Proofs.YthgojbdpmcccaaaGreatDoor.Q Go.Proofs.YthgojbdpmcccaaaGreatDoor.Wb Go.Proofs.YthgojbdpmcccaaaGreatDoorW.PrintWords
set_option linter.unusedVariables false
set_option linter.unusedSimpArgs false
set_option maxHeartbeats 2000000 in
theorem value14_c {w : World} {B : Option Addr} {c : Nat} {l : List L} (h : Rd w B (strC l)) (i : Nat) (hi : i ≤ 100000000) :
    Calls Tryz.prog 48 #[.slice B l.length c, .int .i64 (i : Int)] w fun e w' => e = .returned (.string (strOfNums (l.getD i []))) ∧ Below w.heap.size w w' := by
  refine enter (args := [.slice B l.length c, .int .i64 (i : Int)]) Tryz.func48 rfl Tryz.ntmps48 rfl ?_
  have H := Hp.nil w
  repeat' (first | (first | (with_reducible refine p_tn ?_) | (with_reducible refine wp_seq ?_) | (with_reducible refine w_reg ?_)) | (first | (with_reducible refine l_nil ?_) | ((with_reducible refine g_on ?_); (first | ((with_reducible refine g_mv ?_); refine l_p txs rfl rfl ?_) | ((with_reducible refine g_as ?_); refine l_p txs rfl rfl ?_) | ((with_reducible refine g_cl ?_); refine l_p txs rfl rfl ?_)))))
  (with_reducible refine is_l ?_); refine l_t txs rfl rfl (fun hlt => ?_) (fun hge => ?_)
  · obtain ⟨x, hx⟩ : ∃ x, l[i]? = some x := ⟨_, List.getElem?_eq_getElem (by omega)⟩
    obtain ⟨ad, rfl⟩ : ∃ ad, B = some ad := by
      cases B with
      | none =>
        have := h.1 rfl
        simp only [strC, List.map_eq_nil_iff] at this
        rw [this] at hx
        simp at hx
      | some ad => exact ⟨ad, rfl⟩
    have hcell := h.2 ad rfl _ _ (strC_at hx)
    have hg : l.getD i [] = x := by rw [List.getD_eq_getElem?_getD, hx]; rfl
    rw [hg]
    repeat' (first | (first | (with_reducible refine p_tn ?_) | (with_reducible refine wp_seq ?_) | (with_reducible refine w_reg ?_) | (with_reducible (refine is_if ?_; (refine w_ift rfl ?_)))) | (first | (with_reducible refine l_nil ?_) | ((with_reducible refine g_on ?_); (first | ((with_reducible refine g_mv ?_); refine l_p txs rfl rfl ?_) | ((with_reducible refine g_ia ?_); refine l_ia txs rfl rfl (by first | omega | assumption | decide) (by first | omega | assumption | decide) ?_)))))
    (with_reducible refine is_l ?_); refine l_ld txs rfl rfl (by rw [Int.toNat_natCast]; exact H.old hcell) ?_
    repeat' (first | (first | (with_reducible refine p_tn ?_) | (with_reducible refine p_tr ?_) | (with_reducible refine wp_ret ?_)) | (first | (with_reducible refine l_nil ?_) | ((with_reducible refine g_on ?_); ((with_reducible refine g_as ?_); refine l_p txs rfl rfl ?_))))
    refine end1 rfl rfl ?_
    exact ⟨rfl, H.B⟩
  · have hg : l.getD i [] = [] := by rw [List.getD_eq_getElem?_getD, List.getElem?_eq_none (by omega)]; rfl
    rw [hg]
    repeat' (first | (first | (with_reducible refine p_tn ?_) | (with_reducible refine wp_seq ?_) | (with_reducible refine w_reg ?_) | (with_reducible (refine is_if ?_; (refine w_iff rfl ?_))) | (with_reducible refine wp_skip ?_) | (with_reducible refine wp_ret ?_)) | (first | (with_reducible refine l_nil ?_) | ((with_reducible refine g_on ?_); ((with_reducible refine g_as ?_); refine l_p txs rfl rfl ?_))))
    refine end1 rfl rfl ?_
    exact ⟨rfl, H.B⟩
/-- The fields: what is missing is empty. -/
def mkF : List L → List L → List Fld
  | [], _ => []
  | n :: ns, [] => (n, []) :: mkF ns []
  | n :: ns, v :: vs => (n, v) :: mkF ns vs
theorem mkF_len : ∀ ns vs, (mkF ns vs).length = ns.length
  | [], _ => by simp [mkF]
  | n :: ns, [] => by simp [mkF, mkF_len ns []]
  | n :: ns, v :: vs => by simp [mkF, mkF_len ns vs]
theorem mkF_at : ∀ (ns vs : List L) (i : Nat) (x : L), ns[i]? = some x → (mkF ns vs)[i]? = some (x, vs.getD i [])
  | [], _, i, x, h => by simp at h
  | n :: ns, [], 0, x, h => by simp at h; subst h; simp [mkF]
  | n :: ns, [], i + 1, x, h => by
    have := mkF_at ns [] i x (by simpa using h)
    simpa [mkF] using this
  | n :: ns, v :: vs, 0, x, h => by simp at h; subst h; simp [mkF]
  | n :: ns, v :: vs, i + 1, x, h => by
    have := mkF_at ns vs i x (by simpa using h)
    simpa [mkF] using this
def reqOf (m t : L) (mi : Int) (ns vs : List L) (body : L) (pad : Int) : ReqS := ⟨m, t, mi, mkF ns vs, padS body pad, false⟩
theorem built_rq (a b : ByteArray) (i : Int) (A : Option Addr) (n c : Nat) : Tryz.prog.built 29 [(0, .string a), (1, .string b), (2, .int .i64 i), (4, .slice A n c)] = some #[.string a, .string b, .int .i64 i, .slice none 0 0, .slice A n c, .bool false] := by kernel_rfl
theorem mkF_take {ns vs : List L} {i : Nat} {x : L} (h : ns[i]? = some x) : (mkF ns vs).take (i + 1) = (mkF ns vs).take i ++ [(x, vs.getD i [])] := by
  have h2 := mkF_at ns vs i x h
  have hi : i < (mkF ns vs).length := (List.getElem?_eq_some_iff.1 h2).1
  have hx : (mkF ns vs)[i] = (x, vs.getD i []) := (List.getElem?_eq_some_iff.1 h2).2
  rw [List.take_succ_eq_append_getElem hi, hx]
set_option maxRecDepth 100000 in
set_option maxHeartbeats 8000000 in
theorem request_c {w : World} {m t : L} {mi pad : Int} {ns vs : List L} {body : L} {NB VB BB : Option Addr} {nc vc bc : Nat} (hn : Rd w NB (strC ns)) (hv : Rd w VB (strC vs)) (hnl : ns.length ≤ 10000000) (hr : ReadsInt w .u8 BB body.length body) (hbl : body.length ≤ 1000000000) :
    Calls Tryz.prog 14 #[.agg #[.string (strOfNums m), .string (strOfNums t), .int .i64 mi, .slice NB ns.length nc, .slice VB vs.length vc, .slice BB body.length bc, .int .i64 pad]] w fun e w' => ∃ F f B b, e = .returned (.agg (reqA (reqOf m t mi ns vs body pad) F f B b)) ∧ Hp w w' [] [rowF (.slice F (mkF ns vs).length f) (mkF ns vs), rowB (.slice B (padS body pad).length b) (padS body pad)] := by
  refine enter (args := [.agg #[.string (strOfNums m), .string (strOfNums t), .int .i64 mi, .slice NB ns.length nc, .slice VB vs.length vc, .slice BB body.length bc, .int .i64 pad]]) Tryz.func14 rfl Tryz.ntmps14 rfl ?_
  have H := (Hp.nil w).nilRow 95 2
  repeat' (first | (with_reducible refine wp_seq ?_) | (with_reducible refine w_reg ?_))
  (with_reducible refine is_l ?_); refine h_box H rfl rfl rfl (fun gX w_ H => ?_)
  (with_reducible refine is_l ?_); refine h_alloc recs H rfl rfl (fun gC w_ H => ?_)
  repeat' (first | (first | (with_reducible refine p_tn ?_) | (with_reducible refine wp_seq ?_)) | (with_reducible refine l_nil ?_))
  have HS := H.pick [0, 1] [] (by decide) (by decide) rfl rfl
  refine e_start (fun w_ => Hp w w_ _ _) [] #[false, false, false, false, false, false, false, false, false, false, false, false, false, false] (by kernel_rfl) rfl rfl HS.drew ?_
  have H := H.drew
  have HS := HS.drew
  first | (refine e_pure (i := 0) #[true, false, false, false, false, false, false, false, false, false, false, false, false, false] rfl (by kernel_rfl) (fun _ _ _ h => h) rfl (fun w_ => evF_run (o := ⟨_, _, _, _, _, _⟩) flds rfl) ?_) | (refine e_pure (i := 0) #[true, false, false, false, false, false, false, false, false, false, false, false, false, false] rfl (by kernel_rfl) (fun _ _ _ h => h) rfl (fun w_ => evG_run (o := ⟨_, _, _, _, _, _⟩) flds rfl) ?_)
  first | (refine e_take (i := 1) #[true, true, false, false, false, false, false, false, false, false, false, false, false, false] rfl (by kernel_rfl) (fun _ _ _ h => h) rfl (fun w_ K => evL_run (o := ⟨_, _, _, _, _, _⟩) txs rfl (K.cellAt 0 rfl rfl)) HS ?_) | (refine e_take (i := 1) #[true, true, false, false, false, false, false, false, false, false, false, false, false, false] rfl (by kernel_rfl) (fun _ _ _ h => h) rfl (fun w_ K => evL_run (o := ⟨_, _, _, _, _, _⟩) txs rfl (K.cellAt 1 rfl rfl)) HS ?_)
  first | (refine e_pure (i := 2) #[true, true, true, false, false, false, false, false, false, false, false, false, false, false] rfl (by kernel_rfl) (fun _ _ _ h => h) rfl (fun w_ => evF_run (o := ⟨_, _, _, _, _, _⟩) flds rfl) ?_) | (refine e_pure (i := 2) #[true, true, true, false, false, false, false, false, false, false, false, false, false, false] rfl (by kernel_rfl) (fun _ _ _ h => h) rfl (fun w_ => evG_run (o := ⟨_, _, _, _, _, _⟩) flds rfl) ?_)
  first | (refine e_take (i := 3) #[true, true, true, true, false, false, false, false, false, false, false, false, false, false] rfl (by kernel_rfl) (fun _ _ _ h => h) rfl (fun w_ K => evL_run (o := ⟨_, _, _, _, _, _⟩) txs rfl (K.cellAt 0 rfl rfl)) HS ?_) | (refine e_take (i := 3) #[true, true, true, true, false, false, false, false, false, false, false, false, false, false] rfl (by kernel_rfl) (fun _ _ _ h => h) rfl (fun w_ K => evL_run (o := ⟨_, _, _, _, _, _⟩) txs rfl (K.cellAt 1 rfl rfl)) HS ?_)
  first | (refine e_pure (i := 4) #[true, true, true, true, true, false, false, false, false, false, false, false, false, false] rfl (by kernel_rfl) (fun _ _ _ h => h) rfl (fun w_ => evF_run (o := ⟨_, _, _, _, _, _⟩) flds rfl) ?_) | (refine e_pure (i := 4) #[true, true, true, true, true, false, false, false, false, false, false, false, false, false] rfl (by kernel_rfl) (fun _ _ _ h => h) rfl (fun w_ => evG_run (o := ⟨_, _, _, _, _, _⟩) flds rfl) ?_)
  first | (refine e_take (i := 5) #[true, true, true, true, true, true, false, false, false, false, false, false, false, false] rfl (by kernel_rfl) (fun _ _ _ h => h) rfl (fun w_ K => evL_run (o := ⟨_, _, _, _, _, _⟩) txs rfl (K.cellAt 0 rfl rfl)) HS ?_) | (refine e_take (i := 5) #[true, true, true, true, true, true, false, false, false, false, false, false, false, false] rfl (by kernel_rfl) (fun _ _ _ h => h) rfl (fun w_ K => evL_run (o := ⟨_, _, _, _, _, _⟩) txs rfl (K.cellAt 1 rfl rfl)) HS ?_)
  first | (refine e_pure (i := 6) #[true, true, true, true, true, true, true, false, false, false, false, false, false, false] rfl (by kernel_rfl) (fun _ _ _ h => h) rfl (fun w_ => evF_run (o := ⟨_, _, _, _, _, _⟩) flds rfl) ?_) | (refine e_pure (i := 6) #[true, true, true, true, true, true, true, false, false, false, false, false, false, false] rfl (by kernel_rfl) (fun _ _ _ h => h) rfl (fun w_ => evG_run (o := ⟨_, _, _, _, _, _⟩) flds rfl) ?_)
  first | (refine e_take (i := 7) #[true, true, true, true, true, true, true, true, false, false, false, false, false, false] rfl (by kernel_rfl) (fun _ _ _ h => h) rfl (fun w_ K => evL_run (o := ⟨_, _, _, _, _, _⟩) txs rfl (K.cellAt 0 rfl rfl)) HS ?_) | (refine e_take (i := 7) #[true, true, true, true, true, true, true, true, false, false, false, false, false, false] rfl (by kernel_rfl) (fun _ _ _ h => h) rfl (fun w_ K => evL_run (o := ⟨_, _, _, _, _, _⟩) txs rfl (K.cellAt 1 rfl rfl)) HS ?_)
  first | (refine e_pure (i := 8) #[true, true, true, true, true, true, true, true, true, false, false, false, false, false] rfl (by kernel_rfl) (fun _ _ _ h => h) rfl (fun w_ => evF_run (o := ⟨_, _, _, _, _, _⟩) flds rfl) ?_) | (refine e_pure (i := 8) #[true, true, true, true, true, true, true, true, true, false, false, false, false, false] rfl (by kernel_rfl) (fun _ _ _ h => h) rfl (fun w_ => evG_run (o := ⟨_, _, _, _, _, _⟩) flds rfl) ?_)
  first | (refine e_take (i := 9) #[true, true, true, true, true, true, true, true, true, true, false, false, false, false] rfl (by kernel_rfl) (fun _ _ _ h => h) rfl (fun w_ K => evL_run (o := ⟨_, _, _, _, _, _⟩) txs rfl (K.cellAt 0 rfl rfl)) HS ?_) | (refine e_take (i := 9) #[true, true, true, true, true, true, true, true, true, true, false, false, false, false] rfl (by kernel_rfl) (fun _ _ _ h => h) rfl (fun w_ K => evL_run (o := ⟨_, _, _, _, _, _⟩) txs rfl (K.cellAt 1 rfl rfl)) HS ?_)
  refine e_two (i := 10) (j := 12) #[true, true, true, true, true, true, true, true, true, true, true, false, false, false] #[true, true, true, true, true, true, true, true, true, true, false, false, true, false] rfl rfl (by kernel_rfl) (by decide) (by decide) rfl rfl ?_ ?_
  (refine l_call rfl rfl (by kernel_rfl) (padded_c (hr.below H.B) pad hbl) (fun e w_ hR => ?_)); obtain ⟨A1, c1, rfl, K⟩ := hR; refine ⟨_, rfl, ?_⟩; have H := H.join K
  refine l_nil ?_
  have HS := H.pick [0, 1] [] (by decide) (by decide) rfl rfl
  refine ⟨rfl, HS, ?_⟩
  first | (refine e_pure (i := 11) #[true, true, true, true, true, true, true, true, true, true, true, true, false, false] rfl (by kernel_rfl) (fun _ _ _ h => h) rfl (fun w_ => evBld_run (o := ⟨_, _, _, _, _, _⟩) rfl (built_rq _ _ _ _ _ _)) ?_)
  refine e_one (i := 12) #[true, true, true, true, true, true, true, true, true, true, true, true, true, false] rfl (by kernel_rfl) (by decide) rfl ?_
  refine h_alloc recs H rfl rfl (fun gL w_ H => ?_)
  refine l_nil ?_
  have HS := H.pick [1, 2] [] (by decide) (by decide) rfl rfl
  refine ⟨rfl, HS, ?_⟩
  refine e_one (i := 13) #[true, true, true, true, true, true, true, true, true, true, true, true, true, true] rfl (by kernel_rfl) (by decide) rfl ?_
  refine g_on ?_; ((with_reducible refine g_st ?_); (refine h_stR recs H 0 rfl rfl rfl rfl rfl rfl rfl rfl rfl (fun w_ H => ?_)))
  refine l_nil ?_
  have HS := H.pick [1, 2] [] (by decide) (by decide) rfl rfl
  refine ⟨rfl, HS, ?_⟩
  refine e_done rfl ?_
  rotate_left
  refine h_alloc recs H rfl rfl (fun gL w_ H => ?_)
  refine l_nil ?_
  have HS := H.pick [1, 2] [] (by decide) (by decide) rfl rfl
  refine ⟨rfl, HS, ?_⟩
  refine e_one (i := 10) #[true, true, true, true, true, true, true, true, true, true, true, false, true, false] rfl (by kernel_rfl) (by decide) rfl ?_
  (refine l_call rfl rfl (by kernel_rfl) (padded_c (hr.below H.B) pad hbl) (fun e w_ hR => ?_)); obtain ⟨A1, c1, rfl, K⟩ := hR; refine ⟨_, rfl, ?_⟩; have H := H.join K
  refine l_nil ?_
  have HS := H.pick [1, 2] [] (by decide) (by decide) rfl rfl
  refine ⟨rfl, HS, ?_⟩
  first | (refine e_pure (i := 11) #[true, true, true, true, true, true, true, true, true, true, true, true, true, false] rfl (by kernel_rfl) (fun _ _ _ h => h) rfl (fun w_ => evBld_run (o := ⟨_, _, _, _, _, _⟩) rfl (built_rq _ _ _ _ _ _)) ?_)
  refine e_one (i := 13) #[true, true, true, true, true, true, true, true, true, true, true, true, true, true] rfl (by kernel_rfl) (by decide) rfl ?_
  refine g_on ?_; ((with_reducible refine g_st ?_); (refine h_stR recs H 0 rfl rfl rfl rfl rfl rfl rfl rfl rfl (fun w_ H => ?_)))
  refine l_nil ?_
  have HS := H.pick [1, 2] [] (by decide) (by decide) rfl rfl
  refine ⟨rfl, HS, ?_⟩
  refine e_done rfl ?_
  · skip
    repeat' (first | (first | (with_reducible refine p_tn ?_) | (with_reducible refine wp_seq ?_) | (with_reducible refine wp_block ?_) | (with_reducible refine w_reg ?_)) | (first | (with_reducible refine l_nil ?_) | ((with_reducible refine g_on ?_); ((with_reducible refine g_as ?_); refine l_p txs rfl rfl ?_))))
    have hml := mkF_len ns vs
    refine w_loop (σ := Nat × Option Addr × Nat) (S := fun s => [(1, .pointer (some ⟨gX, 0, none⟩)), (2, .pointer (some ⟨gC, 0, none⟩)), (3, .pointer (some ⟨gL, 0, none⟩)), (4, .int .i64 (s.1 : Int))])
      (J := fun s w' => Hp w w' [(gL, 29, [.string (strOfNums m), .string (strOfNums t), .int .i64 mi, .slice s.2.1 s.1 s.2.2, .slice A1 (padS body pad).length c1, .bool false]), (gC, 29, [.string ⟨#[]⟩, .string ⟨#[]⟩, .int .i64 0, .slice none 0 0, .slice none 0 0, .bool false]), (gX, 25, [.string (strOfNums m), .string (strOfNums t), .int .i64 mi, .slice NB ns.length nc, .slice VB vs.length vc, .slice BB body.length bc, .int .i64 pad])] [rowB (.slice A1 (padS body pad).length c1) (padS body pad), ⟨.slice s.2.1 s.1 s.2.2, 95, 2, s.1, fldC ((mkF ns vs).take s.1)⟩] ∧ s.1 ≤ ns.length) (μ := fun s => ns.length - s.1) (0, none, 0) ⟨rfl, rfl, rfl, rfl, trivial⟩ ⟨H, by omega⟩ ?_
    rintro ⟨i, A2, c2⟩ f w_ ⟨H, hi⟩
    simp only at H hi ⊢
    repeat' (first | (first | (with_reducible refine wp_seq ?_) | (with_reducible refine w_reg ?_)) | ((with_reducible refine g_on ?_); (first | ((with_reducible refine g_mv ?_); refine l_p txs rfl rfl ?_) | ((with_reducible refine g_fa ?_); refine h_fa flds rfl rfl ?_) | ((with_reducible refine g_ld ?_); (refine h_ld txs H 2 rfl rfl rfl rfl ?_)) | ((with_reducible refine g_cl ?_); refine l_p txs rfl rfl ?_))))
    (with_reducible refine is_l ?_); refine l_t txs rfl rfl (fun hlt => ?_) (fun hge => ?_)
    · obtain ⟨x, hx⟩ : ∃ x, ns[i]? = some x := ⟨_, List.getElem?_eq_getElem (by omega)⟩
      obtain ⟨ad, rfl⟩ : ∃ ad, NB = some ad := by
        cases NB with
        | none =>
          have := hn.1 rfl
          simp only [strC, List.map_eq_nil_iff] at this
          rw [this] at hx
          simp at hx
        | some ad => exact ⟨ad, rfl⟩
      have hcell := hn.2 ad rfl _ _ (strC_at hx)
      have htk := mkF_take (vs := vs) hx
      repeat' (first | (first | (with_reducible refine p_tn ?_) | (with_reducible refine wp_seq ?_) | (with_reducible refine wp_block ?_) | (with_reducible (refine is_if ?_; (refine w_ift rfl ?_))) | (with_reducible refine wp_skip ?_)) | (with_reducible refine l_nil ?_))
      have HS := H.pick [0, 1, 2] [0] (by decide) (by decide) rfl rfl
      refine e_start (fun w_ => Hp w w_ _ _) [15] #[false, false, false, false, false, false, false, false, false, false, false, false, false, false, false, false] (by kernel_rfl) rfl rfl HS.drew ?_
      have H := H.drew
      have HS := HS.drew
      first | (refine e_pure (i := 0) #[true, false, false, false, false, false, false, false, false, false, false, false, false, false, false, false] rfl (by kernel_rfl) (fun _ _ _ h => h) rfl (fun w_ => evF_run (o := ⟨_, _, _, _, _, _⟩) flds rfl) ?_) | (refine e_pure (i := 0) #[true, false, false, false, false, false, false, false, false, false, false, false, false, false, false, false] rfl (by kernel_rfl) (fun _ _ _ h => h) rfl (fun w_ => evG_run (o := ⟨_, _, _, _, _, _⟩) flds rfl) ?_)
      first | (refine e_take (i := 1) #[true, true, false, false, false, false, false, false, false, false, false, false, false, false, false, false] rfl (by kernel_rfl) (fun _ _ _ h => h) rfl (fun w_ K => evL_run (o := ⟨_, _, _, _, _, _⟩) txs rfl (K.cellAt 0 rfl rfl)) HS ?_) | (refine e_take (i := 1) #[true, true, false, false, false, false, false, false, false, false, false, false, false, false, false, false] rfl (by kernel_rfl) (fun _ _ _ h => h) rfl (fun w_ K => evL_run (o := ⟨_, _, _, _, _, _⟩) txs rfl (K.cellAt 1 rfl rfl)) HS ?_) | (refine e_take (i := 1) #[true, true, false, false, false, false, false, false, false, false, false, false, false, false, false, false] rfl (by kernel_rfl) (fun _ _ _ h => h) rfl (fun w_ K => evL_run (o := ⟨_, _, _, _, _, _⟩) txs rfl (K.cellAt 2 rfl rfl)) HS ?_)
      first | (refine e_pure (i := 2) #[true, true, true, false, false, false, false, false, false, false, false, false, false, false, false, false] rfl (by kernel_rfl) (fun _ _ _ h => h) rfl (fun w_ => evF_run (o := ⟨_, _, _, _, _, _⟩) flds rfl) ?_) | (refine e_pure (i := 2) #[true, true, true, false, false, false, false, false, false, false, false, false, false, false, false, false] rfl (by kernel_rfl) (fun _ _ _ h => h) rfl (fun w_ => evG_run (o := ⟨_, _, _, _, _, _⟩) flds rfl) ?_)
      first | (refine e_take (i := 3) #[true, true, true, true, false, false, false, false, false, false, false, false, false, false, false, false] rfl (by kernel_rfl) (fun _ _ _ h => h) rfl (fun w_ K => evL_run (o := ⟨_, _, _, _, _, _⟩) txs rfl (K.cellAt 0 rfl rfl)) HS ?_) | (refine e_take (i := 3) #[true, true, true, true, false, false, false, false, false, false, false, false, false, false, false, false] rfl (by kernel_rfl) (fun _ _ _ h => h) rfl (fun w_ K => evL_run (o := ⟨_, _, _, _, _, _⟩) txs rfl (K.cellAt 1 rfl rfl)) HS ?_) | (refine e_take (i := 3) #[true, true, true, true, false, false, false, false, false, false, false, false, false, false, false, false] rfl (by kernel_rfl) (fun _ _ _ h => h) rfl (fun w_ K => evL_run (o := ⟨_, _, _, _, _, _⟩) txs rfl (K.cellAt 2 rfl rfl)) HS ?_)
      first | (refine e_pure (i := 4) #[true, true, true, true, true, false, false, false, false, false, false, false, false, false, false, false] rfl (by kernel_rfl) (fun _ _ _ h => h) rfl (fun w_ => evP_run (o := ⟨_, _, _, _, _, _⟩) txs rfl) ?_)
      first | (refine e_pure (i := 5) #[true, true, true, true, true, true, false, false, false, false, false, false, false, false, false, false] rfl (by kernel_rfl) (fun _ _ _ h => h) rfl (fun w_ => evIA_run (o := ⟨_, _, _, _, _, _⟩) txs rfl (by omega) (by omega)) ?_)
      first | (refine e_take (i := 6) #[true, true, true, true, true, true, true, false, false, false, false, false, false, false, false, false] rfl (by kernel_rfl) (fun _ _ _ h => h) rfl (fun w_ K => evL_run (o := ⟨_, _, _, _, _, _⟩) txs rfl (by rw [Int.toNat_natCast]; exact K.old hcell)) HS ?_)
      first | (refine e_pure (i := 7) #[true, true, true, true, true, true, true, true, false, false, false, false, false, false, false, false] rfl (by kernel_rfl) (fun _ _ _ h => h) rfl (fun w_ => evF_run (o := ⟨_, _, _, _, _, _⟩) flds rfl) ?_) | (refine e_pure (i := 7) #[true, true, true, true, true, true, true, true, false, false, false, false, false, false, false, false] rfl (by kernel_rfl) (fun _ _ _ h => h) rfl (fun w_ => evG_run (o := ⟨_, _, _, _, _, _⟩) flds rfl) ?_)
      first | (refine e_take (i := 8) #[true, true, true, true, true, true, true, true, true, false, false, false, false, false, false, false] rfl (by kernel_rfl) (fun _ _ _ h => h) rfl (fun w_ K => evL_run (o := ⟨_, _, _, _, _, _⟩) txs rfl (K.cellAt 0 rfl rfl)) HS ?_) | (refine e_take (i := 8) #[true, true, true, true, true, true, true, true, true, false, false, false, false, false, false, false] rfl (by kernel_rfl) (fun _ _ _ h => h) rfl (fun w_ K => evL_run (o := ⟨_, _, _, _, _, _⟩) txs rfl (K.cellAt 1 rfl rfl)) HS ?_) | (refine e_take (i := 8) #[true, true, true, true, true, true, true, true, true, false, false, false, false, false, false, false] rfl (by kernel_rfl) (fun _ _ _ h => h) rfl (fun w_ K => evL_run (o := ⟨_, _, _, _, _, _⟩) txs rfl (K.cellAt 2 rfl rfl)) HS ?_)
      first | (refine e_pure (i := 9) #[true, true, true, true, true, true, true, true, true, true, false, false, false, false, false, false] rfl (by kernel_rfl) (fun _ _ _ h => h) rfl (fun w_ => evP_run (o := ⟨_, _, _, _, _, _⟩) txs rfl) ?_)
      refine e_one (i := 10) #[true, true, true, true, true, true, true, true, true, true, true, false, false, false, false, false] rfl (by kernel_rfl) (by decide) rfl ?_
      refine l_callv rfl rfl (by kernel_rfl) (value14_c (hv.below H.B) i (by omega)) (fun w_ K => ?_); have H := H.call K
      refine l_nil ?_
      have HS := H.pick [0, 1, 2] [0] (by decide) (by decide) rfl rfl
      refine ⟨rfl, HS, ?_⟩
      first | (refine e_pure (i := 11) #[true, true, true, true, true, true, true, true, true, true, true, true, false, false, false, false] rfl (by kernel_rfl) (fun _ _ _ h => h) rfl (fun w_ => evBld_run (o := ⟨_, _, _, _, _, _⟩) rfl (built_f2 _ _)) ?_)
      refine e_one (i := 12) #[true, true, true, true, true, true, true, true, true, true, true, true, true, false, false, false] rfl (by kernel_rfl) (by decide) rfl ?_
      refine h_bs H info_f Tryz.underlying27 (by decide) (by decide) rfl rfl (fill_f _ _) (fun g_ w_ H => ?_)
      refine l_nil ?_
      have HS := H.pick [1, 2, 3] [0] (by decide) (by decide) rfl rfl
      refine ⟨rfl, HS, ?_⟩
      refine e_one (i := 13) #[true, true, true, true, true, true, true, true, true, true, true, true, true, true, false, false] rfl (by kernel_rfl) (by decide) rfl ?_
      (refine h_app H 1 rfl info_f Tryz.underlying27 rfl rfl rfl rfl (H.cellRd 0 rfl) rfl rfl (by show (i + 1) * 32 ≤ _; omega) (fun v w_ hv H => ?_)); obtain ⟨A', c', rfl⟩ := hv
      refine l_nil ?_
      have HS := H.pick [1, 2, 3] [0] (by decide) (by decide) rfl rfl
      refine ⟨rfl, HS, ?_⟩
      first | (refine e_pure (i := 14) #[true, true, true, true, true, true, true, true, true, true, true, true, true, true, true, false] rfl (by kernel_rfl) (fun _ _ _ h => h) rfl (fun w_ => evF_run (o := ⟨_, _, _, _, _, _⟩) flds rfl) ?_) | (refine e_pure (i := 14) #[true, true, true, true, true, true, true, true, true, true, true, true, true, true, true, false] rfl (by kernel_rfl) (fun _ _ _ h => h) rfl (fun w_ => evG_run (o := ⟨_, _, _, _, _, _⟩) flds rfl) ?_)
      refine e_last (i := 15) #[true, true, true, true, true, true, true, true, true, true, true, true, true, true, true, true] rfl (by kernel_rfl) (by decide) rfl ?_
      refine g_on ?_; ((with_reducible refine g_st ?_); (refine h_st txs ones H 1 rfl rfl rfl rfl rfl rfl rfl rfl rfl (fun w_ H => ?_)))
      refine l_nil ?_
      refine ⟨rfl, ?_⟩
      refine e_done rfl ?_
      repeat' (first | (first | (with_reducible refine p_tn ?_) | (with_reducible refine p_bn ?_) | (with_reducible refine w_reg ?_)) | (first | (with_reducible refine l_nil ?_) | ((with_reducible refine g_on ?_); (first | ((with_reducible refine g_mv ?_); refine l_p txs rfl rfl ?_) | ((with_reducible refine g_as ?_); refine l_p txs rfl rfl ?_) | ((with_reducible refine g_bi ?_); (refine l_a txs rfl rfl (by first | exact in_i64 (by omega) (by omega) | exact in_u8 (by omega) (by omega) | exact in_u64 (by omega) (by omega) | exact in_i32 (by omega) (by omega)) ?_))))))
      refine ⟨(i + 1, A', c'), _, rfl, ⟨rfl, rfl, rfl, rfl, trivial⟩, ⟨?_, by show i + 1 ≤ _; omega⟩, by show _ - (i + 1) < _ - i; omega⟩
      simp only [htk, fldC_snoc]
      exact H.pick [1, 2, 3] [0, 1] (by decide) (by decide) rfl rfl
    · have hall : (mkF ns vs).take i = mkF ns vs := List.take_of_length_le (by omega)
      have hin : i = ns.length := by omega
      subst hin
      rw [hall] at H
      repeat' (first | (first | (with_reducible refine p_tn ?_) | (with_reducible refine p_tx ?_) | (with_reducible refine x_hit ?_) | (with_reducible refine wp_seq ?_) | (with_reducible refine w_reg ?_) | (with_reducible (refine is_if ?_; (refine w_iff rfl ?_))) | (with_reducible refine wp_exit ?_) | (with_reducible refine wp_ret ?_)) | (first | (with_reducible refine l_nil ?_) | ((with_reducible refine g_on ?_); (first | ((with_reducible refine g_ld ?_); (refine h_ldR recs H 0 rfl rfl rfl rfl rfl ?_)) | ((with_reducible refine g_st ?_); (refine h_stR recs H 1 rfl rfl rfl rfl rfl rfl rfl rfl rfl (fun w_ H => ?_)))))))
      refine end_cell recs H 1 rfl rfl rfl rfl rfl ?_
      refine ⟨A2, c2, A1, c1, ?_, ?_⟩
      · show _ = Ending.returned (.agg #[.string (strOfNums m), .string (strOfNums t), .int .i64 mi, .slice A2 (mkF ns vs).length c2, .slice A1 (padS body pad).length c1, .bool false])
        rw [hml]
      · unfold rowF
        rw [hml]
        exact H.pick [] [1, 0] (by decide) (by decide) rfl rfl
  · skip
    repeat' (first | (first | (with_reducible refine p_tn ?_) | (with_reducible refine wp_seq ?_) | (with_reducible refine wp_block ?_) | (with_reducible refine w_reg ?_)) | (first | (with_reducible refine l_nil ?_) | ((with_reducible refine g_on ?_); ((with_reducible refine g_as ?_); refine l_p txs rfl rfl ?_))))
    have hml := mkF_len ns vs
    refine w_loop (σ := Nat × Option Addr × Nat) (S := fun s => [(1, .pointer (some ⟨gX, 0, none⟩)), (2, .pointer (some ⟨gC, 0, none⟩)), (3, .pointer (some ⟨gL, 0, none⟩)), (4, .int .i64 (s.1 : Int))])
      (J := fun s w' => Hp w w' [(gL, 29, [.string (strOfNums m), .string (strOfNums t), .int .i64 mi, .slice s.2.1 s.1 s.2.2, .slice A1 (padS body pad).length c1, .bool false]), (gC, 29, [.string ⟨#[]⟩, .string ⟨#[]⟩, .int .i64 0, .slice none 0 0, .slice none 0 0, .bool false]), (gX, 25, [.string (strOfNums m), .string (strOfNums t), .int .i64 mi, .slice NB ns.length nc, .slice VB vs.length vc, .slice BB body.length bc, .int .i64 pad])] [rowB (.slice A1 (padS body pad).length c1) (padS body pad), ⟨.slice s.2.1 s.1 s.2.2, 95, 2, s.1, fldC ((mkF ns vs).take s.1)⟩] ∧ s.1 ≤ ns.length) (μ := fun s => ns.length - s.1) (0, none, 0) ⟨rfl, rfl, rfl, rfl, trivial⟩ ⟨H, by omega⟩ ?_
    rintro ⟨i, A2, c2⟩ f w_ ⟨H, hi⟩
    simp only at H hi ⊢
    repeat' (first | (first | (with_reducible refine wp_seq ?_) | (with_reducible refine w_reg ?_)) | ((with_reducible refine g_on ?_); (first | ((with_reducible refine g_mv ?_); refine l_p txs rfl rfl ?_) | ((with_reducible refine g_fa ?_); refine h_fa flds rfl rfl ?_) | ((with_reducible refine g_ld ?_); (refine h_ld txs H 2 rfl rfl rfl rfl ?_)) | ((with_reducible refine g_cl ?_); refine l_p txs rfl rfl ?_))))
    (with_reducible refine is_l ?_); refine l_t txs rfl rfl (fun hlt => ?_) (fun hge => ?_)
    · obtain ⟨x, hx⟩ : ∃ x, ns[i]? = some x := ⟨_, List.getElem?_eq_getElem (by omega)⟩
      obtain ⟨ad, rfl⟩ : ∃ ad, NB = some ad := by
        cases NB with
        | none =>
          have := hn.1 rfl
          simp only [strC, List.map_eq_nil_iff] at this
          rw [this] at hx
          simp at hx
        | some ad => exact ⟨ad, rfl⟩
      have hcell := hn.2 ad rfl _ _ (strC_at hx)
      have htk := mkF_take (vs := vs) hx
      repeat' (first | (first | (with_reducible refine p_tn ?_) | (with_reducible refine wp_seq ?_) | (with_reducible refine wp_block ?_) | (with_reducible (refine is_if ?_; (refine w_ift rfl ?_))) | (with_reducible refine wp_skip ?_)) | (with_reducible refine l_nil ?_))
      have HS := H.pick [0, 1, 2] [0] (by decide) (by decide) rfl rfl
      refine e_start (fun w_ => Hp w w_ _ _) [15] #[false, false, false, false, false, false, false, false, false, false, false, false, false, false, false, false] (by kernel_rfl) rfl rfl HS.drew ?_
      have H := H.drew
      have HS := HS.drew
      first | (refine e_pure (i := 0) #[true, false, false, false, false, false, false, false, false, false, false, false, false, false, false, false] rfl (by kernel_rfl) (fun _ _ _ h => h) rfl (fun w_ => evF_run (o := ⟨_, _, _, _, _, _⟩) flds rfl) ?_) | (refine e_pure (i := 0) #[true, false, false, false, false, false, false, false, false, false, false, false, false, false, false, false] rfl (by kernel_rfl) (fun _ _ _ h => h) rfl (fun w_ => evG_run (o := ⟨_, _, _, _, _, _⟩) flds rfl) ?_)
      first | (refine e_take (i := 1) #[true, true, false, false, false, false, false, false, false, false, false, false, false, false, false, false] rfl (by kernel_rfl) (fun _ _ _ h => h) rfl (fun w_ K => evL_run (o := ⟨_, _, _, _, _, _⟩) txs rfl (K.cellAt 0 rfl rfl)) HS ?_) | (refine e_take (i := 1) #[true, true, false, false, false, false, false, false, false, false, false, false, false, false, false, false] rfl (by kernel_rfl) (fun _ _ _ h => h) rfl (fun w_ K => evL_run (o := ⟨_, _, _, _, _, _⟩) txs rfl (K.cellAt 1 rfl rfl)) HS ?_) | (refine e_take (i := 1) #[true, true, false, false, false, false, false, false, false, false, false, false, false, false, false, false] rfl (by kernel_rfl) (fun _ _ _ h => h) rfl (fun w_ K => evL_run (o := ⟨_, _, _, _, _, _⟩) txs rfl (K.cellAt 2 rfl rfl)) HS ?_)
      first | (refine e_pure (i := 2) #[true, true, true, false, false, false, false, false, false, false, false, false, false, false, false, false] rfl (by kernel_rfl) (fun _ _ _ h => h) rfl (fun w_ => evF_run (o := ⟨_, _, _, _, _, _⟩) flds rfl) ?_) | (refine e_pure (i := 2) #[true, true, true, false, false, false, false, false, false, false, false, false, false, false, false, false] rfl (by kernel_rfl) (fun _ _ _ h => h) rfl (fun w_ => evG_run (o := ⟨_, _, _, _, _, _⟩) flds rfl) ?_)
      first | (refine e_take (i := 3) #[true, true, true, true, false, false, false, false, false, false, false, false, false, false, false, false] rfl (by kernel_rfl) (fun _ _ _ h => h) rfl (fun w_ K => evL_run (o := ⟨_, _, _, _, _, _⟩) txs rfl (K.cellAt 0 rfl rfl)) HS ?_) | (refine e_take (i := 3) #[true, true, true, true, false, false, false, false, false, false, false, false, false, false, false, false] rfl (by kernel_rfl) (fun _ _ _ h => h) rfl (fun w_ K => evL_run (o := ⟨_, _, _, _, _, _⟩) txs rfl (K.cellAt 1 rfl rfl)) HS ?_) | (refine e_take (i := 3) #[true, true, true, true, false, false, false, false, false, false, false, false, false, false, false, false] rfl (by kernel_rfl) (fun _ _ _ h => h) rfl (fun w_ K => evL_run (o := ⟨_, _, _, _, _, _⟩) txs rfl (K.cellAt 2 rfl rfl)) HS ?_)
      first | (refine e_pure (i := 4) #[true, true, true, true, true, false, false, false, false, false, false, false, false, false, false, false] rfl (by kernel_rfl) (fun _ _ _ h => h) rfl (fun w_ => evP_run (o := ⟨_, _, _, _, _, _⟩) txs rfl) ?_)
      first | (refine e_pure (i := 5) #[true, true, true, true, true, true, false, false, false, false, false, false, false, false, false, false] rfl (by kernel_rfl) (fun _ _ _ h => h) rfl (fun w_ => evIA_run (o := ⟨_, _, _, _, _, _⟩) txs rfl (by omega) (by omega)) ?_)
      first | (refine e_take (i := 6) #[true, true, true, true, true, true, true, false, false, false, false, false, false, false, false, false] rfl (by kernel_rfl) (fun _ _ _ h => h) rfl (fun w_ K => evL_run (o := ⟨_, _, _, _, _, _⟩) txs rfl (by rw [Int.toNat_natCast]; exact K.old hcell)) HS ?_)
      first | (refine e_pure (i := 7) #[true, true, true, true, true, true, true, true, false, false, false, false, false, false, false, false] rfl (by kernel_rfl) (fun _ _ _ h => h) rfl (fun w_ => evF_run (o := ⟨_, _, _, _, _, _⟩) flds rfl) ?_) | (refine e_pure (i := 7) #[true, true, true, true, true, true, true, true, false, false, false, false, false, false, false, false] rfl (by kernel_rfl) (fun _ _ _ h => h) rfl (fun w_ => evG_run (o := ⟨_, _, _, _, _, _⟩) flds rfl) ?_)
      first | (refine e_take (i := 8) #[true, true, true, true, true, true, true, true, true, false, false, false, false, false, false, false] rfl (by kernel_rfl) (fun _ _ _ h => h) rfl (fun w_ K => evL_run (o := ⟨_, _, _, _, _, _⟩) txs rfl (K.cellAt 0 rfl rfl)) HS ?_) | (refine e_take (i := 8) #[true, true, true, true, true, true, true, true, true, false, false, false, false, false, false, false] rfl (by kernel_rfl) (fun _ _ _ h => h) rfl (fun w_ K => evL_run (o := ⟨_, _, _, _, _, _⟩) txs rfl (K.cellAt 1 rfl rfl)) HS ?_) | (refine e_take (i := 8) #[true, true, true, true, true, true, true, true, true, false, false, false, false, false, false, false] rfl (by kernel_rfl) (fun _ _ _ h => h) rfl (fun w_ K => evL_run (o := ⟨_, _, _, _, _, _⟩) txs rfl (K.cellAt 2 rfl rfl)) HS ?_)
      first | (refine e_pure (i := 9) #[true, true, true, true, true, true, true, true, true, true, false, false, false, false, false, false] rfl (by kernel_rfl) (fun _ _ _ h => h) rfl (fun w_ => evP_run (o := ⟨_, _, _, _, _, _⟩) txs rfl) ?_)
      refine e_one (i := 10) #[true, true, true, true, true, true, true, true, true, true, true, false, false, false, false, false] rfl (by kernel_rfl) (by decide) rfl ?_
      refine l_callv rfl rfl (by kernel_rfl) (value14_c (hv.below H.B) i (by omega)) (fun w_ K => ?_); have H := H.call K
      refine l_nil ?_
      have HS := H.pick [0, 1, 2] [0] (by decide) (by decide) rfl rfl
      refine ⟨rfl, HS, ?_⟩
      first | (refine e_pure (i := 11) #[true, true, true, true, true, true, true, true, true, true, true, true, false, false, false, false] rfl (by kernel_rfl) (fun _ _ _ h => h) rfl (fun w_ => evBld_run (o := ⟨_, _, _, _, _, _⟩) rfl (built_f2 _ _)) ?_)
      refine e_one (i := 12) #[true, true, true, true, true, true, true, true, true, true, true, true, true, false, false, false] rfl (by kernel_rfl) (by decide) rfl ?_
      refine h_bs H info_f Tryz.underlying27 (by decide) (by decide) rfl rfl (fill_f _ _) (fun g_ w_ H => ?_)
      refine l_nil ?_
      have HS := H.pick [1, 2, 3] [0] (by decide) (by decide) rfl rfl
      refine ⟨rfl, HS, ?_⟩
      refine e_one (i := 13) #[true, true, true, true, true, true, true, true, true, true, true, true, true, true, false, false] rfl (by kernel_rfl) (by decide) rfl ?_
      (refine h_app H 1 rfl info_f Tryz.underlying27 rfl rfl rfl rfl (H.cellRd 0 rfl) rfl rfl (by show (i + 1) * 32 ≤ _; omega) (fun v w_ hv H => ?_)); obtain ⟨A', c', rfl⟩ := hv
      refine l_nil ?_
      have HS := H.pick [1, 2, 3] [0] (by decide) (by decide) rfl rfl
      refine ⟨rfl, HS, ?_⟩
      first | (refine e_pure (i := 14) #[true, true, true, true, true, true, true, true, true, true, true, true, true, true, true, false] rfl (by kernel_rfl) (fun _ _ _ h => h) rfl (fun w_ => evF_run (o := ⟨_, _, _, _, _, _⟩) flds rfl) ?_) | (refine e_pure (i := 14) #[true, true, true, true, true, true, true, true, true, true, true, true, true, true, true, false] rfl (by kernel_rfl) (fun _ _ _ h => h) rfl (fun w_ => evG_run (o := ⟨_, _, _, _, _, _⟩) flds rfl) ?_)
      refine e_last (i := 15) #[true, true, true, true, true, true, true, true, true, true, true, true, true, true, true, true] rfl (by kernel_rfl) (by decide) rfl ?_
      refine g_on ?_; ((with_reducible refine g_st ?_); (refine h_st txs ones H 1 rfl rfl rfl rfl rfl rfl rfl rfl rfl (fun w_ H => ?_)))
      refine l_nil ?_
      refine ⟨rfl, ?_⟩
      refine e_done rfl ?_
      repeat' (first | (first | (with_reducible refine p_tn ?_) | (with_reducible refine p_bn ?_) | (with_reducible refine w_reg ?_)) | (first | (with_reducible refine l_nil ?_) | ((with_reducible refine g_on ?_); (first | ((with_reducible refine g_mv ?_); refine l_p txs rfl rfl ?_) | ((with_reducible refine g_as ?_); refine l_p txs rfl rfl ?_) | ((with_reducible refine g_bi ?_); (refine l_a txs rfl rfl (by first | exact in_i64 (by omega) (by omega) | exact in_u8 (by omega) (by omega) | exact in_u64 (by omega) (by omega) | exact in_i32 (by omega) (by omega)) ?_))))))
      refine ⟨(i + 1, A', c'), _, rfl, ⟨rfl, rfl, rfl, rfl, trivial⟩, ⟨?_, by show i + 1 ≤ _; omega⟩, by show _ - (i + 1) < _ - i; omega⟩
      simp only [htk, fldC_snoc]
      exact H.pick [1, 2, 3] [0, 1] (by decide) (by decide) rfl rfl
    · have hall : (mkF ns vs).take i = mkF ns vs := List.take_of_length_le (by omega)
      have hin : i = ns.length := by omega
      subst hin
      rw [hall] at H
      repeat' (first | (first | (with_reducible refine p_tn ?_) | (with_reducible refine p_tx ?_) | (with_reducible refine x_hit ?_) | (with_reducible refine wp_seq ?_) | (with_reducible refine w_reg ?_) | (with_reducible (refine is_if ?_; (refine w_iff rfl ?_))) | (with_reducible refine wp_exit ?_) | (with_reducible refine wp_ret ?_)) | (first | (with_reducible refine l_nil ?_) | ((with_reducible refine g_on ?_); (first | ((with_reducible refine g_ld ?_); (refine h_ldR recs H 0 rfl rfl rfl rfl rfl ?_)) | ((with_reducible refine g_st ?_); (refine h_stR recs H 1 rfl rfl rfl rfl rfl rfl rfl rfl rfl (fun w_ H => ?_)))))))
      refine end_cell recs H 1 rfl rfl rfl rfl rfl ?_
      refine ⟨A2, c2, A1, c1, ?_, ?_⟩
      · show _ = Ending.returned (.agg #[.string (strOfNums m), .string (strOfNums t), .int .i64 mi, .slice A2 (mkF ns vs).length c2, .slice A1 (padS body pad).length c1, .bool false])
        rw [hml]
      · unfold rowF
        rw [hml]
        exact H.pick [] [1, 0] (by decide) (by decide) rfl rfl
end Go.Proofs.YthgojbdpmcccaaaGreatDoor.K
end
section
namespace Go.Proofs.YthgojbdpmcccaaaGreatDoor.Op
open Go.ChangeShapes Go.WideShapes Go.ChangeAt Go.RowKit
open Go.Proofs.YthgojbdpmcccaaaGreatDoor.K Go.Proofs.YthgojbdpmcccaaaGreatDoor.Q Go.Proofs.YthgojbdpmcccaaaGreatDoor.Wb Go.Proofs.YthgojbdpmcccaaaGreatDoor.LaidF Go.Proofs.YthgojbdpmcccaaaGreatDoorW.PrintWords
set_option linter.unusedVariables false
set_option linter.unusedSimpArgs false
theorem part_le {H : Type} {d : DataW H} {l : List (DataW H)} (h : d ∈ l) : Rows.uptoBulk d ≤ Rows.uptoBulkAll l := by
  induction l with
  | nil => cases h
  | cons x r ih =>
    simp only [Rows.uptoBulkAll]
    cases List.mem_cons.1 h with
    | inl e => subst e; omega
    | inr e => have := ih e; omega
theorem lits_le {H : Type} (k : IntKind) : ∀ l : List Int, l.length ≤ Rows.uptoBulkAll (lits (H := H) k l)
  | [] => by simp [lits, Rows.uptoBulkAll]
  | x :: l => by
    have h := lits_le (H := H) k l
    have e : Rows.uptoBulkAll (lits (H := H) k (x :: l)) = 1 + Rows.uptoBulkAll (lits (H := H) k l) := by simp only [lits, List.map_cons, Rows.uptoBulkAll, Rows.uptoBulk]
    rw [e]
    simp only [List.length_cons]
    omega
theorem strs_le {H : Type} : ∀ l : List ByteArray, l.length ≤ Rows.uptoBulkAll (strs (H := H) l) ∧ ∀ x ∈ l, x.size ≤ Rows.uptoBulkAll (strs (H := H) l)
  | [] => by simp [strs, Rows.uptoBulkAll]
  | s :: l => by
    obtain ⟨h1, h2⟩ := strs_le (H := H) l
    have e : Rows.uptoBulkAll (strs (H := H) (s :: l)) = (s.data.toList.length + 1) + Rows.uptoBulkAll (strs (H := H) l) := by simp only [strs, List.map_cons, Rows.uptoBulkAll, Rows.uptoBulk]
    rw [e, data_length]
    refine ⟨by simp only [List.length_cons]; omega, fun x hx => ?_⟩
    rcases List.mem_cons.1 hx with rfl | hx
    · omega
    · have := h2 x hx; omega
section
variable {H : Type} {enc : TypeId × Value → H} {W : World} {fuel : Nat} {cs : List Value} {x : DataW H × List MemPlace}
set_option maxRecDepth 100000 in
theorem bytes_in (hf : DataW.trod enc Tryz.prog W 0 (fun _ => true) true fuel 23 cs = some x) :
    ∃ (A : Option Addr) (c : Nat) (l : L), cs = [.slice A l.length c] ∧ l.length ≤ c ∧ ReadsInt W .u8 A l.length l ∧ l.length ≤ Rows.uptoBulk x.1 ∧ Bytes l ∧ (A = none → c = 0 ∧ l.length = 0) := by
  rcases open_ints Tryz.underlying23 Tryz.underlying5 (by kernel_rfl) hf with ⟨rfl, hx⟩ | ⟨a, len, cap, ss, rfl, _, hl, hm, hz, rfl, hcell, hwf⟩
  · exact ⟨none, 0, [], rfl, Nat.le_refl _, ⟨rfl, by simp, fun h => absurd h (Nat.lt_irrefl 0)⟩, by simp, (fun _ h => by cases h), fun _ => ⟨rfl, rfl⟩⟩
  · simp only [if_true] at hz
    have hlen : (ss.take len).length = len := by rw [List.length_take]; omega
    have h1 := lits_le (H := H) .u8 (ss.take len)
    have hb : Rows.uptoBulk (.slice (lits (H := H) .u8 (ss.take len)) (lits .u8 (ss.drop len))) = Rows.uptoBulkAll (lits (H := H) .u8 (ss.take len)) + Rows.uptoBulkAll (lits (H := H) .u8 (ss.drop len)) + 1 := by simp only [Rows.uptoBulk]
    refine ⟨some a, cap, ss.take len, by rw [hlen], by omega, ⟨rfl, by rw [hlen]; simp only [maxLen] at hm; omega, fun _ => ⟨a, rfl, fun j hj => ?_⟩⟩, by rw [hb]; omega, fun y hy => bounds_u8 (hwf y (List.mem_of_mem_take hy)), fun h => by cases h⟩
    rw [hcell j (by omega)]
    congr 2
    rw [List.getD_eq_getElem?_getD, List.getD_eq_getElem?_getD, List.getElem?_take_of_lt (by omega)]
set_option maxRecDepth 100000 in
theorem strs_in (hf : DataW.trod enc Tryz.prog W 0 (fun _ => true) true fuel 22 cs = some x) :
    ∃ (A : Option Addr) (c : Nat) (l : List L), cs = [.slice A l.length c] ∧ l.length ≤ c ∧ Rd W A (strC l) ∧ l.length ≤ Rows.uptoBulk x.1 ∧ ∀ y ∈ l, Bytes y ∧ y.length ≤ Rows.uptoBulk x.1 := by
  rcases open_strings Tryz.underlying22 Tryz.underlying9 (by kernel_rfl) hf with ⟨rfl, hx⟩ | ⟨a, len, cap, ss, rfl, _, hl, hm, hz, rfl, hcell, hsz⟩
  · exact ⟨none, 0, [], rfl, Nat.le_refl _, ⟨fun _ => rfl, fun ad e => (by cases e)⟩, by simp, by simp⟩
  · simp only [if_true] at hz
    have hlen : ((ss.take len).map bl).length = len := by rw [List.length_map, List.length_take]; omega
    obtain ⟨h1, h2⟩ := strs_le (H := H) (ss.take len)
    have hb : Rows.uptoBulk (.slice (strs (H := H) (ss.take len)) (strs (ss.drop len))) = Rows.uptoBulkAll (strs (H := H) (ss.take len)) + Rows.uptoBulkAll (strs (H := H) (ss.drop len)) + 1 := by simp only [Rows.uptoBulk]
    refine ⟨some a, cap, (ss.take len).map bl, by rw [hlen], by rw [hlen]; omega, ⟨fun e => (by cases e), fun ad e i v hv => ?_⟩, ?_, fun y hy => ?_⟩
    · injection e with e
      subst e
      have hi : i < len := by
        have := (List.getElem?_eq_some_iff.1 hv).1
        simp only [strC, List.length_map, List.length_take] at this
        omega
      rw [hcell i (by omega)]
      simp only [strC, List.getElem?_map, List.getElem?_take_of_lt hi, Option.map_map, Option.map_eq_some_iff] at hv
      obtain ⟨s, hs, rfl⟩ := hv
      rw [List.getD_eq_getElem?_getD, hs]
      simp [strS]
    · rw [hb, List.length_map]; omega
    · obtain ⟨s, hs, rfl⟩ := List.mem_map.1 hy
      refine ⟨bl_bytes s, ?_⟩
      have := h2 s hs
      rw [bl_length, hb]
      omega
theorem str_in {t : TypeId} (ht : Tryz.prog.underlying t = some .string) (hf : DataW.trod enc Tryz.prog W 0 (fun _ => true) true fuel t cs = some x) : ∃ l : L, cs = [.string (strOfNums l)] ∧ Bytes l ∧ l.length ≤ Rows.uptoBulk x.1 := by
  obtain ⟨s, rfl, rfl, _⟩ := DataW.trod_string ht hf
  refine ⟨bl s, by rw [strS], bl_bytes s, ?_⟩
  have e : Rows.uptoBulk (DataW.lit (.string s.data.toList) : DataW H) = s.data.toList.length + 1 := by simp only [Rows.uptoBulk]
  simp only [e, data_length, bl_length]
  omega
theorem i64_range {n : Int} (h : (Lit.int .i64 n).wf = true) : -9223372036854775808 ≤ n ∧ n ≤ 9223372036854775807 := by
  simp only [Lit.wf, Bool.and_eq_true, decide_eq_true_eq] at h
  have e1 : IntKind.min .i64 = -9223372036854775808 := by decide +kernel
  have e2 : IntKind.max .i64 = 9223372036854775807 := by decide +kernel
  rw [e1, e2] at h
  exact h
theorem int_in {t : TypeId} (ht : Tryz.prog.underlying t = some (.int .i64)) (hf : DataW.trod enc Tryz.prog W 0 (fun _ => true) true fuel t cs = some x) : ∃ n : Int, cs = [.int .i64 n] ∧ -9223372036854775808 ≤ n ∧ n ≤ 9223372036854775807 := by
  obtain ⟨n, rfl, rfl, hw⟩ := DataW.trod_int ht hf
  exact ⟨n, rfl, (i64_range hw).1, (i64_range hw).2⟩
noncomputable def oneB (fs : Array Field) : Bool := fs.toList.zipIdx.all fun p => p.1.offset == p.2 && Tryz.prog.cellsOf p.1.type == 1
theorem one_at {fs : Array Field} {t : TypeId} (ht : Tryz.prog.underlying t = some (.struct fs)) (h1 : oneB fs = true) (h : DataW.trod enc Tryz.prog W 0 (fun _ => true) true fuel t cs = some x) :
    ∃ (xs : List (DataW H × List MemPlace)) (n : Nat), x.1 = .agg (xs.map (·.1)) ∧ cs.length = Tryz.prog.cellsOf t ∧ ∀ (i : Nat) (f : Field), fs[i]? = some f → ∃ y, y ∈ xs ∧ DataW.trod enc Tryz.prog W 0 (fun _ => true) true n f.type ((cs.drop i).take 1) = some y := by
  obtain ⟨xs, n, _, rfl, hl, hxl, hall⟩ := DataW.trod_struct ht h
  refine ⟨xs, n, rfl, hl, fun i f hf => ?_⟩
  have hi : i < fs.size := (Array.getElem?_eq_some_iff.1 hf).1
  have hz : (f, i) ∈ fs.toList.zipIdx := by
    refine List.mem_of_getElem? (i := i) ?_
    rw [List.getElem?_zipIdx, Array.getElem?_toList, hf]
    simp
  have h2 := List.all_eq_true.1 h1 _ hz
  simp only [Bool.and_eq_true, beq_iff_eq] at h2
  have h3 := hall i f hf
  rw [h2.1, h2.2, List.getElem?_eq_getElem (by omega)] at h3
  exact ⟨_, List.getElem_mem _, h3⟩
theorem agg_le {xs : List (DataW H × List MemPlace)} {y : DataW H × List MemPlace} (h : y ∈ xs) : Rows.uptoBulk y.1 ≤ Rows.uptoBulk (.agg (xs.map (·.1))) := by
  have := part_le (H := H) (List.mem_map_of_mem (f := (·.1)) h)
  have e : Rows.uptoBulk (.agg (xs.map (·.1))) = Rows.uptoBulkAll (xs.map (·.1)) + 1 := by simp only [Rows.uptoBulk]
  omega
set_option maxRecDepth 100000 in
theorem open_bytes {base : Nat} {v : Value} {d : DataW H} {ps : List MemPlace} (hval : Value.okWide Tryz.prog W .any base 23 v) (h : DataW.Trod enc Tryz.prog W 0 (fun _ => true) true 23 v d ps) :
    ∃ (A : Option Addr) (c : Nat) (l : L), v = .slice A l.length c ∧ l.length ≤ c ∧ ReadsInt W .u8 A l.length l ∧ l.length ≤ Rows.uptoBulk d ∧ Bytes l ∧ (A = none → c = 0 ∧ l.length = 0) := by
  obtain ⟨a, len, cap, rfl⟩ := okWide_slice Tryz.underlying23 hval
  obtain ⟨fuel, hf⟩ := h
  obtain ⟨A, c, l, h1, h2⟩ := bytes_in hf
  refine ⟨A, c, l, ?_, h2⟩
  have h3 : (Value.slice a len cap).cells.toList = [Value.slice a len cap] := rfl
  rw [h3] at h1
  exact (List.cons.inj h1).1
/-- A request in plain data, opened. -/
structure ReqIn (W : World) (k : Nat) where
  m : L
  t : L
  mi : Int
  ns : List L
  vs : List L
  body : L
  pad : Int
  NB : Option Addr
  nc : Nat
  VB : Option Addr
  vc : Nat
  BB : Option Addr
  bc : Nat
  hm : Bytes m ∧ m.length ≤ k
  ht : Bytes t ∧ t.length ≤ k
  hmi : -9223372036854775808 ≤ mi ∧ mi ≤ 9223372036854775807
  hn : Rd W NB (strC ns) ∧ ns.length ≤ k ∧ ∀ x ∈ ns, Bytes x ∧ x.length ≤ k
  hvs : Rd W VB (strC vs) ∧ vs.length ≤ k ∧ ∀ x ∈ vs, Bytes x ∧ x.length ≤ k
  hb : ReadsInt W .u8 BB body.length body ∧ body.length ≤ bc ∧ body.length ≤ k ∧ Bytes body ∧ (BB = none → bc = 0 ∧ body.length = 0)
  hp : -9223372036854775808 ≤ pad ∧ pad ≤ 9223372036854775807
def ReqIn.val {W : World} {k : Nat} (R : ReqIn W k) : Value := .agg #[.string (strOfNums R.m), .string (strOfNums R.t), .int .i64 R.mi, .slice R.NB R.ns.length R.nc, .slice R.VB R.vs.length R.vc, .slice R.BB R.body.length R.bc, .int .i64 R.pad]
theorem seven {cs : List Value} (h : cs.length = 7) : ∃ a b c d e f g, cs = [a, b, c, d, e, f, g] := by
  match cs, h with
  | [a, b, c, d, e, f, g], _ => exact ⟨a, b, c, d, e, f, g, rfl⟩
end
end Go.Proofs.YthgojbdpmcccaaaGreatDoor.Op
end
section
namespace Go.Proofs.YthgojbdpmcccaaaGreatDoor.K
open Go.RowKit Go.Proofs.YthgojbdpmcccaaaGreatDoor.Q Go.Proofs.YthgojbdpmcccaaaGreatDoor.Wb Go.Proofs.YthgojbdpmcccaaaGreatDoorW.PrintWords
set_option linter.unusedVariables false
set_option linter.unusedSimpArgs false
section
variable {P : Program} {ty : Nat → Option Ty} {n : Nat} {f : Fr} {w w0 : World} {ops : Array Oper} {Q : Exit → Act → World → Prop} {rest : List Oper} {d : Option Nat} {op : Op} {tt : TypeId} {ps : String} {af : Array Edge} {gd : Option (Nat × Bool)} {l : List Ent} {r : List RowD}
end
theorem app_bytes {a b : L} (h1 : Bytes a) (h2 : Bytes b) : Bytes (a ++ b) := fun x hx => (List.mem_append.1 hx).elim (h1 x) (h2 x)
theorem headF_bytes : ∀ {l : List Fld}, BytesF l → Bytes (headF l)
  | [], _ => by intro x hx; simp [headF] at hx; omega
  | f :: r, h => by
    rw [headF]
    have hf := h f (by simp)
    refine app_bytes (app_bytes ?_ (by intro x hx; simp at hx; omega)) (headF_bytes fun y hy => h y (by simp [hy]))
    unfold lineF
    exact app_bytes (app_bytes hf.1 (by intro x hx; simp at hx; omega)) hf.2.1
theorem nums_one (k : IntKind) (l : L) : (nums k l).all (·.oneCell') = true := by
  rw [List.all_eq_true]
  intro v hv
  obtain ⟨x, _, rfl⟩ := List.mem_map.1 hv
  rfl
theorem mkF_mem : ∀ (ns vs : List L) (x : Fld), x ∈ mkF ns vs → x.1 ∈ ns ∧ (x.2 = [] ∨ x.2 ∈ vs)
  | [], _, x, h => by simp [mkF] at h
  | n :: ns, [], x, h => by
    rw [mkF] at h
    rcases List.mem_cons.1 h with rfl | h
    · exact ⟨by simp, .inl rfl⟩
    · have := mkF_mem ns [] x h
      exact ⟨by simp [this.1], this.2⟩
  | n :: ns, v :: vs, x, h => by
    rw [mkF] at h
    rcases List.mem_cons.1 h with rfl | h
    · exact ⟨by simp, .inr (by simp)⟩
    · have := mkF_mem ns vs x h
      exact ⟨by simp [this.1], this.2.imp id (by intro h; simp [h])⟩
theorem mkF_bytes {ns vs : List L} (h1 : ∀ x ∈ ns, Bytes x ∧ x.length ≤ 100000000) (h2 : ∀ x ∈ vs, Bytes x ∧ x.length ≤ 100000000) : BytesF (mkF ns vs) := by
  intro x hx
  obtain ⟨a, b⟩ := mkF_mem ns vs x hx
  have h3 := h1 _ a
  rcases b with b | b
  · rw [b]; exact ⟨h3.1, (fun _ h => by cases h), h3.2, by simp⟩
  · have h4 := h2 _ b
    exact ⟨h3.1, h4.1, h3.2, h4.2⟩
end Go.Proofs.YthgojbdpmcccaaaGreatDoor.K
end
section
namespace Go.Proofs.YthgojbdpmcccaaaGreatDoor.Q
open Go.RowKit Go.Proofs.YthgojbdpmcccaaaGreatDoorW.PrintWords Go.Proofs.YthgojbdpmcccaaaGreatDoorW.PrintLast
set_option linter.unusedVariables false
set_option linter.unusedSimpArgs false
/-- A block that H does not hold is turned. -/
theorem Hp.other {w0 w w' : World} {l : List Ent} {r : List RowD} (H : Hp w0 w l r) {g : Nat} (hg : w.grownBy w' (some g)) (hge : w0.heap.size ≤ g) (hl : ∀ (i : Nat) (p : Ent), l[i]? = some p → p.1 ≠ g) (hr : ∀ (i : Nat) (d : RowD), r[i]? = some d → d.v.ownBlock ≠ some g) : Hp w0 w' l r := by
  refine ⟨H.B.grown hg H.B.size (fun b e => by cases e; exact hge), fun i p h => ⟨(H.blk i p h).1, blk_grown (H.blk i p h).2 hg (fun e => hl i p h (Option.some.inj e))⟩, fun i d h => ?_, H.ndl, H.ndr, H.ndm⟩
  refine own_other (H.row i d h) hg ?_
  cases e : d.v.ownBlock with
  | none => exact .inl rfl
  | some b => exact .inr (fun e2 => hr i d h (by rw [e, e2]))
section
variable {P : Program} {w : World}
end
end Go.Proofs.YthgojbdpmcccaaaGreatDoor.Q
end
section
namespace Go.Proofs.YthgojbdpmcccaaaGreatDoor.K
open Go.RowKit Go.Proofs.YthgojbdpmcccaaaGreatDoor.Q Go.Proofs.YthgojbdpmcccaaaGreatDoor.Wb Go.Proofs.YthgojbdpmcccaaaGreatDoorW.PrintWords
set_option linter.unusedVariables false
set_option linter.unusedSimpArgs false
theorem byt_rd {w' : World} {g c : Nat} {cur : Array Value} {x : L} (hb : w'.heap[g]? = some (.cells cur 5 (c, c + 1))) (ht : cur.toList.take x.length = nums .u8 x) : Rd w' (some ⟨g, 0, none⟩) (nums .u8 x) := by
  refine ⟨fun e => (by cases e), fun ad e i v hv => ?_⟩
  injection e with e
  subst e
  have hi : i < x.length := by have := (List.getElem?_eq_some_iff.1 hv).1; simpa [nums] using this
  rw [add_lit, Nat.zero_add]
  rw [← ht, List.getElem?_take_of_lt hi] at hv
  simp only [World.cell?, hb]
  simpa using hv
theorem check_minor {m t : L} {mi : Int} {st : L} {l : List Fld} {b : L} (h : checkReqS m t mi st l b = 0) : mi = 0 ∨ mi = 1 := by
  unfold checkReqS at h
  repeat' (split at h; · first | (cases h; done) | skip)
  rcases Classical.em (mi = 0 ∨ mi = 1) with e | e
  · exact e
  · exfalso
    have : mi ≠ 0 ∧ mi ≠ 1 := by omega
    simp_all
/-- What a request that is printed is read as. -/
def backR (r : ReqS) : ReqS := ⟨r.method, r.target, r.minor, printedS r.fields (toldB r.body), r.body, closesS (printedS r.fields (toldB r.body)) r.minor⟩
def formX (r : ReqS) : L := wholeS (startI r) (printedS r.fields (toldB r.body)) r.body
theorem form_back {r : ReqS} (h : formS r = 0) (tl : L) : parseReqS (formX r ++ tl) = .ok (backR r, (formX r).length) := by
  have hm := check_minor h
  obtain ⟨m, t, mi, fs, body, cl⟩ := r
  rcases hm with hm | hm
  · simp only at hm
    subst hm
    exact req_back (minor := 0) tl h
  · simp only at hm
    subst hm
    exact req_back (minor := 1) tl h
theorem startI_bytes {r : ReqS} (h : formS r = 0) (hm : Bytes r.method) (ht : Bytes r.target) : Bytes (startI r) := by
  have hmi := check_minor h
  have hd : Bytes (decI r.minor) := by
    rcases hmi with e | e
    · rw [e]; exact decS_bytes 0
    · rw [e]; exact decS_bytes 1
  unfold startI
  exact app_bytes (app_bytes (app_bytes (app_bytes hm (by intro x hx; simp at hx; omega)) ht) (by intro x hx; simp at hx; omega)) hd
theorem toldB_le {b : L} (hl : b.length ≤ 10000000) : ∀ n, toldB b = some n → n ≤ 10000000 := fun n hn => by
  unfold toldB at hn
  split at hn
  · cases hn
  · injection hn with hn; omega
theorem formX_bytes {r : ReqS} (h : formS r = 0) (hm : Bytes r.method) (ht : Bytes r.target) (hf : BytesF r.fields) (hb : Bytes r.body) : Bytes (formX r) := by
  obtain ⟨_, _, _, hl⟩ := check_ok h
  unfold formX wholeS
  exact app_bytes (app_bytes (app_bytes (startI_bytes h hm ht) (by intro x hx; simp at hx; omega)) (headF_bytes (printed_bytes hf (toldB_le (by omega))))) hb
theorem formX_len {r : ReqS} (h : formS r = 0) : 0 < (formX r).length ∧ (formX r).length ≤ 1100000 := by
  obtain ⟨h1, h2, _, hl⟩ := check_ok h
  unfold formX wholeS
  rw [List.length_append, List.length_append, List.length_append, headF_length]
  show 0 < _ + 2 + _ + _ ∧ _ + 2 + _ + _ ≤ _
  omega
end Go.Proofs.YthgojbdpmcccaaaGreatDoor.K
end
section
namespace Go.Proofs.YthgojbdpmcccaaaGreatDoor.K
open Go.RowKit Go.Proofs.YthgojbdpmcccaaaGreatDoor.Q Go.Proofs.YthgojbdpmcccaaaGreatDoor.Wb Go.Proofs.YthgojbdpmcccaaaGreatDoorW.PrintWords
set_option linter.unusedVariables false
set_option linter.unusedSimpArgs false
section
variable {P : Program} {ty : Nat → Option Ty} {n : Nat} {f : Fr} {w : World} {o : Oper}
theorem evT_no (hty : Tys P ty) {p : Prop} (h : evT ty n f o.op = some p) (hp : ¬ p) : (execOp (X n f) o).run P w = .ok (.value (.bool false)) w := by
  obtain ⟨t, hr, ht⟩ := evT_run (w := w) hty h
  cases t with
  | true => exact absurd (ht.1 rfl) hp
  | false => exact hr
theorem evText_run {s t e : TypeId} {A : Option Addr} {m c : Nat} {xs : List Int} (he : evCv n f o.op = some (s, t, .slice A m c)) (hs : P.underlying s = some (.slice e)) (hb : P.underlying e = some (.int .u8)) (hd : P.underlying t = some .string)
    (HR : ReadsInt w .u8 A m xs) : (execOp (X n f) o).run P w = .ok (.value (.string (strOfNums xs))) w := by
  obtain ⟨d, op, tt, ps, af, gd⟩ := o
  unfold evCv at he
  simp only at he
  split at he
  · rename_i s1 t1 x
    simp only [Option.some.injEq, Prod.mk.injEq] at he
    obtain ⟨rfl, rfl, hx⟩ := he
    have := string_of_reads (P := P) (w := w) (c := c) hs hb hd HR
    unfold execOp
    simp [hx, this]
  · cases he
end
theorem _root_.Go.Proofs.YthgojbdpmcccaaaGreatDoor.Q.Hp.row0 {w0 w : World} {l : List Ent} {r : List RowD} {d d' : RowD} (H : Hp w0 w l (d :: r)) (e : d = d') : Hp w0 w l (d' :: r) := e ▸ H
end Go.Proofs.YthgojbdpmcccaaaGreatDoor.K
end
section
namespace Go.Proofs.YthgojbdpmcccaaaGreatDoor.K
open Go.RowKit Go.Proofs.YthgojbdpmcccaaaGreatDoor.Q Go.Proofs.YthgojbdpmcccaaaGreatDoor.Wb Go.Proofs.YthgojbdpmcccaaaGreatDoorW.PrintWords
set_option linter.unusedVariables false
set_option linter.unusedSimpArgs false
/-- The chosen ones of the first rows, and all behind them. -/
theorem _root_.Go.Proofs.YthgojbdpmcccaaaGreatDoor.Q.Hp.keep {w0 w : World} {l l' : List Ent} {r rs r' : List RowD} (H : Hp w0 w l (r ++ rs)) (ks ms : List Nat) (hk : ks.Nodup) (hm : ms.Nodup) (hlt : ms.all (fun m => Nat.blt m r.length) = true) (hl : nfO (ks.map (l[·]?)) some = some l') (hr : nfO (ms.map (r[·]?)) some = some r') : Hp w0 w l' (r' ++ rs) := by
  have hlt' : ∀ m ∈ ms, m < r.length := fun m h => by have := List.all_eq_true.1 hlt m h; simpa using this
  refine H.sel ks (ms ++ (List.range rs.length).map (· + r.length)) hk ?_ (nfO_some hl) ?_
  · rw [List.nodup_append]
    refine ⟨hm, List.pairwise_map.2 (List.nodup_range.imp fun h e => h (by omega)), fun a ha b hb e => ?_⟩
    obtain ⟨i, _, rfl⟩ := List.mem_map.1 hb
    have := hlt' a ha
    omega
  · rw [List.map_append, List.map_append]
    congr 1
    · rw [← nfO_some hr]
      exact List.map_congr_left fun m h => List.getElem?_append_left (hlt' m h)
    · rw [List.map_map]
      refine List.ext_getElem? fun i => ?_
      simp only [List.getElem?_map]
      by_cases hi : i < rs.length
      · rw [List.getElem?_range hi, List.getElem?_eq_getElem hi]
        simp only [Option.map_some, Function.comp]
        rw [List.getElem?_append_right (by omega), Nat.add_sub_cancel, List.getElem?_eq_getElem hi]
      · rw [List.getElem?_eq_none (by simp; omega), List.getElem?_eq_none (by omega)]
        rfl
/-- A request in plain data, as it lies in a list. -/
structure RqD where
  m : L
  t : L
  mi : Int
  ns : List L
  vs : List L
  body : L
  pad : Int
  NB : Option Addr
  nc : Nat
  VB : Option Addr
  vc : Nat
  BB : Option Addr
  bc : Nat
def RqD.cells (q : RqD) : List Value := [.string (strOfNums q.m), .string (strOfNums q.t), .int .i64 q.mi, .slice q.NB q.ns.length q.nc, .slice q.VB q.vs.length q.vc, .slice q.BB q.body.length q.bc, .int .i64 q.pad]
def RqD.req (q : RqD) : ReqS := reqOf q.m q.t q.mi q.ns q.vs q.body q.pad
structure RqOk (w : World) (q : RqD) : Prop where
  hm : Bytes q.m ∧ q.m.length ≤ 5000000
  ht : Bytes q.t ∧ q.t.length ≤ 5000000
  hmi : -9223372036854775808 ≤ q.mi ∧ q.mi ≤ 9223372036854775807
  hn : Rd w q.NB (strC q.ns) ∧ q.ns.length ≤ 5000000 ∧ ∀ x ∈ q.ns, Bytes x ∧ x.length ≤ 100000000
  hv : Rd w q.VB (strC q.vs) ∧ ∀ x ∈ q.vs, Bytes x ∧ x.length ≤ 100000000
  hb : ReadsInt w .u8 q.BB q.body.length q.body ∧ q.body.length ≤ 5000000 ∧ Bytes q.body
def rqC (l : List RqD) : List Value := l.flatMap RqD.cells
theorem rqC_at : ∀ {l : List RqD} {i : Nat} {q : RqD}, l[i]? = some q → ∀ (j : Nat) (v : Value), q.cells[j]? = some v → (rqC l)[i * 7 + j]? = some v
  | [], i, q, h, _, _, _ => by simp at h
  | x :: r, 0, q, h, j, v, hj => by
    simp only [List.getElem?_cons_zero, Option.some.injEq] at h
    subst h
    have hl : j < x.cells.length := (List.getElem?_eq_some_iff.1 hj).1
    unfold rqC
    rw [List.flatMap_cons, Nat.zero_mul, Nat.zero_add, List.getElem?_append_left hl, hj]
  | x :: r, i + 1, q, h, j, v, hj => by
    have ih := rqC_at (l := r) (i := i) (by simpa using h) j v hj
    unfold rqC at ih ⊢
    rw [List.flatMap_cons, List.getElem?_append_right (by show 7 ≤ _; omega)]
    show (r.flatMap RqD.cells)[(i + 1) * 7 + j - 7]? = _
    rw [show (i + 1) * 7 + j - 7 = i * 7 + j by omega]
    exact ih
/-- What is wanted: a request, and where its fields and its body lie. -/
structure WtD where
  r : ReqS
  F : Option Addr
  f : Nat
  B : Option Addr
  b : Nat
def WtD.cells (x : WtD) : List Value := [.string (strOfNums x.r.method), .string (strOfNums x.r.target), .int .i64 x.r.minor, .slice x.F x.r.fields.length x.f, .slice x.B x.r.body.length x.b, .bool x.r.close]
def WtD.row (x : WtD) : RowD := rowB (.slice x.B x.r.body.length x.b) x.r.body
def wtC (l : List WtD) : List Value := l.flatMap WtD.cells
theorem wtC_at : ∀ {l : List WtD} {i : Nat} {q : WtD}, l[i]? = some q → ∀ (j : Nat) (v : Value), q.cells[j]? = some v → (wtC l)[i * 6 + j]? = some v
  | [], i, q, h, _, _, _ => by simp at h
  | x :: r, 0, q, h, j, v, hj => by
    simp only [List.getElem?_cons_zero, Option.some.injEq] at h
    subst h
    have hl : j < x.cells.length := (List.getElem?_eq_some_iff.1 hj).1
    unfold wtC
    rw [List.flatMap_cons, Nat.zero_mul, Nat.zero_add, List.getElem?_append_left hl, hj]
  | x :: r, i + 1, q, h, j, v, hj => by
    have ih := wtC_at (l := r) (i := i) (by simpa using h) j v hj
    unfold wtC at ih ⊢
    rw [List.flatMap_cons, List.getElem?_append_right (by show 6 ≤ _; omega)]
    show (r.flatMap WtD.cells)[(i + 1) * 6 + j - 6]? = _
    rw [show (i + 1) * 6 + j - 6 = i * 6 + j by omega]
    exact ih
theorem wtC_snoc (l : List WtD) (x : WtD) : wtC (l ++ [x]) = wtC l ++ x.cells := by simp [wtC]
/-- The bytes of all of them. -/
def stmS (l : List WtD) : L := l.flatMap fun x => formX x.r
theorem stmS_snoc (l : List WtD) (x : WtD) : stmS (l ++ [x]) = stmS l ++ formX x.r := by simp [stmS]
/-- They are printed without an error, their parts are bytes. -/
def WtOk (l : List WtD) : Prop := ∀ x ∈ l, formS x.r = 0 ∧ Bytes (formX x.r)
theorem stmS_len : ∀ {l : List WtD}, WtOk l → (stmS l).length ≤ l.length * 1100000
  | [], _ => by simp [stmS]
  | x :: r, h => by
    have h1 := (formX_len (h x (by simp)).1).2
    have h2 := stmS_len (l := r) (fun y hy => h y (by simp [hy]))
    unfold stmS at h2 ⊢
    rw [List.flatMap_cons, List.length_append, List.length_cons, Nat.add_mul]
    omega
theorem stmS_bytes {l : List WtD} (h : WtOk l) : Bytes (stmS l) := fun y hy => by
  obtain ⟨x, hx, hy⟩ := List.mem_flatMap.1 hy
  exact (h x hx).2 y hy
theorem info_rq : (Tryz.prog.info? 29).map (fun i => (i.zero, i.size, i.bytes)) = some (some (.agg zReq), 6, 96) := by kernel_rfl
theorem fill_rq (a b : ByteArray) (i : Int) (F B : Option Addr) (n1 c1 n2 c2 : Nat) (cl : Bool) : Instr.fill (fun i => some (i * 6, 6)) ((Array.range (1 * 6)).map ((Value.agg zReq).cells[· % (Value.agg zReq).cells.size]!)) [(0, .agg [.string a, .string b, .int .i64 i, .slice F n1 c1, .slice B n2 c2, .bool cl].toArray)] = some [Value.string a, .string b, .int .i64 i, .slice F n1 c1, .slice B n2 c2, .bool cl].toArray := by kernel_rfl
namespace Str
def tx : Nat → Option Ty
  | 42 => some (.slc 25 7)
  | 43 => some (.slc 29 6)
  | t => K.tx t
theorem slcOk2 : TyOk Tryz.prog 42 (.slc 25 7) := by
  have h : (Tryz.prog.info? 25).map (·.size) = some 7 := by kernel_rfl
  obtain ⟨i0, hi, hz⟩ := Option.map_eq_some_iff.1 h
  exact ⟨Tryz.underlying42, i0, hi, hz⟩
theorem slcOk3 : TyOk Tryz.prog 43 (.slc 29 6) := by
  have h : (Tryz.prog.info? 29).map (·.size) = some 6 := by kernel_rfl
  obtain ⟨i0, hi, hz⟩ := Option.map_eq_some_iff.1 h
  exact ⟨Tryz.underlying43, i0, hi, hz⟩
theorem txs : Tys Tryz.prog tx := by
  intro t k h
  unfold tx at h
  split at h
  · cases h; exact slcOk2
  · cases h; exact slcOk3
  · exact K.txs t k h
theorem one2_0 : (Tryz.prog.info? 42).map (·.size) = some 1 := by kernel_rfl
theorem one2_1 : (Tryz.prog.info? 43).map (·.size) = some 1 := by kernel_rfl
theorem ones : Ones Tryz.prog tx := by
  intro t k h
  unfold tx at h
  split at h
  · exact one2_0
  · exact one2_1
  · exact K.ones t k h
set_option maxRecDepth 100000 in
set_option maxHeartbeats 16000000 in
theorem streams_c {A : Nat → Addr} {w : World} (hE : LayS A w) (hP : TabP w) {mx : Int} (hM : w.cell? ⟨20, 0, none⟩ = some (.int .i64 mx)) {tM : TypeId} {frM : Nat × Nat} (hT : w.heap[17]? = some (.cells meC tM frM))
    {list : List RqD} {tl : L} {LB TB : Option Addr} {lc tc : Nat} (hL : Rd w LB (rqC list)) (hok : ∀ q ∈ list, RqOk w q) (hll : list.length ≤ 1048576) (hr : ReadsInt w .u8 TB tl.length tl) (htb : Bytes tl) (htll : tl.length ≤ 10000000) :
    Calls Tryz.prog 4 #[.slice LB list.length lc, .slice TB tl.length tc] w fun e w' => e = .returned (.bool true) ∧ Below w.heap.size w w' := by
  have hTb : ∀ w1, Below w.heap.size w w1 → w1.heap[17]? = some (.cells meC tM frM) := fun w1 K => (K.block _ (blk_lt hT)).trans hT
  refine enter (args := [.slice LB list.length lc, .slice TB tl.length tc]) Tryz.func4 rfl Tryz.ntmps4 rfl ?_
  have H := Hp.nil w
  repeat' (first | (first | (with_reducible refine p_tn ?_) | (with_reducible refine wp_seq ?_) | (with_reducible refine w_reg ?_)) | (first | (with_reducible refine l_nil ?_) | ((with_reducible refine g_on ?_); ((with_reducible refine g_as ?_); refine l_p txs rfl rfl ?_))))
  (with_reducible refine is_l ?_); refine l_callv rfl rfl (by kernel_rfl) (known_c (hE.below H.B) (H.old hM) (hTb _ H.B)) (fun w_ K => ?_)
  have H := ((H.call K).nilRow 29 6).nilRow 5 1
  repeat' (first | (first | (with_reducible refine p_tn ?_) | (with_reducible refine wp_seq ?_) | (with_reducible refine wp_block ?_) | (with_reducible refine w_reg ?_) | (with_reducible (refine is_if ?_; (refine w_iff rfl ?_))) | (with_reducible refine wp_skip ?_)) | (first | (with_reducible refine l_nil ?_) | ((with_reducible refine g_on ?_); (first | ((with_reducible refine g_as ?_); refine l_p txs rfl rfl ?_) | ((with_reducible refine g_un ?_); (refine l_p txs rfl rfl ?_))))))
  refine w_loop (σ := Nat × (Option Addr × Nat) × List WtD × Option Addr × Nat) (S := fun s => [(0, .slice LB list.length lc), (1, .slice TB tl.length tc), (5, .slice s.2.1.1 (stmS s.2.2.1).length s.2.1.2), (6, .slice s.2.2.2.1 s.2.2.1.length s.2.2.2.2), (7, .int .i64 (s.1 : Int))])
    (J := fun s w' => Hp w w' [] ([rowB (.slice s.2.1.1 (stmS s.2.2.1).length s.2.1.2) (stmS s.2.2.1), ⟨.slice s.2.2.2.1 s.2.2.1.length s.2.2.2.2, 29, 6, s.2.2.1.length, wtC s.2.2.1⟩] ++ s.2.2.1.reverse.map WtD.row) ∧ s.1 ≤ list.length ∧ s.2.2.1.length ≤ s.1 ∧ WtOk s.2.2.1) (μ := fun s => list.length - s.1) (0, (none, 0), [], none, 0) ⟨rfl, rfl, rfl, rfl, rfl, trivial⟩ ⟨H, by omega, Nat.le_refl _, fun _ h => by cases h⟩ ?_
  rintro ⟨i, ⟨A1, c1⟩, wl, A2, c2⟩ f w_ ⟨H, hi, hwi, hwok⟩
  simp only at H hi hwi hwok ⊢
  have hsl := stmS_len hwok
  repeat' (first | (first | (with_reducible refine wp_seq ?_) | (with_reducible refine w_reg ?_)) | ((with_reducible refine g_on ?_); (first | ((with_reducible refine g_mv ?_); refine l_p txs rfl rfl ?_) | ((with_reducible refine g_cl ?_); refine l_p txs rfl rfl ?_))))
  (with_reducible refine is_l ?_); refine l_t txs rfl rfl (fun hlt => ?_) (fun hge => ?_)
  · obtain ⟨q, hq⟩ : ∃ q, list[i]? = some q := ⟨_, List.getElem?_eq_getElem (by omega)⟩
    have hOk := hok q (List.mem_of_getElem? hq)
    obtain ⟨la, rfl⟩ : ∃ la, LB = some la := by
      cases LB with
      | none =>
        have h1 := hL.1 rfl
        have h2 := rqC_at hq 0 _ rfl
        rw [h1] at h2
        simp at h2
      | some la => exact ⟨la, rfl⟩
    have q1 : ∀ w1, Below w.heap.size w w1 → ∀ (j : Nat) (v : Value), [Value.string (strOfNums q.m), .string (strOfNums q.t), .int .i64 q.mi, .slice q.NB q.ns.length q.nc, .slice q.VB q.vs.length q.vc, .slice q.BB q.body.length q.bc, .int .i64 q.pad][j]? = some v → w1.cell? ((la.add (i * 7)).add j) = some v := fun w1 K => (hL.below K).part (i * 7) (rqC_at hq)
    have hfb := mkF_bytes hOk.hn.2.2 hOk.hv.2
    have hfl : (mkF q.ns q.vs).length ≤ 5000000 := by rw [mkF_len]; exact hOk.hn.2.1
    have hpb : Bytes (padS q.body q.pad) := app_bytes hOk.hb.2.2 (by intro x hx; have := List.eq_of_mem_replicate hx; omega)
    have hb5 := hOk.hb.2.1
    have hpl : (padS q.body q.pad).length ≤ 7000000 := by unfold padS padN; rw [List.length_append, List.length_replicate]; split <;> omega
    repeat' (first | (first | (with_reducible refine p_tn ?_) | (with_reducible refine wp_seq ?_) | (with_reducible refine wp_block ?_) | (with_reducible refine w_reg ?_) | (with_reducible (refine is_if ?_; (refine w_ift rfl ?_))) | (with_reducible refine wp_skip ?_)) | (first | (with_reducible refine l_nil ?_) | ((with_reducible refine g_on ?_); (first | ((with_reducible refine g_mv ?_); refine l_p txs rfl rfl ?_) | ((with_reducible refine g_ia ?_); refine l_ia txs rfl rfl (by first | omega | assumption | decide) (by first | omega | assumption | decide) ?_)))))
    rw [Int.toNat_natCast]
    (with_reducible refine is_l ?_); refine h_ldA recs (q1 _ H.B) rfl rfl rfl rfl ?_
    skip
    (with_reducible refine is_l ?_); refine l_call rfl rfl (by kernel_rfl) (request_c (m := q.m) (t := q.t) (mi := q.mi) (pad := q.pad) (hOk.hn.1.below H.B) (hOk.hv.1.below H.B) (by have := hOk.hn.2.1; omega) (hOk.hb.1.below H.B) (by omega)) (fun e w_ hR => ?_)
    obtain ⟨F, f0, B, b0, rfl, K⟩ := hR
    refine ⟨_, rfl, ?_⟩
    have H : Hp w w_ [] ([rowF (.slice F q.req.fields.length f0) q.req.fields, rowB (.slice B q.req.body.length b0) q.req.body, rowB (.slice A1 (stmS wl).length c1) (stmS wl), ⟨.slice A2 wl.length c2, 29, 6, wl.length, wtC wl⟩] ++ wl.reverse.map WtD.row) := H.join K
    skip
    (with_reducible refine is_l ?_); refine l_call rfl rfl (by kernel_rfl) (FormatRequest_c (hE.below H.B) (hP.below H.B) (H.old hM) (hTb _ H.B) q.req hOk.hm.1 hOk.ht.1 (by have := hOk.hm.2; show q.m.length ≤ _; omega) (by have := hOk.ht.2; show q.t.length ≤ _; omega) hOk.hmi (rowF_rd H 0 rfl) hfb hfl (rowB_rd H 1 (x := q.req.body) rfl).1 hpb (by show (padS q.body q.pad).length ≤ _; omega)) (fun e w_ hR => ?_)
    obtain ⟨K, v, rfl, hbad, hgood⟩ := hR
    refine ⟨_, rfl, ?_⟩
    have H := H.call K
    by_cases hz : formS q.req = 0
    rotate_left
    · obtain rfl := hbad hz
      repeat' (first | (first | (with_reducible refine p_tn ?_) | (with_reducible refine wp_seq ?_) | (with_reducible refine w_reg ?_)) | (first | (with_reducible refine l_nil ?_) | ((with_reducible refine g_on ?_); (first | ((with_reducible refine g_mv ?_); refine l_p txs rfl rfl ?_) | ((with_reducible refine g_as ?_); refine l_p txs rfl rfl ?_) | ((with_reducible refine g_ex ?_); refine l_p txs rfl rfl ?_)))))
      (with_reducible refine is_l ?_); refine l_t txs rfl rfl (fun hh => absurd hh (by omega)) (fun _ => ?_)
      repeat' (first | (first | (with_reducible refine p_tn ?_) | (with_reducible refine p_bn ?_) | (with_reducible refine w_reg ?_) | (with_reducible (refine is_if ?_; (refine w_iff rfl ?_))) | (with_reducible refine wp_skip ?_)) | (first | (with_reducible refine l_nil ?_) | ((with_reducible refine g_on ?_); (first | ((with_reducible refine g_mv ?_); refine l_p txs rfl rfl ?_) | ((with_reducible refine g_as ?_); refine l_p txs rfl rfl ?_) | ((with_reducible refine g_bi ?_); (refine l_a txs rfl rfl (by first | exact in_i64 (by omega) (by omega) | exact in_u8 (by omega) (by omega) | exact in_u64 (by omega) (by omega) | exact in_i32 (by omega) (by omega)) ?_))))))
      exact ⟨(i + 1, (A1, c1), wl, A2, c2), _, rfl, ⟨rfl, rfl, rfl, rfl, rfl, trivial⟩, ⟨H.keep [] [2, 3] (by decide) (by decide) rfl rfl rfl, by show i + 1 ≤ _; omega, by show wl.length ≤ i + 1; omega, hwok⟩, by show _ - (i + 1) < _ - i; omega⟩
    obtain ⟨g, cur, c, rfl, hc, hge, hgb, hgs, hgm, hgt⟩ := hgood hz
    obtain ⟨X, hX⟩ : ∃ X, X = formX q.req := ⟨_, rfl⟩
    have hXr : wholeS (startI q.req) (printedS q.req.fields (toldB q.req.body)) q.req.body = X := hX.symm
    rw [hXr] at hc hgt ⊢
    have RB := byt_rd hgb hgt
    have hXb : Bytes X := hX ▸ formX_bytes hz hOk.hm.1 hOk.ht.1 hfb hpb
    obtain ⟨hX0, hXl⟩ : 0 < X.length ∧ X.length ≤ 1100000 := hX ▸ formX_len hz
    repeat' (first | (first | (with_reducible refine p_tn ?_) | (with_reducible refine wp_seq ?_) | (with_reducible refine w_reg ?_)) | (first | (with_reducible refine l_nil ?_) | ((with_reducible refine g_on ?_); (first | ((with_reducible refine g_mv ?_); refine l_p txs rfl rfl ?_) | ((with_reducible refine g_as ?_); refine l_p txs rfl rfl ?_) | ((with_reducible refine g_ex ?_); refine l_p txs rfl rfl ?_)))))
    (with_reducible refine is_l ?_); refine l_t txs rfl rfl (fun _ => ?_) (fun hh => absurd (by omega) hh)
    repeat' (first | (first | (with_reducible refine p_tn ?_) | (with_reducible refine wp_seq ?_) | (with_reducible refine w_reg ?_) | (with_reducible (refine is_if ?_; (refine w_ift rfl ?_)))) | (first | (with_reducible refine l_nil ?_) | ((with_reducible refine g_on ?_); ((with_reducible refine g_mv ?_); refine l_p txs rfl rfl ?_))))
    (with_reducible refine is_l ?_); refine h_app H 2 rfl info_u8 Tryz.underlying23 rfl rfl rfl rfl RB (by simp [nums]) (nums_one _ _) (by show ((stmS wl).length + X.length) * 1 ≤ _; omega) (fun v w_ hv H => ?_)
    obtain ⟨D1, d1, rfl⟩ := hv
    have el : (stmS wl).length + X.length = (stmS wl ++ X).length := List.length_append.symm
    have e9 : Value.slice D1 ((rowB (.slice A1 (stmS wl).length c1) (stmS wl)).n + X.length) d1 = Value.slice D1 (stmS wl ++ X).length d1 := by rw [← el]
    rw [e9]
    have H := (H.keep (r := [_, _, _, _]) [] [2, 3] (by decide) (by decide) rfl rfl rfl).row0 (d' := rowB (.slice D1 (stmS wl ++ X).length d1) (stmS wl ++ X)) (by unfold rowB; rw [← el, nums_append])
    repeat' (first | (first | (with_reducible refine p_tn ?_) | (with_reducible refine w_reg ?_)) | (first | (with_reducible refine l_nil ?_) | ((with_reducible refine g_on ?_); (first | ((with_reducible refine g_mv ?_); refine l_p txs rfl rfl ?_) | ((with_reducible refine g_as ?_); refine l_p txs rfl rfl ?_) | ((with_reducible refine g_ia ?_); refine l_ia txs rfl rfl (by first | omega | assumption | decide) (by first | omega | assumption | decide) ?_)))))
    rw [Int.toNat_natCast]
    (with_reducible refine is_l ?_); refine h_ldA recs (q1 _ H.B) rfl rfl rfl rfl ?_
    skip
    (with_reducible refine is_l ?_); refine l_call rfl rfl (by kernel_rfl) (request_c (m := q.m) (t := q.t) (mi := q.mi) (pad := q.pad) (hOk.hn.1.below H.B) (hOk.hv.1.below H.B) (by have := hOk.hn.2.1; omega) (hOk.hb.1.below H.B) (by omega)) (fun e w_ hR => ?_)
    obtain ⟨F2, f2, B2, b2, rfl, K⟩ := hR
    refine ⟨_, rfl, ?_⟩
    have H : Hp w w_ [] ([rowF (.slice F2 q.req.fields.length f2) q.req.fields, rowB (.slice B2 q.req.body.length b2) q.req.body, rowB (.slice D1 (stmS wl ++ X).length d1) (stmS wl ++ X), ⟨.slice A2 wl.length c2, 29, 6, wl.length, wtC wl⟩] ++ wl.reverse.map WtD.row) := H.join K
    skip
    (with_reducible refine is_l ?_); refine h_bs H info_rq Tryz.underlying43 (by decide) (by decide) rfl rfl (fill_rq _ _ _ _ _ _ _ _ _ _) (fun g_ w_ H => ?_)
    (with_reducible refine is_l ?_); refine h_app H 3 rfl info_rq Tryz.underlying43 rfl rfl rfl rfl (H.cellRd 0 rfl) rfl rfl (by show (wl.length + 1) * 96 ≤ _; omega) (fun v w_ hv H => ?_)
    obtain ⟨D2, d2, rfl⟩ := hv
    repeat' (first | (first | (with_reducible refine p_tn ?_) | (with_reducible refine p_bn ?_) | (with_reducible refine w_reg ?_)) | (first | (with_reducible refine l_nil ?_) | ((with_reducible refine g_on ?_); (first | ((with_reducible refine g_mv ?_); refine l_p txs rfl rfl ?_) | ((with_reducible refine g_as ?_); refine l_p txs rfl rfl ?_) | ((with_reducible refine g_bi ?_); (refine l_a txs rfl rfl (by first | exact in_i64 (by omega) (by omega) | exact in_u8 (by omega) (by omega) | exact in_u64 (by omega) (by omega) | exact in_i32 (by omega) (by omega)) ?_))))))
    have H := H.keep (r := [_, _, _, _]) [] [2, 3, 1] (by decide) (by decide) rfl rfl rfl
    have es : stmS (wl ++ [⟨q.req, F2, f2, B2, b2⟩]) = stmS wl ++ X := by rw [stmS_snoc, hX]
    have el2 : (wl ++ [(⟨q.req, F2, f2, B2, b2⟩ : WtD)]).length = wl.length + 1 := by simp
    refine ⟨(i + 1, (D1, d1), wl ++ [⟨q.req, F2, f2, B2, b2⟩], D2, d2), _, rfl, ⟨rfl, rfl, ?_, ?_, rfl, trivial⟩, ⟨?_, by show i + 1 ≤ _; omega, by show _ ≤ i + 1; rw [el2]; omega, ?_⟩, by show _ - (i + 1) < _ - i; omega⟩
    · show Value.slice D1 (stmS wl ++ X).length d1 = Value.slice D1 (stmS (wl ++ [⟨q.req, F2, f2, B2, b2⟩])).length d1
      rw [es]
    · show Value.slice D2 (wl.length + 1) d2 = Value.slice D2 (wl ++ [(⟨q.req, F2, f2, B2, b2⟩ : WtD)]).length d2
      rw [el2]
    · show Hp w _ [] ([rowB (.slice D1 (stmS (wl ++ [⟨q.req, F2, f2, B2, b2⟩])).length d1) (stmS (wl ++ [⟨q.req, F2, f2, B2, b2⟩])), ⟨.slice D2 (wl ++ [(⟨q.req, F2, f2, B2, b2⟩ : WtD)]).length d2, 29, 6, (wl ++ [(⟨q.req, F2, f2, B2, b2⟩ : WtD)]).length, wtC (wl ++ [⟨q.req, F2, f2, B2, b2⟩])⟩] ++ (wl ++ [(⟨q.req, F2, f2, B2, b2⟩ : WtD)]).reverse.map WtD.row)
      rw [es, el2, wtC_snoc, List.reverse_append]
      exact H
    · intro y hy
      rcases List.mem_append.1 hy with hy | hy
      · exact hwok y hy
      · rw [List.mem_singleton] at hy
        subst hy
        exact ⟨hz, hX ▸ hXb⟩
  · repeat' (first | (first | (with_reducible refine p_tn ?_) | (with_reducible refine p_tx ?_) | (with_reducible refine x_hit ?_) | (with_reducible refine wp_seq ?_) | (with_reducible refine w_reg ?_) | (with_reducible (refine is_if ?_; (refine w_iff rfl ?_))) | (with_reducible refine wp_exit ?_)) | (first | (with_reducible refine l_nil ?_) | ((with_reducible refine g_on ?_); ((with_reducible refine g_mv ?_); refine l_p txs rfl rfl ?_))))
    (with_reducible refine is_l ?_); refine h_app H 0 rfl info_u8 Tryz.underlying23 rfl rfl rfl rfl (rd_of_reads (hr.below H.B)) (by simp [nums]) (nums_one _ _) (by show ((stmS wl).length + tl.length) * 1 ≤ _; omega) (fun v w_ hv H => ?_)
    obtain ⟨D1, d1, rfl⟩ := hv
    have el : (stmS wl).length + tl.length = (stmS wl ++ tl).length := List.length_append.symm
    have e9 : Value.slice D1 ((rowB (.slice A1 (stmS wl).length c1) (stmS wl)).n + tl.length) d1 = Value.slice D1 (stmS wl ++ tl).length d1 := by rw [← el]
    rw [e9]
    have H := (H.keep (r := [_, _]) [] [0, 1] (by decide) (by decide) rfl rfl rfl).row0 (d' := rowB (.slice D1 (stmS wl ++ tl).length d1) (stmS wl ++ tl)) (by unfold rowB; rw [← el, nums_append])
    obtain ⟨rs1, rs2, rs3⟩ := rowB_rd H 0 (F := D1) (f := d1) (x := stmS wl ++ tl) rfl
    have RW : Rd w_ A2 (wtC wl) := by
      obtain ⟨A', c', e, _, h, _⟩ := H.rd 1 rfl
      simp only [Value.slice.injEq] at e
      rw [e.1]
      exact h
    have RBs : ∀ x ∈ wl, ReadsInt w_ .u8 x.B x.r.body.length x.r.body := fun x hx => by
      obtain ⟨k, hk⟩ := List.getElem?_of_mem (List.mem_map_of_mem (f := WtD.row) (List.mem_reverse.2 hx))
      exact (rowB_rd H (k + 2) (F := x.B) (f := x.b) (x := x.r.body) hk).1
    have H0 := H
    have hEf := hE.below H0.B
    have hMf := H0.old hM
    have hTf := hTb _ H0.B
    have hTbf : ∀ w1, Below w_.heap.size w_ w1 → w1.heap[17]? = some (.cells meC tM frM) := fun w1 K => (K.block _ (blk_lt hTf)).trans hTf
    have hrf2 := hr.below H0.B
    obtain ⟨w, hwf⟩ : ∃ wf, wf = w_ := ⟨_, rfl⟩
    rw [← hwf] at H0 hEf hMf hTf hTbf hrf2 rs1 RW RBs
    have H : Hp w w_ [] [] := by rw [hwf]; exact Hp.nil _
    clear hwf
    repeat' (first | (first | (with_reducible refine p_tn ?_) | (with_reducible refine wp_seq ?_) | (with_reducible refine wp_block ?_) | (with_reducible refine w_reg ?_)) | (first | (with_reducible refine l_nil ?_) | ((with_reducible refine g_on ?_); ((with_reducible refine g_as ?_); refine l_p txs rfl rfl ?_))))
    refine w_loop (σ := Nat × Option Addr × Nat × L) (S := fun s => [(1, .slice TB tl.length tc), (5, .slice s.2.1 s.2.2.2.length s.2.2.1), (6, .slice A2 wl.length c2), (10, .int .i64 (s.1 : Int))])
      (J := fun s w' => Hp w w' [] [] ∧ s.1 ≤ wl.length ∧ ReadsInt w .u8 s.2.1 s.2.2.2.length s.2.2.2 ∧ s.2.2.2.length ≤ s.2.2.1 ∧ (s.2.1 = none → s.2.2.1 = 0 ∧ s.2.2.2.length = 0) ∧ s.2.2.2 = stmS (wl.drop s.1) ++ tl ∧ s.2.2.2.length ≤ 1900000000000) (μ := fun s => wl.length - s.1) (0, D1, d1, stmS wl ++ tl) ⟨rfl, rfl, rfl, rfl, trivial⟩ ⟨H, Nat.zero_le _, rs1, rs2, rs3, rfl, by show (stmS wl ++ tl).length ≤ _; omega⟩ ?_
    rintro ⟨j, A3, c3, xs⟩ f w_ ⟨H, hj, hx1, hx2, hx3, hx4, hx5⟩
    simp only at H hj hx1 hx2 hx3 hx4 hx5 ⊢
    repeat' (first | (first | (with_reducible refine wp_seq ?_) | (with_reducible refine w_reg ?_)) | ((with_reducible refine g_on ?_); (first | ((with_reducible refine g_mv ?_); refine l_p txs rfl rfl ?_) | ((with_reducible refine g_cl ?_); refine l_p txs rfl rfl ?_))))
    (with_reducible refine is_l ?_); refine l_t txs rfl rfl (fun hlt => ?_) (fun hge => ?_)
    · obtain ⟨x, hx⟩ : ∃ x, wl[j]? = some x := ⟨_, List.getElem?_eq_getElem (by omega)⟩
      have hjl : j < wl.length := by omega
      have hmx := List.mem_of_getElem? hx
      obtain ⟨hz, hXb⟩ := hwok x hmx
      obtain ⟨wa, hA2⟩ : ∃ wa, A2 = some wa := by
        cases hA : A2 with
        | none =>
          have h1 := RW.1 hA
          have h2 := wtC_at hx 0 _ rfl
          rw [h1] at h2
          simp at h2
        | some wa => exact ⟨wa, rfl⟩
      have RW2 : Rd w (some wa) (wtC wl) := by rw [← hA2]; exact RW
      rw [hA2]
      have q1 := RW2.part (j * 6) (wtC_at hx)
      have qm := q1 0 _ rfl
      have qt := q1 1 _ rfl
      have qb := q1 4 _ rfl
      have hBx := RBs x hmx
      obtain ⟨X, hX⟩ : ∃ X, X = formX x.r := ⟨_, rfl⟩
      obtain ⟨hX0, hXl⟩ : 0 < X.length ∧ X.length ≤ 1100000 := hX ▸ formX_len hz
      have hdr : wl.drop j = x :: wl.drop (j + 1) := by
        have h1 := List.drop_eq_getElem_cons hjl
        rw [h1]
        congr 1
        exact (List.getElem?_eq_some_iff.1 hx).2
      have hxs : xs = X ++ (stmS (wl.drop (j + 1)) ++ tl) := by
        rw [hx4, hdr, hX, ← List.append_assoc]
        rfl
      have hxb : Bytes xs := by rw [hx4]; exact app_bytes (stmS_bytes fun y hy => hwok y (List.mem_of_mem_drop hy)) htb
      have hbk := form_back hz (stmS (wl.drop (j + 1)) ++ tl)
      rw [← hX, ← hxs] at hbk
      have ho : outReq xs = (backR x.r, X.length, 0) := by unfold outReq; rw [hbk]
      have hXx : X.length ≤ xs.length := by rw [hxs, List.length_append]; omega
      repeat' (first | (first | (with_reducible refine p_tn ?_) | (with_reducible refine wp_seq ?_) | (with_reducible refine wp_block ?_) | (with_reducible refine w_reg ?_) | (with_reducible (refine is_if ?_; (refine w_ift rfl ?_))) | (with_reducible refine wp_skip ?_)) | (first | (with_reducible refine l_nil ?_) | ((with_reducible refine g_on ?_); ((with_reducible refine g_mv ?_); refine l_p txs rfl rfl ?_))))
      (with_reducible refine is_l ?_); refine l_call rfl rfl (by kernel_rfl) (ParseRequest_c (hEf.below H.B) (H.old hMf) (hTbf _ H.B) (hx1.below H.B) hx2 hx3 hxb (by omega)) (fun e w_ hR => ?_)
      have hR := prR_out hR
      rw [ho] at hR
      simp only at hR
      obtain ⟨F1, f1, P1, p1, rfl, K⟩ := hR
      refine ⟨_, rfl, ?_⟩
      have H := H.join K
      repeat' (first | (first | (with_reducible refine p_tn ?_) | (with_reducible refine wp_seq ?_)) | (first | (with_reducible refine l_nil ?_) | ((with_reducible refine g_on ?_); (first | ((with_reducible refine g_mv ?_); refine l_p txs rfl rfl ?_) | ((with_reducible refine g_as ?_); refine l_p txs rfl rfl ?_) | ((with_reducible refine g_ex ?_); refine l_p txs rfl rfl ?_) | ((with_reducible refine g_st ?_); (refine h_stR recs H 0 rfl rfl rfl rfl rfl rfl rfl rfl rfl (fun w_ H => ?_))) | ((with_reducible refine g_al ?_); refine h_alloc recs H rfl rfl (fun g_ w_ H => ?_))))))
      have HS := H.pick [0] [0, 1] (by decide) (by decide) rfl rfl
      refine d_start (fun w_ => Hp w w_ _ _) #[false, false, false, false, false, false, false, false, false, false, false, false, false, false, false, false, false, false, false, false, false, false, false, false, false, false, false, false, false, false, false, false, false, false, false, false, false, false, false, false, false, false, false, false] (by kernel_rfl) rfl rfl HS.drew ?_
      have H := H.drew
      have HS := HS.drew
      first | (refine d_pure (i := 0) #[true, false, false, false, false, false, false, false, false, false, false, false, false, false, false, false, false, false, false, false, false, false, false, false, false, false, false, false, false, false, false, false, false, false, false, false, false, false, false, false, false, false, false, false] rfl (by kernel_rfl) (fun _ _ _ h => h) rfl (fun w_ => evP_run (o := ⟨_, _, _, _, _, _⟩) txs rfl) ?_)
      first | (refine d_pure (i := 1) #[true, true, false, false, false, false, false, false, false, false, false, false, false, false, false, false, false, false, false, false, false, false, false, false, false, false, false, false, false, false, false, false, false, false, false, false, false, false, false, false, false, false, false, false] rfl (by kernel_rfl) (fun _ _ _ h => h) rfl (fun w_ => evT_no (o := ⟨_, _, _, _, _, _⟩) txs rfl (fun h => h rfl)) ?_)
      first | (refine d_pure (i := 2) #[true, true, true, false, false, false, false, false, false, false, false, false, false, false, false, false, false, false, false, false, false, false, false, false, false, false, false, false, false, false, false, false, false, false, false, false, false, false, false, false, false, false, false, false] rfl (by kernel_rfl) (fun _ _ _ h => h) rfl (fun w_ => evP_run (o := ⟨_, _, _, _, _, _⟩) txs rfl) ?_)
      first | (refine d_off (i := 3) #[true, true, true, true, false, false, false, false, false, false, false, false, false, false, false, false, false, false, false, false, false, false, false, false, false, false, false, false, false, false, false, false, false, false, false, false, false, false, false, false, false, false, false, false] rfl (by kernel_rfl) (fun _ _ _ h => h) rfl ?_) | (first | (refine d_pure (i := 3) #[true, true, true, true, false, false, false, false, false, false, false, false, false, false, false, false, false, false, false, false, false, false, false, false, false, false, false, false, false, false, false, false, false, false, false, false, false, false, false, false, false, false, false, false] rfl (by kernel_rfl) (fun _ _ _ h => h) rfl (fun w_ => evP_run (o := ⟨_, _, _, _, _, _⟩) txs rfl) ?_))
      first | (refine d_off (i := 4) #[true, true, true, true, true, false, false, false, false, false, false, false, false, false, false, false, false, false, false, false, false, false, false, false, false, false, false, false, false, false, false, false, false, false, false, false, false, false, false, false, false, false, false, false] rfl (by kernel_rfl) (fun _ _ _ h => h) rfl ?_) | (first | (refine d_pure (i := 4) #[true, true, true, true, true, false, false, false, false, false, false, false, false, false, false, false, false, false, false, false, false, false, false, false, false, false, false, false, false, false, false, false, false, false, false, false, false, false, false, false, false, false, false, false] rfl (by kernel_rfl) (fun _ _ _ h => h) rfl (fun w_ => evT_no (o := ⟨_, _, _, _, _, _⟩) txs rfl (by omega)) ?_))
      first | (refine d_pure (i := 5) #[true, true, true, true, true, true, false, false, false, false, false, false, false, false, false, false, false, false, false, false, false, false, false, false, false, false, false, false, false, false, false, false, false, false, false, false, false, false, false, false, false, false, false, false] rfl (by kernel_rfl) (fun _ _ _ h => h) rfl (fun w_ => evP_run (o := ⟨_, _, _, _, _, _⟩) txs rfl) ?_)
      first | (refine d_pure (i := 6) #[true, true, true, true, true, true, true, false, false, false, false, false, false, false, false, false, false, false, false, false, false, false, false, false, false, false, false, false, false, false, false, false, false, false, false, false, false, false, false, false, false, false, false, false] rfl (by kernel_rfl) (fun _ _ _ h => h) rfl (fun w_ => evP_run (o := ⟨_, _, _, _, _, _⟩) txs rfl) ?_)
      first | (refine d_off (i := 7) #[true, true, true, true, true, true, true, true, false, false, false, false, false, false, false, false, false, false, false, false, false, false, false, false, false, false, false, false, false, false, false, false, false, false, false, false, false, false, false, false, false, false, false, false] rfl (by kernel_rfl) (fun _ _ _ h => h) rfl ?_) | (first | (refine d_pure (i := 7) #[true, true, true, true, true, true, true, true, false, false, false, false, false, false, false, false, false, false, false, false, false, false, false, false, false, false, false, false, false, false, false, false, false, false, false, false, false, false, false, false, false, false, false, false] rfl (by kernel_rfl) (fun _ _ _ h => h) rfl (fun w_ => evP_run (o := ⟨_, _, _, _, _, _⟩) txs rfl) ?_))
      first | (refine d_off (i := 8) #[true, true, true, true, true, true, true, true, true, false, false, false, false, false, false, false, false, false, false, false, false, false, false, false, false, false, false, false, false, false, false, false, false, false, false, false, false, false, false, false, false, false, false, false] rfl (by kernel_rfl) (fun _ _ _ h => h) rfl ?_) | (first | (refine d_pure (i := 8) #[true, true, true, true, true, true, true, true, true, false, false, false, false, false, false, false, false, false, false, false, false, false, false, false, false, false, false, false, false, false, false, false, false, false, false, false, false, false, false, false, false, false, false, false] rfl (by kernel_rfl) (fun _ _ _ h => h) rfl (fun w_ => evP_run (o := ⟨_, _, _, _, _, _⟩) txs rfl) ?_))
      first | (refine d_off (i := 9) #[true, true, true, true, true, true, true, true, true, true, false, false, false, false, false, false, false, false, false, false, false, false, false, false, false, false, false, false, false, false, false, false, false, false, false, false, false, false, false, false, false, false, false, false] rfl (by kernel_rfl) (fun _ _ _ h => h) rfl ?_) | (first | (refine d_pure (i := 9) #[true, true, true, true, true, true, true, true, true, true, false, false, false, false, false, false, false, false, false, false, false, false, false, false, false, false, false, false, false, false, false, false, false, false, false, false, false, false, false, false, false, false, false, false] rfl (by kernel_rfl) (fun _ _ _ h => h) rfl (fun w_ => evP_run (o := ⟨_, _, _, _, _, _⟩) txs rfl) ?_))
      first | (refine d_off (i := 10) #[true, true, true, true, true, true, true, true, true, true, true, false, false, false, false, false, false, false, false, false, false, false, false, false, false, false, false, false, false, false, false, false, false, false, false, false, false, false, false, false, false, false, false, false] rfl (by kernel_rfl) (fun _ _ _ h => h) rfl ?_) | (first | (refine d_pure (i := 10) #[true, true, true, true, true, true, true, true, true, true, true, false, false, false, false, false, false, false, false, false, false, false, false, false, false, false, false, false, false, false, false, false, false, false, false, false, false, false, false, false, false, false, false, false] rfl (by kernel_rfl) (fun _ _ _ h => h) rfl (fun w_ => evT_no (o := ⟨_, _, _, _, _, _⟩) txs rfl (by omega)) ?_))
      first | (refine d_pure (i := 11) #[true, true, true, true, true, true, true, true, true, true, true, true, false, false, false, false, false, false, false, false, false, false, false, false, false, false, false, false, false, false, false, false, false, false, false, false, false, false, false, false, false, false, false, false] rfl (by kernel_rfl) (fun _ _ _ h => h) rfl (fun w_ => evP_run (o := ⟨_, _, _, _, _, _⟩) txs rfl) ?_)
      first | (refine d_pure (i := 12) #[true, true, true, true, true, true, true, true, true, true, true, true, true, false, false, false, false, false, false, false, false, false, false, false, false, false, false, false, false, false, false, false, false, false, false, false, false, false, false, false, false, false, false, false] rfl (by kernel_rfl) (fun _ _ _ h => h) rfl (fun w_ => evP_run (o := ⟨_, _, _, _, _, _⟩) txs rfl) ?_)
      first | (refine d_off (i := 13) #[true, true, true, true, true, true, true, true, true, true, true, true, true, true, false, false, false, false, false, false, false, false, false, false, false, false, false, false, false, false, false, false, false, false, false, false, false, false, false, false, false, false, false, false] rfl (by kernel_rfl) (fun _ _ _ h => h) rfl ?_) | (first | (refine d_pure (i := 13) #[true, true, true, true, true, true, true, true, true, true, true, true, true, true, false, false, false, false, false, false, false, false, false, false, false, false, false, false, false, false, false, false, false, false, false, false, false, false, false, false, false, false, false, false] rfl (by kernel_rfl) (fun _ _ _ h => h) rfl (fun w_ => evF_run (o := ⟨_, _, _, _, _, _⟩) flds rfl) ?_) | (refine d_pure (i := 13) #[true, true, true, true, true, true, true, true, true, true, true, true, true, true, false, false, false, false, false, false, false, false, false, false, false, false, false, false, false, false, false, false, false, false, false, false, false, false, false, false, false, false, false, false] rfl (by kernel_rfl) (fun _ _ _ h => h) rfl (fun w_ => evG_run (o := ⟨_, _, _, _, _, _⟩) flds rfl) ?_))
      first | (refine d_off (i := 14) #[true, true, true, true, true, true, true, true, true, true, true, true, true, true, true, false, false, false, false, false, false, false, false, false, false, false, false, false, false, false, false, false, false, false, false, false, false, false, false, false, false, false, false, false] rfl (by kernel_rfl) (fun _ _ _ h => h) rfl ?_) | (first | (refine d_take (i := 14) #[true, true, true, true, true, true, true, true, true, true, true, true, true, true, true, false, false, false, false, false, false, false, false, false, false, false, false, false, false, false, false, false, false, false, false, false, false, false, false, false, false, false, false, false] rfl (by kernel_rfl) (fun _ _ _ h => h) rfl (fun w_ K => evL_run (o := ⟨_, _, _, _, _, _⟩) txs rfl (K.cellAt 0 rfl rfl)) HS ?_))
      first | (refine d_off (i := 15) #[true, true, true, true, true, true, true, true, true, true, true, true, true, true, true, true, false, false, false, false, false, false, false, false, false, false, false, false, false, false, false, false, false, false, false, false, false, false, false, false, false, false, false, false] rfl (by kernel_rfl) (fun _ _ _ h => h) rfl ?_) | (first | (refine d_pure (i := 15) #[true, true, true, true, true, true, true, true, true, true, true, true, true, true, true, true, false, false, false, false, false, false, false, false, false, false, false, false, false, false, false, false, false, false, false, false, false, false, false, false, false, false, false, false] rfl (by kernel_rfl) (fun _ _ _ h => h) rfl (fun w_ => evP_run (o := ⟨_, _, _, _, _, _⟩) txs rfl) ?_))
      first | (refine d_off (i := 16) #[true, true, true, true, true, true, true, true, true, true, true, true, true, true, true, true, true, false, false, false, false, false, false, false, false, false, false, false, false, false, false, false, false, false, false, false, false, false, false, false, false, false, false, false] rfl (by kernel_rfl) (fun _ _ _ h => h) rfl ?_) | (first | (refine d_pure (i := 16) #[true, true, true, true, true, true, true, true, true, true, true, true, true, true, true, true, true, false, false, false, false, false, false, false, false, false, false, false, false, false, false, false, false, false, false, false, false, false, false, false, false, false, false, false] rfl (by kernel_rfl) (fun _ _ _ h => h) rfl (fun w_ => evP_run (o := ⟨_, _, _, _, _, _⟩) txs rfl) ?_))
      first | (refine d_off (i := 17) #[true, true, true, true, true, true, true, true, true, true, true, true, true, true, true, true, true, true, false, false, false, false, false, false, false, false, false, false, false, false, false, false, false, false, false, false, false, false, false, false, false, false, false, false] rfl (by kernel_rfl) (fun _ _ _ h => h) rfl ?_) | (first | (refine d_pure (i := 17) #[true, true, true, true, true, true, true, true, true, true, true, true, true, true, true, true, true, true, false, false, false, false, false, false, false, false, false, false, false, false, false, false, false, false, false, false, false, false, false, false, false, false, false, false] rfl (by kernel_rfl) (fun _ _ _ h => h) rfl (fun w_ => evIA_run (o := ⟨_, _, _, _, _, _⟩) txs rfl (by omega) (by omega)) ?_))
      first | (refine d_off (i := 18) #[true, true, true, true, true, true, true, true, true, true, true, true, true, true, true, true, true, true, true, false, false, false, false, false, false, false, false, false, false, false, false, false, false, false, false, false, false, false, false, false, false, false, false, false] rfl (by kernel_rfl) (fun _ _ _ h => h) rfl ?_) | (first | (refine d_pure (i := 18) #[true, true, true, true, true, true, true, true, true, true, true, true, true, true, true, true, true, true, true, false, false, false, false, false, false, false, false, false, false, false, false, false, false, false, false, false, false, false, false, false, false, false, false, false] rfl (by kernel_rfl) (fun _ _ _ h => h) rfl (fun w_ => evF_run (o := ⟨_, _, _, _, _, _⟩) flds rfl) ?_) | (refine d_pure (i := 18) #[true, true, true, true, true, true, true, true, true, true, true, true, true, true, true, true, true, true, true, false, false, false, false, false, false, false, false, false, false, false, false, false, false, false, false, false, false, false, false, false, false, false, false, false] rfl (by kernel_rfl) (fun _ _ _ h => h) rfl (fun w_ => evG_run (o := ⟨_, _, _, _, _, _⟩) flds rfl) ?_))
      first | (refine d_off (i := 19) #[true, true, true, true, true, true, true, true, true, true, true, true, true, true, true, true, true, true, true, true, false, false, false, false, false, false, false, false, false, false, false, false, false, false, false, false, false, false, false, false, false, false, false, false] rfl (by kernel_rfl) (fun _ _ _ h => h) rfl ?_) | (first | (refine d_take (i := 19) #[true, true, true, true, true, true, true, true, true, true, true, true, true, true, true, true, true, true, true, true, false, false, false, false, false, false, false, false, false, false, false, false, false, false, false, false, false, false, false, false, false, false, false, false] rfl (by kernel_rfl) (fun _ _ _ h => h) rfl (fun w_ K => evL_run (o := ⟨_, _, _, _, _, _⟩) txs rfl (by rw [Int.toNat_natCast]; exact K.old qm)) HS ?_))
      first | (refine d_off (i := 20) #[true, true, true, true, true, true, true, true, true, true, true, true, true, true, true, true, true, true, true, true, true, false, false, false, false, false, false, false, false, false, false, false, false, false, false, false, false, false, false, false, false, false, false, false] rfl (by kernel_rfl) (fun _ _ _ h => h) rfl ?_) | (first | (refine d_pure (i := 20) #[true, true, true, true, true, true, true, true, true, true, true, true, true, true, true, true, true, true, true, true, true, false, false, false, false, false, false, false, false, false, false, false, false, false, false, false, false, false, false, false, false, false, false, false] rfl (by kernel_rfl) (fun _ _ _ h => h) rfl (fun w_ => evT_no (o := ⟨_, _, _, _, _, _⟩) txs rfl (fun h => h rfl)) ?_))
      first | (refine d_pure (i := 21) #[true, true, true, true, true, true, true, true, true, true, true, true, true, true, true, true, true, true, true, true, true, true, false, false, false, false, false, false, false, false, false, false, false, false, false, false, false, false, false, false, false, false, false, false] rfl (by kernel_rfl) (fun _ _ _ h => h) rfl (fun w_ => evP_run (o := ⟨_, _, _, _, _, _⟩) txs rfl) ?_)
      first | (refine d_pure (i := 22) #[true, true, true, true, true, true, true, true, true, true, true, true, true, true, true, true, true, true, true, true, true, true, true, false, false, false, false, false, false, false, false, false, false, false, false, false, false, false, false, false, false, false, false, false] rfl (by kernel_rfl) (fun _ _ _ h => h) rfl (fun w_ => evP_run (o := ⟨_, _, _, _, _, _⟩) txs rfl) ?_)
      first | (refine d_off (i := 23) #[true, true, true, true, true, true, true, true, true, true, true, true, true, true, true, true, true, true, true, true, true, true, true, true, false, false, false, false, false, false, false, false, false, false, false, false, false, false, false, false, false, false, false, false] rfl (by kernel_rfl) (fun _ _ _ h => h) rfl ?_) | (first | (refine d_pure (i := 23) #[true, true, true, true, true, true, true, true, true, true, true, true, true, true, true, true, true, true, true, true, true, true, true, true, false, false, false, false, false, false, false, false, false, false, false, false, false, false, false, false, false, false, false, false] rfl (by kernel_rfl) (fun _ _ _ h => h) rfl (fun w_ => evF_run (o := ⟨_, _, _, _, _, _⟩) flds rfl) ?_) | (refine d_pure (i := 23) #[true, true, true, true, true, true, true, true, true, true, true, true, true, true, true, true, true, true, true, true, true, true, true, true, false, false, false, false, false, false, false, false, false, false, false, false, false, false, false, false, false, false, false, false] rfl (by kernel_rfl) (fun _ _ _ h => h) rfl (fun w_ => evG_run (o := ⟨_, _, _, _, _, _⟩) flds rfl) ?_))
      first | (refine d_off (i := 24) #[true, true, true, true, true, true, true, true, true, true, true, true, true, true, true, true, true, true, true, true, true, true, true, true, true, false, false, false, false, false, false, false, false, false, false, false, false, false, false, false, false, false, false, false] rfl (by kernel_rfl) (fun _ _ _ h => h) rfl ?_) | (first | (refine d_take (i := 24) #[true, true, true, true, true, true, true, true, true, true, true, true, true, true, true, true, true, true, true, true, true, true, true, true, true, false, false, false, false, false, false, false, false, false, false, false, false, false, false, false, false, false, false, false] rfl (by kernel_rfl) (fun _ _ _ h => h) rfl (fun w_ K => evL_run (o := ⟨_, _, _, _, _, _⟩) txs rfl (K.cellAt 0 rfl rfl)) HS ?_))
      first | (refine d_off (i := 25) #[true, true, true, true, true, true, true, true, true, true, true, true, true, true, true, true, true, true, true, true, true, true, true, true, true, true, false, false, false, false, false, false, false, false, false, false, false, false, false, false, false, false, false, false] rfl (by kernel_rfl) (fun _ _ _ h => h) rfl ?_) | (first | (refine d_pure (i := 25) #[true, true, true, true, true, true, true, true, true, true, true, true, true, true, true, true, true, true, true, true, true, true, true, true, true, true, false, false, false, false, false, false, false, false, false, false, false, false, false, false, false, false, false, false] rfl (by kernel_rfl) (fun _ _ _ h => h) rfl (fun w_ => evP_run (o := ⟨_, _, _, _, _, _⟩) txs rfl) ?_))
      first | (refine d_off (i := 26) #[true, true, true, true, true, true, true, true, true, true, true, true, true, true, true, true, true, true, true, true, true, true, true, true, true, true, true, false, false, false, false, false, false, false, false, false, false, false, false, false, false, false, false, false] rfl (by kernel_rfl) (fun _ _ _ h => h) rfl ?_) | (first | (refine d_pure (i := 26) #[true, true, true, true, true, true, true, true, true, true, true, true, true, true, true, true, true, true, true, true, true, true, true, true, true, true, true, false, false, false, false, false, false, false, false, false, false, false, false, false, false, false, false, false] rfl (by kernel_rfl) (fun _ _ _ h => h) rfl (fun w_ => evP_run (o := ⟨_, _, _, _, _, _⟩) txs rfl) ?_))
      first | (refine d_off (i := 27) #[true, true, true, true, true, true, true, true, true, true, true, true, true, true, true, true, true, true, true, true, true, true, true, true, true, true, true, true, false, false, false, false, false, false, false, false, false, false, false, false, false, false, false, false] rfl (by kernel_rfl) (fun _ _ _ h => h) rfl ?_) | (first | (refine d_pure (i := 27) #[true, true, true, true, true, true, true, true, true, true, true, true, true, true, true, true, true, true, true, true, true, true, true, true, true, true, true, true, false, false, false, false, false, false, false, false, false, false, false, false, false, false, false, false] rfl (by kernel_rfl) (fun _ _ _ h => h) rfl (fun w_ => evIA_run (o := ⟨_, _, _, _, _, _⟩) txs rfl (by omega) (by omega)) ?_))
      first | (refine d_off (i := 28) #[true, true, true, true, true, true, true, true, true, true, true, true, true, true, true, true, true, true, true, true, true, true, true, true, true, true, true, true, true, false, false, false, false, false, false, false, false, false, false, false, false, false, false, false] rfl (by kernel_rfl) (fun _ _ _ h => h) rfl ?_) | (first | (refine d_pure (i := 28) #[true, true, true, true, true, true, true, true, true, true, true, true, true, true, true, true, true, true, true, true, true, true, true, true, true, true, true, true, true, false, false, false, false, false, false, false, false, false, false, false, false, false, false, false] rfl (by kernel_rfl) (fun _ _ _ h => h) rfl (fun w_ => evF_run (o := ⟨_, _, _, _, _, _⟩) flds rfl) ?_) | (refine d_pure (i := 28) #[true, true, true, true, true, true, true, true, true, true, true, true, true, true, true, true, true, true, true, true, true, true, true, true, true, true, true, true, true, false, false, false, false, false, false, false, false, false, false, false, false, false, false, false] rfl (by kernel_rfl) (fun _ _ _ h => h) rfl (fun w_ => evG_run (o := ⟨_, _, _, _, _, _⟩) flds rfl) ?_))
      first | (refine d_off (i := 29) #[true, true, true, true, true, true, true, true, true, true, true, true, true, true, true, true, true, true, true, true, true, true, true, true, true, true, true, true, true, true, false, false, false, false, false, false, false, false, false, false, false, false, false, false] rfl (by kernel_rfl) (fun _ _ _ h => h) rfl ?_) | (first | (refine d_take (i := 29) #[true, true, true, true, true, true, true, true, true, true, true, true, true, true, true, true, true, true, true, true, true, true, true, true, true, true, true, true, true, true, false, false, false, false, false, false, false, false, false, false, false, false, false, false] rfl (by kernel_rfl) (fun _ _ _ h => h) rfl (fun w_ K => evL_run (o := ⟨_, _, _, _, _, _⟩) txs rfl (by rw [Int.toNat_natCast]; exact K.old qt)) HS ?_))
      first | (refine d_off (i := 30) #[true, true, true, true, true, true, true, true, true, true, true, true, true, true, true, true, true, true, true, true, true, true, true, true, true, true, true, true, true, true, true, false, false, false, false, false, false, false, false, false, false, false, false, false] rfl (by kernel_rfl) (fun _ _ _ h => h) rfl ?_) | (first | (refine d_pure (i := 30) #[true, true, true, true, true, true, true, true, true, true, true, true, true, true, true, true, true, true, true, true, true, true, true, true, true, true, true, true, true, true, true, false, false, false, false, false, false, false, false, false, false, false, false, false] rfl (by kernel_rfl) (fun _ _ _ h => h) rfl (fun w_ => evT_no (o := ⟨_, _, _, _, _, _⟩) txs rfl (fun h => h rfl)) ?_))
      first | (refine d_pure (i := 31) #[true, true, true, true, true, true, true, true, true, true, true, true, true, true, true, true, true, true, true, true, true, true, true, true, true, true, true, true, true, true, true, true, false, false, false, false, false, false, false, false, false, false, false, false] rfl (by kernel_rfl) (fun _ _ _ h => h) rfl (fun w_ => evP_run (o := ⟨_, _, _, _, _, _⟩) txs rfl) ?_)
      first | (refine d_pure (i := 32) #[true, true, true, true, true, true, true, true, true, true, true, true, true, true, true, true, true, true, true, true, true, true, true, true, true, true, true, true, true, true, true, true, true, false, false, false, false, false, false, false, false, false, false, false] rfl (by kernel_rfl) (fun _ _ _ h => h) rfl (fun w_ => evP_run (o := ⟨_, _, _, _, _, _⟩) txs rfl) ?_)
      first | (refine d_off (i := 33) #[true, true, true, true, true, true, true, true, true, true, true, true, true, true, true, true, true, true, true, true, true, true, true, true, true, true, true, true, true, true, true, true, true, true, false, false, false, false, false, false, false, false, false, false] rfl (by kernel_rfl) (fun _ _ _ h => h) rfl ?_) | (first | (refine d_pure (i := 33) #[true, true, true, true, true, true, true, true, true, true, true, true, true, true, true, true, true, true, true, true, true, true, true, true, true, true, true, true, true, true, true, true, true, true, false, false, false, false, false, false, false, false, false, false] rfl (by kernel_rfl) (fun _ _ _ h => h) rfl (fun w_ => evF_run (o := ⟨_, _, _, _, _, _⟩) flds rfl) ?_) | (refine d_pure (i := 33) #[true, true, true, true, true, true, true, true, true, true, true, true, true, true, true, true, true, true, true, true, true, true, true, true, true, true, true, true, true, true, true, true, true, true, false, false, false, false, false, false, false, false, false, false] rfl (by kernel_rfl) (fun _ _ _ h => h) rfl (fun w_ => evG_run (o := ⟨_, _, _, _, _, _⟩) flds rfl) ?_))
      first | (refine d_off (i := 34) #[true, true, true, true, true, true, true, true, true, true, true, true, true, true, true, true, true, true, true, true, true, true, true, true, true, true, true, true, true, true, true, true, true, true, true, false, false, false, false, false, false, false, false, false] rfl (by kernel_rfl) (fun _ _ _ h => h) rfl ?_) | (first | (refine d_take (i := 34) #[true, true, true, true, true, true, true, true, true, true, true, true, true, true, true, true, true, true, true, true, true, true, true, true, true, true, true, true, true, true, true, true, true, true, true, false, false, false, false, false, false, false, false, false] rfl (by kernel_rfl) (fun _ _ _ h => h) rfl (fun w_ K => evL_run (o := ⟨_, _, _, _, _, _⟩) txs rfl (K.cellAt 0 rfl rfl)) HS ?_))
      first | (refine d_off (i := 35) #[true, true, true, true, true, true, true, true, true, true, true, true, true, true, true, true, true, true, true, true, true, true, true, true, true, true, true, true, true, true, true, true, true, true, true, true, false, false, false, false, false, false, false, false] rfl (by kernel_rfl) (fun _ _ _ h => h) rfl ?_) | (first | (refine d_take (i := 35) #[true, true, true, true, true, true, true, true, true, true, true, true, true, true, true, true, true, true, true, true, true, true, true, true, true, true, true, true, true, true, true, true, true, true, true, true, false, false, false, false, false, false, false, false] rfl (by kernel_rfl) (fun _ _ _ h => h) rfl (fun w_ K => evText_run (o := ⟨_, _, _, _, _, _⟩) rfl Tryz.underlying23 Tryz.underlying5 Tryz.underlying9 (rowB_rd K 1 (F := P1) (f := p1) (x := (backR x.r).body) rfl).1) HS ?_))
      first | (refine d_off (i := 36) #[true, true, true, true, true, true, true, true, true, true, true, true, true, true, true, true, true, true, true, true, true, true, true, true, true, true, true, true, true, true, true, true, true, true, true, true, true, false, false, false, false, false, false, false] rfl (by kernel_rfl) (fun _ _ _ h => h) rfl ?_) | (first | (refine d_pure (i := 36) #[true, true, true, true, true, true, true, true, true, true, true, true, true, true, true, true, true, true, true, true, true, true, true, true, true, true, true, true, true, true, true, true, true, true, true, true, true, false, false, false, false, false, false, false] rfl (by kernel_rfl) (fun _ _ _ h => h) rfl (fun w_ => evP_run (o := ⟨_, _, _, _, _, _⟩) txs rfl) ?_))
      first | (refine d_off (i := 37) #[true, true, true, true, true, true, true, true, true, true, true, true, true, true, true, true, true, true, true, true, true, true, true, true, true, true, true, true, true, true, true, true, true, true, true, true, true, true, false, false, false, false, false, false] rfl (by kernel_rfl) (fun _ _ _ h => h) rfl ?_) | (first | (refine d_pure (i := 37) #[true, true, true, true, true, true, true, true, true, true, true, true, true, true, true, true, true, true, true, true, true, true, true, true, true, true, true, true, true, true, true, true, true, true, true, true, true, true, false, false, false, false, false, false] rfl (by kernel_rfl) (fun _ _ _ h => h) rfl (fun w_ => evP_run (o := ⟨_, _, _, _, _, _⟩) txs rfl) ?_))
      first | (refine d_off (i := 38) #[true, true, true, true, true, true, true, true, true, true, true, true, true, true, true, true, true, true, true, true, true, true, true, true, true, true, true, true, true, true, true, true, true, true, true, true, true, true, true, false, false, false, false, false] rfl (by kernel_rfl) (fun _ _ _ h => h) rfl ?_) | (first | (refine d_pure (i := 38) #[true, true, true, true, true, true, true, true, true, true, true, true, true, true, true, true, true, true, true, true, true, true, true, true, true, true, true, true, true, true, true, true, true, true, true, true, true, true, true, false, false, false, false, false] rfl (by kernel_rfl) (fun _ _ _ h => h) rfl (fun w_ => evIA_run (o := ⟨_, _, _, _, _, _⟩) txs rfl (by omega) (by omega)) ?_))
      first | (refine d_off (i := 39) #[true, true, true, true, true, true, true, true, true, true, true, true, true, true, true, true, true, true, true, true, true, true, true, true, true, true, true, true, true, true, true, true, true, true, true, true, true, true, true, true, false, false, false, false] rfl (by kernel_rfl) (fun _ _ _ h => h) rfl ?_) | (first | (refine d_pure (i := 39) #[true, true, true, true, true, true, true, true, true, true, true, true, true, true, true, true, true, true, true, true, true, true, true, true, true, true, true, true, true, true, true, true, true, true, true, true, true, true, true, true, false, false, false, false] rfl (by kernel_rfl) (fun _ _ _ h => h) rfl (fun w_ => evF_run (o := ⟨_, _, _, _, _, _⟩) flds rfl) ?_) | (refine d_pure (i := 39) #[true, true, true, true, true, true, true, true, true, true, true, true, true, true, true, true, true, true, true, true, true, true, true, true, true, true, true, true, true, true, true, true, true, true, true, true, true, true, true, true, false, false, false, false] rfl (by kernel_rfl) (fun _ _ _ h => h) rfl (fun w_ => evG_run (o := ⟨_, _, _, _, _, _⟩) flds rfl) ?_))
      first | (refine d_off (i := 40) #[true, true, true, true, true, true, true, true, true, true, true, true, true, true, true, true, true, true, true, true, true, true, true, true, true, true, true, true, true, true, true, true, true, true, true, true, true, true, true, true, true, false, false, false] rfl (by kernel_rfl) (fun _ _ _ h => h) rfl ?_) | (first | (refine d_take (i := 40) #[true, true, true, true, true, true, true, true, true, true, true, true, true, true, true, true, true, true, true, true, true, true, true, true, true, true, true, true, true, true, true, true, true, true, true, true, true, true, true, true, true, false, false, false] rfl (by kernel_rfl) (fun _ _ _ h => h) rfl (fun w_ K => evL_run (o := ⟨_, _, _, _, _, _⟩) txs rfl (by rw [Int.toNat_natCast]; exact K.old qb)) HS ?_))
      first | (refine d_off (i := 41) #[true, true, true, true, true, true, true, true, true, true, true, true, true, true, true, true, true, true, true, true, true, true, true, true, true, true, true, true, true, true, true, true, true, true, true, true, true, true, true, true, true, true, false, false] rfl (by kernel_rfl) (fun _ _ _ h => h) rfl ?_) | (first | (refine d_take (i := 41) #[true, true, true, true, true, true, true, true, true, true, true, true, true, true, true, true, true, true, true, true, true, true, true, true, true, true, true, true, true, true, true, true, true, true, true, true, true, true, true, true, true, true, false, false] rfl (by kernel_rfl) (fun _ _ _ h => h) rfl (fun w_ K => evText_run (o := ⟨_, _, _, _, _, _⟩) rfl Tryz.underlying23 Tryz.underlying5 Tryz.underlying9 (hBx.below K.B)) HS ?_))
      first | (refine d_off (i := 42) #[true, true, true, true, true, true, true, true, true, true, true, true, true, true, true, true, true, true, true, true, true, true, true, true, true, true, true, true, true, true, true, true, true, true, true, true, true, true, true, true, true, true, true, false] rfl (by kernel_rfl) (fun _ _ _ h => h) rfl ?_) | (first | (refine d_pure (i := 42) #[true, true, true, true, true, true, true, true, true, true, true, true, true, true, true, true, true, true, true, true, true, true, true, true, true, true, true, true, true, true, true, true, true, true, true, true, true, true, true, true, true, true, true, false] rfl (by kernel_rfl) (fun _ _ _ h => h) rfl (fun w_ => evT_no (o := ⟨_, _, _, _, _, _⟩) txs rfl (fun h => h rfl)) ?_))
      first | (refine d_pure (i := 43) #[true, true, true, true, true, true, true, true, true, true, true, true, true, true, true, true, true, true, true, true, true, true, true, true, true, true, true, true, true, true, true, true, true, true, true, true, true, true, true, true, true, true, true, true] rfl (by kernel_rfl) (fun _ _ _ h => h) rfl (fun w_ => evP_run (o := ⟨_, _, _, _, _, _⟩) txs rfl) ?_)
      refine d_done rfl ?_
      repeat' (first | (first | (with_reducible refine p_tn ?_) | (with_reducible refine w_reg ?_) | (with_reducible (refine is_if ?_; (refine w_iff rfl ?_))) | (with_reducible refine wp_skip ?_)) | ((with_reducible refine g_on ?_); ((with_reducible refine g_mv ?_); refine l_p txs rfl rfl ?_)))
      (with_reducible refine is_l ?_); refine l_cutN txs X.length xs.length rfl rfl (by omega) (by omega) ?_
      have q := reads_cut hx1 (p := X.length) (q := xs.length) (c := c3) (by omega) (Nat.le_refl _) hx2
      have hk : (xs.take xs.length).drop X.length = stmS (wl.drop (j + 1)) ++ tl := by rw [List.take_length, hxs, List.drop_left]
      have hkl : xs.length - X.length = (stmS (wl.drop (j + 1)) ++ tl).length := by rw [← hk, List.take_length, List.length_drop]
      rw [hk, hkl] at q
      rw [hkl]
      repeat' (first | (first | (with_reducible refine p_tn ?_) | (with_reducible refine p_bn ?_) | (with_reducible refine w_reg ?_)) | (first | (with_reducible refine l_nil ?_) | ((with_reducible refine g_on ?_); (first | ((with_reducible refine g_mv ?_); refine l_p txs rfl rfl ?_) | ((with_reducible refine g_as ?_); refine l_p txs rfl rfl ?_) | ((with_reducible refine g_bi ?_); (refine l_a txs rfl rfl (by first | exact in_i64 (by omega) (by omega) | exact in_u8 (by omega) (by omega) | exact in_u64 (by omega) (by omega) | exact in_i32 (by omega) (by omega)) ?_))))))
      have H := H.pick [] [] (by decide) (by decide) rfl rfl
      refine ⟨(j + 1, cutA A3 c3 X.length 1, c3 - X.length, stmS (wl.drop (j + 1)) ++ tl), _, rfl, ⟨rfl, rfl, rfl, rfl, trivial⟩, ⟨H, by show j + 1 ≤ _; omega, q, by show (stmS (wl.drop (j + 1)) ++ tl).length ≤ c3 - X.length; omega, fun e => ?_, rfl, by show (stmS (wl.drop (j + 1)) ++ tl).length ≤ 1900000000000; omega⟩, by show _ - (j + 1) < _ - j; omega⟩
      have := hx3 (cutA_none e)
      simp only at this ⊢
      omega
    · have hjw : j = wl.length := by omega
      have hxt : xs = tl := by rw [hx4, hjw, List.drop_length]; rfl
      repeat' (first | (first | (with_reducible refine p_tn ?_) | (with_reducible refine p_tx ?_) | (with_reducible refine x_hit ?_) | (with_reducible refine wp_seq ?_) | (with_reducible refine w_reg ?_) | (with_reducible (refine is_if ?_; (refine w_iff rfl ?_))) | (with_reducible refine wp_exit ?_)) | (first | (with_reducible refine l_nil ?_) | ((with_reducible refine g_on ?_); ((with_reducible refine g_mv ?_); refine l_p txs rfl rfl ?_))))
      (with_reducible refine is_l ?_); refine l_text rfl rfl Tryz.underlying23 Tryz.underlying5 Tryz.underlying9 (hx1.below H.B) ?_
      repeat' ((with_reducible refine g_on ?_); ((with_reducible refine g_mv ?_); refine l_p txs rfl rfl ?_))
      (with_reducible refine is_l ?_); refine l_text rfl rfl Tryz.underlying23 Tryz.underlying5 Tryz.underlying9 (hrf2.below H.B) ?_
      skip
      (with_reducible refine is_l ?_); refine l_t txs rfl rfl (fun _ => ?_) (fun hh => absurd (by rw [hxt]) hh)
      repeat' (first | (first | (with_reducible refine p_tn ?_) | (with_reducible refine wp_ret ?_)) | (first | (with_reducible refine l_nil ?_) | ((with_reducible refine g_on ?_); ((with_reducible refine g_as ?_); refine l_p txs rfl rfl ?_))))
      refine end1 rfl rfl ?_
      exact ⟨rfl, Bt H0.B H.B⟩
end Str
end Go.Proofs.YthgojbdpmcccaaaGreatDoor.K
end
section
namespace Go.Proofs.YthgojbdpmcccaaaGreatDoor.Op
open Go.ChangeShapes Go.WideShapes Go.ChangeAt Go.RowKit
open Go.Proofs.YthgojbdpmcccaaaGreatDoor.K Go.Proofs.YthgojbdpmcccaaaGreatDoor.Q Go.Proofs.YthgojbdpmcccaaaGreatDoor.Wb Go.Proofs.YthgojbdpmcccaaaGreatDoor.LaidF Go.Proofs.YthgojbdpmcccaaaGreatDoorW.PrintWords
set_option linter.unusedVariables false
set_option linter.unusedSimpArgs false
section
variable {H : Type} {enc : TypeId × Value → H} {W : World} {fuel : Nat} {cs : List Value} {x : DataW H × List MemPlace}
set_option maxRecDepth 100000 in
theorem req_in (hf : DataW.trod enc Tryz.prog W 0 (fun _ => true) true fuel 25 cs = some x) (hk : Rows.uptoBulk x.1 ≤ 1048576) : ∃ q : RqD, cs = q.cells ∧ RqOk W q := by
  obtain ⟨xs, n, hx, hl, hall⟩ := one_at Tryz.underlying25 (by kernel_rfl) hf
  have e7 : Tryz.prog.cellsOf 25 = 7 := by kernel_rfl
  rw [e7] at hl
  obtain ⟨a, b, c, q, e, f, g, rfl⟩ := seven hl
  obtain ⟨y0, m0, h0⟩ := hall 0 _ rfl
  obtain ⟨y1, m1, h1⟩ := hall 1 _ rfl
  obtain ⟨y2, m2, h2⟩ := hall 2 _ rfl
  obtain ⟨y3, m3, h3⟩ := hall 3 _ rfl
  obtain ⟨y4, m4, h4⟩ := hall 4 _ rfl
  obtain ⟨y5, m5, h5⟩ := hall 5 _ rfl
  obtain ⟨y6, m6, h6⟩ := hall 6 _ rfl
  obtain ⟨l0, k0, b0, n0⟩ := str_in Tryz.underlying9 h0
  obtain ⟨l1, k1, b1, n1⟩ := str_in Tryz.underlying9 h1
  obtain ⟨i2, k2, b2⟩ := int_in Tryz.underlying3 h2
  obtain ⟨A3, c3, l3, k3, z3, r3, n3, b3⟩ := strs_in h3
  obtain ⟨A4, c4, l4, k4, z4, r4, n4, b4⟩ := strs_in h4
  obtain ⟨A5, c5, l5, k5, z5, r5, n5, b5, o5⟩ := bytes_in h5
  obtain ⟨i6, k6, b6⟩ := int_in Tryz.underlying3 h6
  have hle : ∀ y, y ∈ xs → Rows.uptoBulk y.1 ≤ Rows.uptoBulk x.1 := fun y hy => by rw [hx]; exact agg_le hy
  have L0 := hle _ m0
  have L1 := hle _ m1
  have L3 := hle _ m3
  have L4 := hle _ m4
  have L5 := hle _ m5
  simp at k0 k1 k2 k3 k4 k5 k6
  refine ⟨⟨l0, l1, i2, l3, l4, l5, i6, A3, c3, A4, c4, A5, c5⟩, ?_, ⟨⟨b0, by show l0.length ≤ _; omega⟩, ⟨b1, by show l1.length ≤ _; omega⟩, b2, ⟨r3, by show l3.length ≤ _; omega, fun y hy => ⟨(b3 y hy).1, by have := (b3 y hy).2; omega⟩⟩, ⟨r4, fun y hy => ⟨(b4 y hy).1, by have := (b4 y hy).2; omega⟩⟩, ⟨r5, by show l5.length ≤ _; omega, b5⟩⟩⟩
  unfold RqD.cells
  rw [k0, k1, k2, k3, k4, k5, k6]
theorem bulk_pos (d : DataW H) : 1 ≤ Rows.uptoBulk d := by
  cases d with
  | lit l => cases l <;> simp [Rows.uptoBulk]
  | _ => simp [Rows.uptoBulk]
theorem len_bulk : ∀ l : List (DataW H), l.length ≤ Rows.uptoBulkAll l
  | [] => by simp [Rows.uptoBulkAll]
  | d :: r => by
    have h1 := bulk_pos d
    have h2 := len_bulk r
    simp only [Rows.uptoBulkAll, List.length_cons]
    omega
theorem rqC_len : ∀ l : List RqD, (rqC l).length = l.length * 7
  | [] => rfl
  | x :: r => by
    have h := rqC_len r
    unfold rqC at h ⊢
    rw [List.flatMap_cons, List.length_append, h]
    show 7 + _ = (r.length + 1) * 7
    omega
set_option maxRecDepth 100000 in
theorem reqs_in (hf : DataW.trod enc Tryz.prog W 0 (fun _ => true) true fuel 42 cs = some x) (hk : Rows.uptoBulk x.1 ≤ 1048576) :
    ∃ (A : Option Addr) (c : Nat) (l : List RqD), cs = [.slice A l.length c] ∧ Rd W A (rqC l) ∧ (∀ q ∈ l, RqOk W q) ∧ l.length ≤ 1048576 := by
  have e7 : Tryz.prog.cellsOf 25 = 7 := by kernel_rfl
  rcases DataW.trod_slice Tryz.underlying42 hf with ⟨rfl, _⟩ | ⟨a, len, cap, elems, rest, n, _, rfl, rfl, _, hl, hm, hlen, hel, _, _⟩
  · exact ⟨none, 0, [], rfl, ⟨fun _ => rfl, fun ad e => (by cases e)⟩, (fun _ h => by cases h), by simp⟩
  · have hb : Rows.uptoBulk (DataW.slice (elems.map (·.1)) (rest.map (·.1))) = Rows.uptoBulkAll (elems.map (·.1)) + Rows.uptoBulkAll (rest.map (·.1)) + 1 := by simp only [Rows.uptoBulk]
    simp only at hk
    rw [hb] at hk
    have each : ∀ i : Nat, ∃ q : RqD, i < len → RqOk W q ∧ ∀ (j : Nat) (v : Value), q.cells[j]? = some v → W.cell? ((a.add (i * 7)).add j) = some v := fun i => by
      by_cases hi : i < len
      · have h1 := hel i hi
        rw [e7, List.getElem?_eq_getElem (by omega), Option.bind_eq_some_iff] at h1
        obtain ⟨cs', hcs, hy⟩ := h1
        have hmem : (elems[i]).1 ∈ elems.map (·.1) := List.mem_map_of_mem (List.getElem_mem _)
        obtain ⟨q, rfl, hq⟩ := req_in hy (by have := part_le hmem; omega)
        refine ⟨q, fun _ => ⟨hq, fun j v hj => ?_⟩⟩
        have h2 := (World.cells?_some hcs).2.2 j (by have := (List.getElem?_eq_some_iff.1 hj).1; show j < 7; exact this)
        rw [h2]
        exact hj
      · exact ⟨⟨[], [], 0, [], [], [], 0, none, 0, none, 0, none, 0⟩, fun h => absurd h hi⟩
    obtain ⟨f, hfq⟩ := Classical.axiomOfChoice each
    have hlist : ∀ i, i < len → ((List.range len).map f)[i]? = some (f i) := fun i hi => by rw [List.getElem?_map, List.getElem?_range hi]; rfl
    have hll : ((List.range len).map f).length = len := by simp
    have hbl : ∀ l : List (DataW H), l.length ≤ Rows.uptoBulkAll l := len_bulk
    refine ⟨some a, cap, (List.range len).map f, by rw [hll], ⟨fun e => (by cases e), fun ad e k v hv => ?_⟩, fun q hq => ?_, ?_⟩
    · injection e with e
      subst e
      have hkl : k < len * 7 := by
        have h1 := (List.getElem?_eq_some_iff.1 hv).1
        rw [rqC_len, hll] at h1
        exact h1
      have h1 := rqC_at (hlist (k / 7) (by omega)) (k % 7)
      obtain ⟨v', hv'⟩ : ∃ v', (f (k / 7)).cells[k % 7]? = some v' := ⟨_, List.getElem?_eq_getElem (by show k % 7 < 7; omega)⟩
      have h2 := h1 _ hv'
      rw [show k / 7 * 7 + k % 7 = k by omega, hv] at h2
      injection h2 with h2
      subst h2
      have h3 := (hfq (k / 7) (by omega)).2 _ _ hv'
      rw [add_add, show k / 7 * 7 + k % 7 = k by omega] at h3
      exact h3
    · obtain ⟨i, hi, rfl⟩ := List.mem_map.1 hq
      exact (hfq i (List.mem_range.1 hi)).1
    · rw [hll, ← hlen]
      have := hbl (elems.map (·.1))
      rw [List.length_map] at this
      omega
set_option maxRecDepth 100000 in
theorem open_reqs {base : Nat} {v : Value} {d : DataW H} {ps : List MemPlace} (hval : Value.okWide Tryz.prog W .any base 42 v) (h : DataW.Trod enc Tryz.prog W 0 (fun _ => true) true 42 v d ps) (hk : Rows.uptoBulk d ≤ 1048576) :
    ∃ (A : Option Addr) (c : Nat) (l : List RqD), v = .slice A l.length c ∧ Rd W A (rqC l) ∧ (∀ q ∈ l, RqOk W q) ∧ l.length ≤ 1048576 := by
  obtain ⟨a, len, cap, rfl⟩ := okWide_slice Tryz.underlying42 hval
  obtain ⟨fuel, hf⟩ := h
  obtain ⟨A, c, l, h1, h2⟩ := reqs_in hf hk
  refine ⟨A, c, l, ?_, h2⟩
  have h3 : (Value.slice a len cap).cells.toList = [Value.slice a len cap] := rfl
  rw [h3] at h1
  exact (List.cons.inj h1).1
end
end Go.Proofs.YthgojbdpmcccaaaGreatDoor.Op
end
