/- Joined texts of mine, 4: Xm, WFix, Xo, Yb, Yc, Yd, QL, Open, Yh, Za, Yi, Ra, Rb, Rc, Rt, Rd, Re, Rf, Rg, Rh. -/
import Derived.Lib.Builder
import Derived.Lib.FrozenHead
import Derived.Laws.Pointers
import Derived.Lib.ItoaLen
import Derived.OpenShut
import Derived.ShutString
import Derived.SliceStrings
import Derived.ChangeSlices
import Derived.Below
import Derived.Carry
import Derived.WalkKit
import Derived.ProofKit
import Derived.Deep.DeepHandedRow
import Derived.Test.YthgojbdpmcccaaaGreatDoorXq3
section
namespace Go.Proofs.YthgojbdpmcccaaaGreatDoor.K
open Go.RowKit Go.Proofs.YthgojbdpmcccaaaGreatDoor.Q Go.Proofs.YthgojbdpmcccaaaGreatDoor.Wb Go.Proofs.YthgojbdpmcccaaaGreatDoorW.PrintWords
set_option linter.unusedVariables false
set_option linter.unusedSimpArgs false
/-- The bytes with x behind them. -/
def padN (pad : Int) : Nat := if pad < 1100000 then pad.toNat else 1100000
def padS (b : L) (pad : Int) : L := b ++ List.replicate (padN pad) 120
set_option maxHeartbeats 4000000 in
theorem padded_c {w : World} {B : Option Addr} {c : Nat} {b : L} (h : ReadsInt w .u8 B b.length b) (pad : Int) (hs : b.length ≤ 1000000000) :
    Calls Tryz.prog 20 #[.slice B b.length c, .int .i64 pad] w fun e w' => ∃ A1 c1, e = .returned (.slice A1 (padS b pad).length c1) ∧ Hp w w' [] [rowB (.slice A1 (padS b pad).length c1) (padS b pad)] := by
  refine enter (args := [.slice B b.length c, .int .i64 pad]) Tryz.func20 rfl Tryz.ntmps20 rfl ?_
  have H := (Hp.nil w).nilRow 5 1
  repeat' (first | (first | (with_reducible refine p_tn ?_) | (with_reducible refine wp_seq ?_) | (with_reducible refine w_reg ?_)) | (first | (with_reducible refine l_nil ?_) | ((with_reducible refine g_on ?_); (first | ((with_reducible refine g_mv ?_); refine l_p txs rfl rfl ?_) | ((with_reducible refine g_as ?_); refine l_p txs rfl rfl ?_)))))
  (with_reducible refine is_l ?_); refine h_app H 0 rfl info_u8 Tryz.underlying23 rfl rfl rfl rfl (rd_of_reads (h.below H.B)) (by simp [nums]) (by simp [nums, List.all_map]; intros; rfl) (by show (0 + b.length) * 1 ≤ _; omega) (fun v w_ hv H => ?_)
  obtain ⟨A1, c1, rfl⟩ := hv
  have H := H.pick [] [0] (by decide) (by decide) rfl rfl
  simp only [Nat.zero_add, List.nil_append] at H
  rw [Nat.zero_add]
  repeat' (first | (first | (with_reducible refine p_tn ?_) | (with_reducible refine wp_seq ?_) | (with_reducible refine wp_block ?_) | (with_reducible refine w_reg ?_)) | (first | (with_reducible refine l_nil ?_) | ((with_reducible refine g_on ?_); ((with_reducible refine g_as ?_); refine l_p txs rfl rfl ?_))))
  refine w_loop (σ := Nat × Option Addr × Nat) (S := fun s => [(1, .int .i64 pad), (5, .slice s.2.1 (b ++ List.replicate s.1 120).length s.2.2), (6, .int .i64 (s.1 : Int))])
    (J := fun s w' => Hp w w' [] [rowB (.slice s.2.1 (b ++ List.replicate s.1 120).length s.2.2) (b ++ List.replicate s.1 120)] ∧ s.1 ≤ padN pad) (μ := fun s => padN pad - s.1) (0, A1, c1) ⟨rfl, by show Value.slice A1 b.length c1 = _; simp, rfl, trivial⟩ ⟨by simpa using H, by omega⟩ ?_
  rintro ⟨k, A2, c2⟩ f w_ ⟨H, hk⟩
  simp only at H hk ⊢
  have hp : padN pad ≤ 1100000 := by unfold padN; split <;> omega
  have fin : padN pad ≤ k → ∃ A1' c1', Value.slice A2 (b ++ List.replicate k 120).length c2 = Value.slice A1' (padS b pad).length c1' ∧ Hp w w_ [] [rowB (.slice A1' (padS b pad).length c1') (padS b pad)] := by
    intro hle
    have : k = padN pad := by omega
    subst this
    exact ⟨A2, c2, rfl, H⟩
  repeat' (first | (first | (with_reducible refine wp_seq ?_) | (with_reducible refine w_reg ?_)) | ((with_reducible refine g_on ?_); ((with_reducible refine g_mv ?_); refine l_p txs rfl rfl ?_)))
  (with_reducible refine is_l ?_); refine l_t txs rfl rfl (fun h1 => ?_) (fun h1 => ?_)
  · repeat' (first | ((with_reducible refine g_on ?_); ((with_reducible refine g_mv ?_); refine l_p txs rfl rfl ?_)) | ((with_reducible refine g_if ?_); ((with_reducible refine g_mv ?_); refine l_p txs rfl rfl ?_)))
    (with_reducible refine is_l ?_); refine l_t txs rfl rfl (fun h2 => ?_) (fun h2 => ?_)
    · have hlt : k < padN pad := by unfold padN; split <;> omega
      have hlen : (b ++ List.replicate k (120 : Int)).length = b.length + k := by simp
      repeat' (first | (first | (with_reducible refine p_tn ?_) | (with_reducible refine wp_seq ?_) | (with_reducible refine wp_block ?_) | (with_reducible refine w_reg ?_) | (with_reducible (refine is_if ?_; (refine w_ift rfl ?_))) | (with_reducible refine wp_skip ?_)) | (first | (with_reducible refine l_nil ?_) | ((with_reducible refine g_on ?_); (first | ((with_reducible refine g_mv ?_); refine l_p txs rfl rfl ?_) | ((with_reducible refine g_pk ?_); refine l_p txs rfl rfl ?_)))))
      (with_reducible refine is_l ?_); refine h_bs H info_u8 Tryz.underlying23 (by decide) (by decide) rfl rfl (by kernel_rfl) (fun g_ w_ H => ?_)
      (with_reducible refine is_l ?_); refine h_app H 0 rfl info_u8 Tryz.underlying23 rfl rfl rfl rfl (H.cellRd 0 rfl) rfl rfl (by show ((b ++ List.replicate k (120 : Int)).length + 1) * 1 ≤ _; omega) (fun v w_ hv H => ?_)
      obtain ⟨A', c', rfl⟩ := hv
      have e1 : b ++ List.replicate (k + 1) (120 : Int) = (b ++ List.replicate k 120) ++ [120] := by rw [List.append_assoc, List.replicate_succ']
      have e2 : (b ++ List.replicate (k + 1) (120 : Int)).length = (b ++ List.replicate k (120 : Int)).length + 1 := by simp; omega
      have H := H.pick [] [0] (by decide) (by decide) rfl rfl
      repeat' (first | (first | (with_reducible refine p_tn ?_) | (with_reducible refine p_bn ?_) | (with_reducible refine w_reg ?_)) | (first | (with_reducible refine l_nil ?_) | ((with_reducible refine g_on ?_); (first | ((with_reducible refine g_mv ?_); refine l_p txs rfl rfl ?_) | ((with_reducible refine g_as ?_); refine l_p txs rfl rfl ?_) | ((with_reducible refine g_bi ?_); (refine l_a txs rfl rfl (by first | exact in_i64 (by omega) (by omega) | exact in_u8 (by omega) (by omega) | exact in_u64 (by omega) (by omega) | exact in_i32 (by omega) (by omega)) ?_))))))
      refine ⟨(k + 1, A', c'), _, rfl, ⟨rfl, ?_, rfl, trivial⟩, ⟨?_, by show k + 1 ≤ _; omega⟩, by show _ - (k + 1) < _ - k; omega⟩
      · show Value.slice A' ((b ++ List.replicate k (120 : Int)).length + 1) c' = Value.slice A' (b ++ List.replicate (k + 1) (120 : Int)).length c'
        rw [e2]
      · show Hp w _ [] [rowB (.slice A' (b ++ List.replicate (k + 1) (120 : Int)).length c') (b ++ List.replicate (k + 1) (120 : Int))]
        unfold rowB
        rw [e2, e1]
        have e3 : nums .u8 ((b ++ List.replicate k (120 : Int)) ++ [120]) = nums .u8 (b ++ List.replicate k 120) ++ [.int .u8 120] := by rw [nums_append]; rfl
        rw [e3]
        exact H
    · repeat' (first | (first | (with_reducible refine p_tn ?_) | (with_reducible refine p_tx ?_) | (with_reducible refine x_hit ?_) | (with_reducible refine wp_seq ?_) | (with_reducible refine w_reg ?_) | (with_reducible (refine is_if ?_; (refine w_iff rfl ?_))) | (with_reducible refine wp_exit ?_) | (with_reducible refine wp_ret ?_)) | (first | (with_reducible refine l_nil ?_) | ((with_reducible refine g_on ?_); (first | ((with_reducible refine g_mv ?_); refine l_p txs rfl rfl ?_) | ((with_reducible refine g_as ?_); refine l_p txs rfl rfl ?_) | ((with_reducible refine g_pk ?_); refine l_p txs rfl rfl ?_)))))
      refine end1 rfl rfl ?_
      obtain ⟨A', c', e1, e2⟩ := fin (by unfold padN; split <;> omega)
      exact ⟨A', c', by rw [e1], e2⟩
  · repeat' (first | (first | (with_reducible refine p_tn ?_) | (with_reducible refine p_tx ?_) | (with_reducible refine x_hit ?_) | (with_reducible refine wp_seq ?_) | (with_reducible refine w_reg ?_) | (with_reducible (refine is_if ?_; (refine w_iff rfl ?_))) | (with_reducible refine wp_exit ?_) | (with_reducible refine wp_ret ?_)) | (first | (with_reducible refine l_nil ?_) | ((with_reducible refine g_on ?_); (first | ((with_reducible refine g_mv ?_); refine l_p txs rfl rfl ?_) | ((with_reducible refine g_as ?_); refine l_p txs rfl rfl ?_) | ((with_reducible refine g_pk ?_); refine l_p txs rfl rfl ?_))) | ((with_reducible refine g_if ?_); (refine l_off rfl ?_))))
    refine end1 rfl rfl ?_
    obtain ⟨A', c', e1, e2⟩ := fin (by unfold padN; split <;> omega)
    exact ⟨A', c', by rw [e1], e2⟩
def knownB : L := [80, 85, 84, 32, 47, 97, 32, 72, 84, 84, 80, 47, 49, 46, 49, 13, 10, 72, 111, 115, 116, 58, 32, 98, 13, 10, 67, 111, 110, 116, 101, 110, 116, 45, 76, 101, 110, 103, 116, 104, 58, 32, 50, 13, 10, 13, 10, 104, 105, 33]
theorem known_parse : parseReqS knownB = .ok (⟨[80, 85, 84], [47, 97], 1, [([72, 111, 115, 116], [98]), ([67, 111, 110, 116, 101, 110, 116, 45, 76, 101, 110, 103, 116, 104], [50])], [104, 105], false⟩, 49) := by kernel_rfl
theorem info_u8a : (Tryz.prog.info? 5).map (·.size) = some 1 := by kernel_rfl
theorem info_u8b : ((Tryz.prog.info? 5).bind (·.zero)).isSome = true := by kernel_rfl
set_option maxRecDepth 100000 in
set_option maxHeartbeats 8000000 in
theorem known_c {A : Nat → Addr} {w : World} (hE : LayS A w) {mx : Int} (hM : w.cell? ⟨20, 0, none⟩ = some (.int .i64 mx)) {tM : TypeId} {frM : Nat × Nat} (hT : w.heap[17]? = some (.cells meC tM frM)) :
    Calls Tryz.prog 13 #[] w fun e w' => e = .returned (.bool true) ∧ Below w.heap.size w w' := by
  have hTb : ∀ w1, Below w.heap.size w w1 → w1.heap[17]? = some (.cells meC tM frM) := fun w1 K => (K.block _ (blk_lt hT)).trans hT
  refine enter (args := []) Tryz.func13 rfl Tryz.ntmps13 rfl ?_
  have H := Hp.nil w
  repeat' (first | (first | (with_reducible refine p_tn ?_) | (with_reducible refine wp_seq ?_) | (with_reducible refine w_reg ?_)) | (first | (with_reducible refine l_nil ?_) | ((with_reducible refine g_on ?_); ((with_reducible refine g_as ?_); refine l_p txs rfl rfl ?_))))
  refine h_bytes H knownB Tryz.underlying23 Tryz.underlying5 info_u8a info_u8b rfl (by decide) (by decide) (by kernel_rfl) rfl (fun g_ w_ H hR => ?_)
  have hcall := ParseRequest_c (hE.below H.B) (H.old hM) (hTb _ H.B) (b := knownB) (c := 50) hR (by decide) (fun e => by cases e) (by unfold Bytes; decide) (by decide)
  (with_reducible refine is_l ?_); refine l_call rfl rfl (by kernel_rfl) hcall (fun e w_ hR => ?_)
  unfold PrR at hR
  rw [known_parse] at hR
  obtain ⟨Bf, cf, Bb, cb, rfl, K⟩ := hR
  refine ⟨_, rfl, ?_⟩
  have H := H.join K
  have O1 := H.row 1 _ rfl
  repeat' (first | (first | (with_reducible refine p_tn ?_) | (with_reducible refine wp_seq ?_) | (with_reducible refine w_reg ?_)) | (first | (with_reducible refine l_nil ?_) | ((with_reducible refine g_on ?_); (first | ((with_reducible refine g_mv ?_); refine l_p txs rfl rfl ?_) | ((with_reducible refine g_as ?_); refine l_p txs rfl rfl ?_) | ((with_reducible refine g_ex ?_); refine l_p txs rfl rfl ?_) | ((with_reducible refine g_st ?_); (refine h_stR recs H 0 rfl rfl rfl rfl rfl rfl rfl rfl rfl (fun w_ H => ?_))) | ((with_reducible refine g_al ?_); refine h_alloc recs H rfl rfl (fun g_ w_ H => ?_))))))
  (with_reducible refine is_l ?_); refine l_t txs rfl rfl (fun _ => ?_) (fun hh => absurd rfl hh)
  repeat' (first | ((with_reducible refine g_on ?_); ((with_reducible refine g_mv ?_); refine l_p txs rfl rfl ?_)) | ((with_reducible refine g_if ?_); ((with_reducible refine g_mv ?_); refine l_p txs rfl rfl ?_)))
  (with_reducible refine is_l ?_); refine l_t txs rfl rfl (fun _ => ?_) (fun hh => absurd rfl hh)
  repeat' (first | ((with_reducible refine g_on ?_); (first | ((with_reducible refine g_mv ?_); refine l_p txs rfl rfl ?_) | ((with_reducible refine g_pk ?_); refine l_p txs rfl rfl ?_))) | ((with_reducible refine g_if ?_); (first | ((with_reducible refine g_fa ?_); refine h_fa flds rfl rfl ?_) | ((with_reducible refine g_ld ?_); (refine h_ld txs H 0 rfl rfl rfl rfl ?_)))))
  (with_reducible refine is_l ?_); refine l_t txs rfl rfl (fun _ => ?_) (fun hh => absurd rfl hh)
  repeat' (first | ((with_reducible refine g_on ?_); (first | ((with_reducible refine g_mv ?_); refine l_p txs rfl rfl ?_) | ((with_reducible refine g_pk ?_); refine l_p txs rfl rfl ?_))) | ((with_reducible refine g_if ?_); (first | ((with_reducible refine g_fa ?_); refine h_fa flds rfl rfl ?_) | ((with_reducible refine g_ld ?_); (refine h_ld txs H 0 rfl rfl rfl rfl ?_)))))
  (with_reducible refine is_l ?_); refine l_t txs rfl rfl (fun _ => ?_) (fun hh => absurd rfl hh)
  repeat' (first | ((with_reducible refine g_on ?_); (first | ((with_reducible refine g_mv ?_); refine l_p txs rfl rfl ?_) | ((with_reducible refine g_pk ?_); refine l_p txs rfl rfl ?_))) | ((with_reducible refine g_if ?_); (first | ((with_reducible refine g_fa ?_); refine h_fa flds rfl rfl ?_) | ((with_reducible refine g_ld ?_); (refine h_ld txs H 0 rfl rfl rfl rfl ?_)))))
  (with_reducible refine is_l ?_); refine l_t txs rfl rfl (fun _ => ?_) (fun hh => absurd rfl hh)
  repeat' (first | ((with_reducible refine g_on ?_); (first | ((with_reducible refine g_mv ?_); refine l_p txs rfl rfl ?_) | ((with_reducible refine g_pk ?_); refine l_p txs rfl rfl ?_))) | ((with_reducible refine g_if ?_); (first | ((with_reducible refine g_fa ?_); refine h_fa flds rfl rfl ?_) | ((with_reducible refine g_ld ?_); (refine h_ld txs H 0 rfl rfl rfl rfl ?_)) | ((with_reducible refine g_cl ?_); refine l_p txs rfl rfl ?_))))
  (with_reducible refine is_l ?_); refine l_t txs rfl rfl (fun _ => ?_) (fun hh => absurd rfl hh)
  repeat' (first | ((with_reducible refine g_on ?_); (first | ((with_reducible refine g_mv ?_); refine l_p txs rfl rfl ?_) | ((with_reducible refine g_pk ?_); refine l_p txs rfl rfl ?_))) | ((with_reducible refine g_if ?_); (first | ((with_reducible refine g_fa ?_); refine h_fa flds rfl rfl ?_) | ((with_reducible refine g_ld ?_); (refine h_ld txs H 0 rfl rfl rfl rfl ?_)))))
  obtain ⟨A3, c3, e3, _, R3⟩ := own_reads_of_le (enc := Value.int .u8) (d := (0 : Int)) (xs := [104, 105]) (H.row 1 _ rfl)
  cases e3
  (with_reducible refine is_l ?_); refine l_text rfl rfl Tryz.underlying23 Tryz.underlying5 Tryz.underlying9 (readsInt_of.2 R3) ?_
  skip
  (with_reducible refine is_l ?_); refine l_t txs rfl rfl (fun _ => ?_) (fun hh => absurd rfl hh)
  repeat' (first | (first | (with_reducible refine p_tn ?_) | (with_reducible refine wp_ret ?_)) | (first | (with_reducible refine l_nil ?_) | ((with_reducible refine g_on ?_); (first | ((with_reducible refine g_mv ?_); refine l_p txs rfl rfl ?_) | ((with_reducible refine g_as ?_); refine l_p txs rfl rfl ?_) | ((with_reducible refine g_pk ?_); refine l_p txs rfl rfl ?_))) | ((with_reducible refine g_if ?_); (first | ((with_reducible refine g_fa ?_); refine h_fa flds rfl rfl ?_) | ((with_reducible refine g_ld ?_); (refine h_ld txs H 0 rfl rfl rfl rfl ?_)) | ((with_reducible refine g_un ?_); (refine l_p txs rfl rfl ?_))))))
  refine end1 rfl rfl ?_
  exact ⟨rfl, H.B⟩
end Go.Proofs.YthgojbdpmcccaaaGreatDoor.K
end
section
namespace Go.Proofs.YthgojbdpmcccaaaGreatDoor.Wb
set_option linter.unusedVariables false
set_option linter.unusedSimpArgs false
theorem cut_code {tl : Nat} {b : L} {k : Nat} (htl : tl ≠ 0) (h : cutS tl b = .error k) : k ≠ 0 := by
  unfold cutS at h
  split at h
  · split at h <;> (simp only [Except.error.injEq] at h; omega)
  · split at h
    · simp only [Except.error.injEq] at h; omega
    · split at h
      · split at h <;> (simp only [Except.error.injEq] at h; omega)
      · split at h
        · simp only [Except.error.injEq] at h; omega
        · cases h
theorem frame_code {l : List Fld} {v : Int} {k : Nat} (h : frameS l v = .error k) : k ≠ 0 := by
  unfold frameS at h
  split at h
  · split at h
    · cases h
    · split at h
      · simp only [Except.error.injEq] at h; omega
      · split at h
        · simp only [Except.error.injEq] at h; omega
        · cases h
    · simp only [Except.error.injEq] at h; omega
  · split at h
    · simp only [Except.error.injEq] at h; omega
    · cases h
  · simp only [Except.error.injEq] at h; omega
end Go.Proofs.YthgojbdpmcccaaaGreatDoor.Wb
end
section
namespace Go.Proofs.YthgojbdpmcccaaaGreatDoor.K
open Go.RowKit Go.Proofs.YthgojbdpmcccaaaGreatDoor.Q Go.Proofs.YthgojbdpmcccaaaGreatDoor.Wb Go.Proofs.YthgojbdpmcccaaaGreatDoorW.PrintWords
set_option linter.unusedVariables false
set_option linter.unusedSimpArgs false
def zR : ReqS := ⟨[], [], 0, [], [], false⟩
/-- What is answered, an error as a number. -/
def outReq (b : L) : ReqS × Nat × Nat := match parseReqS b with | .ok (r, n) => (r, n, 0) | .error k => (zR, 0, k)
abbrev rowsR (F : Option Addr) (f : Nat) (l : List Fld) (B : Option Addr) (c : Nat) (b : L) : List RowD := [rowF (.slice F l.length f) l, rowB (.slice B b.length c) b]
theorem prR_out {w : World} {b : L} {e : Ending} {w' : World} (h : PrR w b e w') : ∃ F f B c, e = .returned (.tuple #[.agg (reqA (outReq b).1 F f B c), .int .i64 ((outReq b).2.1 : Int), .int .i64 ((outReq b).2.2 : Int)]) ∧ Hp w w' [] (rowsR F f (outReq b).1.fields B c (outReq b).1.body) := by
  unfold PrR at h
  unfold outReq
  cases hp : parseReqS b with
  | error k =>
    rw [hp] at h
    obtain ⟨rfl, H⟩ := h
    exact ⟨none, 0, none, 0, rfl, ((H.nilRow 5 1).nilRow 95 2).pick [] [0, 1] (by decide) (by decide) rfl rfl⟩
  | ok z =>
    obtain ⟨r, n⟩ := z
    rw [hp] at h
    obtain ⟨F, f, B, c, rfl, H⟩ := h
    exact ⟨F, f, B, c, rfl, H⟩
theorem outReq_bytes {b : L} (hb : Bytes b) (hs : b.length ≤ 2000000000000) : BytesF (outReq b).1.fields ∧ (outReq b).1.fields.length ≤ 64 := by
  unfold outReq
  cases hp : parseReqS b with
  | error k => exact ⟨fun _ h => (by cases h), by simp [zR]⟩
  | ok z =>
    obtain ⟨r, n⟩ := z
    unfold parseReqS at hp
    cases hc : cutS 147 b with
    | error e => rw [hc] at hp; cases hp
    | ok y =>
      obtain ⟨first, ls, rest⟩ := y
      have hcb := cut_bytes hb hs hc
      rw [hc] at hp
      simp only at hp
      split at hp
      · cases hp
      · split at hp
        · cases hp
        · rename_i l hl
          have := fieldsE_bytes hcb.2.2.1 hl
          split at hp
          · cases hp
          · split at hp
            · cases hp
            · split at hp
              · cases hp
              · simp only [Except.ok.injEq, Prod.mk.injEq] at hp
                obtain ⟨rfl, _⟩ := hp
                exact this
theorem rowF_rd {w0 w : World} {l : List Ent} {r : List RowD} (H : Hp w0 w l r) (k : Nat) {F : Option Addr} {f : Nat} {x : List Fld} (hk : r[k]? = some (rowF (.slice F x.length f) x)) : Rd w F (fldC x) := by
  obtain ⟨A0, c0, he, _, hr, _⟩ := H.rd k hk
  cases he
  exact hr
theorem rowB_rd {w0 w : World} {l : List Ent} {r : List RowD} (H : Hp w0 w l r) (k : Nat) {F : Option Addr} {f : Nat} {x : L} (hk : r[k]? = some (rowB (.slice F x.length f) x)) : ReadsInt w .u8 F x.length x ∧ x.length ≤ f ∧ (F = none → f = 0 ∧ x.length = 0) := by
  obtain ⟨A0, c0, he, hle, hr, hn⟩ := H.rd k hk
  cases he
  obtain ⟨A3, c3, e3, _, R3⟩ := own_reads_of_le (enc := Value.int .u8) (d := (0 : Int)) (xs := x) (H.row k _ hk)
  cases e3
  exact ⟨readsInt_of.2 R3, hle, hn⟩
end Go.Proofs.YthgojbdpmcccaaaGreatDoor.K
end
section
namespace Go.Proofs.YthgojbdpmcccaaaGreatDoor.K
open Go.RowKit Go.Proofs.YthgojbdpmcccaaaGreatDoor.Q Go.Proofs.YthgojbdpmcccaaaGreatDoor.Wb Go.Proofs.YthgojbdpmcccaaaGreatDoorW.PrintWords
set_option linter.unusedVariables false
set_option linter.unusedSimpArgs false
abbrev TabP (w : World) : Prop := ∀ w', Below w.heap.size w w' → Lib.TabIs Tryz.prog w' "internal/strconv.uint64pow10" .u64 Lib.pow10Tab
theorem TabP.below {w w' : World} (h : TabP w) (hb : Below w.heap.size w w') : TabP w' := fun w2 K => h w2 (Bt hb K)
theorem fldC_snoc (l : List Fld) (a : L) (b : L) : fldC (l ++ [(a, b)]) = fldC l ++ [.string (strOfNums a), .string (strOfNums b)] := by simp [fldC]
end Go.Proofs.YthgojbdpmcccaaaGreatDoor.K
end
section
namespace Go.Proofs.YthgojbdpmcccaaaGreatDoor.K
open Go.RowKit Go.Proofs.YthgojbdpmcccaaaGreatDoor.Q Go.Proofs.YthgojbdpmcccaaaGreatDoor.Wb Go.Proofs.YthgojbdpmcccaaaGreatDoorW.PrintWords
set_option linter.unusedVariables false
set_option linter.unusedSimpArgs false
section
variable {P : Program} {n : Nat} {ops : Array Oper} {Q : Exit → Act → World → Prop} {rest : List Oper} {f : Fr} {w w0 : World} {d : Option Nat} {op : Op} {tt : TypeId} {ps : String} {af : Array Edge} {gd : Option (Nat × Bool)} {l l' : List Ent} {r : List RowD}
theorem append_string_block (base : Nat) (t u ty e : TypeId) (i : TypeInfo) (ht : P.underlying t = some (.slice e)) (hu : P.underlying u = some .string) (hi : P.info? e = some i) (hz : i.zero = some (.int .u8 0)) (hsize : i.size = 1) (hby : i.bytes = 1)
    (v : Value) (m : Nat) (xs : List Value) (hown : w.ownsRow base e 1 v m xs) (s : ByteArray) (hbytes : m + s.size ≤ 140737488355328) {v' : Value} {w' : World} (hr : (Builtin.append_ #[t, u] ty #[v, .string s]).run P w = .ok v' w') :
    v'.ownBlock = v.ownBlock ∨ v'.ownBlock = some w.heap.size := by
  have hxl : xs.length = m := by simpa using hown.1
  rcases hown.2 with ⟨rfl, rfl⟩ | ⟨g, cap, cur, rfl, hbg, hg, hnc, hcm, hcs, htake⟩
  · by_cases hm : s.size = 0
    · have hf := Lib.run_firstCells_string (P := P) w 1 s
      rw [hm] at hf
      have h2 : (Builtin.append_ #[t, u] ty #[.slice none 0 0, .string s]).run P w = .ok (.slice none 0 0) w := by
        simp [Builtin.append_, run_underlying ht, run_underlying hu, sizeOf, typeInfo, hi, hsize, Builtin.lenOf, hm, hf]
      have := hr.symm.trans h2
      injection this with e1 _
      subst e1
      exact .inl rfl
    · have h2 := run_append_nil_string (P := P) w t u ty e i (.int .u8 0) ht hu hi hz s (by omega) (by omega) (by rw [hby]; omega)
      have := hr.symm.trans h2
      injection this with e1 _
      subst e1
      exact .inr rfl
  · by_cases hroom : m + s.size ≤ cap
    · have hcs' : cur.size = cap := by simpa using hcs
      have h2 := Lib.run_append_room_string (P := P) w t u ty e i ht hu hi hsize g m cap cur hg s hroom (by omega)
      have := hr.symm.trans h2
      injection this with e1 _
      subst e1
      exact .inl rfl
    · have holds : ∀ j u, xs[j]? = some u → w.cell? ((⟨g, 0, none⟩ : Addr).add j) = some u := hown.cells (g := g) rfl
      have h2 := Lib.run_append_grow_string (P := P) w t u ty e i (.int .u8 0) ht hu hi hz ⟨g, 0, none⟩ m cap xs (by rw [hsize]; simpa using hxl) holds s (by omega) (by omega) (by rw [hby]; exact growslice_fits (by omega) (by omega))
      have := hr.symm.trans h2
      injection this with e1 _
      subst e1
      exact .inr rfl
theorem h_appS (H : Hp w0 w l r) (k : Nat) {t u e : TypeId} {v0 : Value} {xs : L} {s : ByteArray} {x y : Operand} (hinfo : (P.info? e).map (fun i => (i.zero, i.size, i.bytes)) = some (some (.int .u8 0), 1, 1)) (ht : P.underlying t = some (.slice e)) (hu : P.underlying u = some .string)
    (hk : r[k]? = some ⟨v0, e, 1, xs.length, nums .u8 xs⟩) (hx : nf (X n f x) = some v0) (hy : nf (X n f y) = some (.string s)) (hl : xs.length + s.size ≤ 140737488355328)
    (h : ∀ v w', (∃ A' c', v = .slice A' (xs ++ bl s).length c') → Hp w0 w' l (r.set k ⟨v, e, 1, (xs ++ bl s).length, nums .u8 (xs ++ bl s)⟩) → WL P ops Q rest (act n (put f d v)) w') : WL P ops Q (⟨d, .call { callee := .builtin .append, args := #[x, y], argTypes := #[t, u] }, tt, ps, af, none⟩ :: rest) (act n f) w := by
  obtain ⟨i0, hi, hzz⟩ := Option.map_eq_some_iff.1 hinfo
  simp only [Prod.mk.injEq] at hzz
  obtain ⟨hz0, hz1, hz2⟩ := hzz
  have HO := H.row k _ hk
  obtain ⟨v1, w1, hr, hown, hg, _⟩ := Lib.run_append_own_string (P := P) w w0.heap.size t u tt e i0 ht hu hi hz0 hz1 hz2 v0 xs.length (nums .u8 xs) HO s (by simp only [maxLen]; omega) hl H.B.size
  have hat := append_string_block (P := P) w0.heap.size t u tt e i0 ht hu hi hz0 hz1 hz2 v0 xs.length (nums .u8 xs) HO s hl hr
  have hlen : xs.length + s.size = (xs ++ bl s).length := by rw [List.length_append, bl_length]
  have hc : nums .u8 xs ++ Lib.strCells s = nums .u8 (xs ++ bl s) := by
    rw [nums_append]
    congr 1
    simp [nums, bl, Lib.strCells]
  rw [hlen, hc] at hown
  have H1 := H.put (d' := ⟨v1, e, 1, (xs ++ bl s).length, nums .u8 (xs ++ bl s)⟩) k hk hg hown (by
    rcases hat with hat | hat
    · exact .inl hat
    · exact .inr ⟨_, hat, Nat.le_refl _⟩)
  obtain ⟨A', c', hv⟩ := own_slice hown
  have hx' := nf_eq hx
  have hy' := nf_eq hy
  refine ⟨?_⟩
  refine wpList_plain rfl fun K hK => ?_
  unfold Oper.wp execOp
  rw [eval_act]
  simp only [resolve, invoke, builtin, Sem.run_bind, Sem.run_pure, Result.andThen_ok, List.map_toArray, List.map_cons, List.map_nil, ← hx', ← hy', hr]
  refine hK _ _ ?_
  rw [put_act]
  exact (h v1 w1 ⟨A', c', hv⟩ H1).out
end
end Go.Proofs.YthgojbdpmcccaaaGreatDoor.K
end
section
namespace Go.Proofs.YthgojbdpmcccaaaGreatDoor.K
open Go.RowKit Go.Proofs.YthgojbdpmcccaaaGreatDoor.Q Go.Proofs.YthgojbdpmcccaaaGreatDoor.Wb Go.Proofs.YthgojbdpmcccaaaGreatDoorW.PrintWords
set_option linter.unusedVariables false
set_option linter.unusedSimpArgs false
theorem l_cvb {P : Program} {n : Nat} {ops : Array Oper} {Q : Exit → Act → World → Prop} {rest : List Oper} {f : Fr} {w : World} {d : Option Nat} {tt : TypeId} {ps : String} {af : Array Edge} {gd : Option (Nat × Bool)} {src dst e : TypeId} {x : Operand} {s : ByteArray} {u : TypeDesc}
    (hs : P.underlying src = some u) (hd : P.underlying dst = some (.slice e)) (he : P.underlying e = some (.int .u8)) (hw : want n ops f ⟨d, .convert src dst x, tt, ps, af, gd⟩ = true) (hx : nf (X n f x) = some (.string s))
    (h : WL P ops Q rest (act n (put f d (.slice (some ⟨w.heap.size, 0, none⟩) s.size (grownCap w s.size 0 e)))) (Lib.bytesWorld w e s)) : WL P ops Q (⟨d, .convert src dst x, tt, ps, af, gd⟩ :: rest) (act n f) w := by
  have hx' := nf_eq hx
  have hr := Lib.run_convert_string_bytes (P := P) w src dst e s hs hd he
  refine h_valw hw ?_ h
  unfold execOp
  simp [← hx', hr]
end Go.Proofs.YthgojbdpmcccaaaGreatDoor.K
end
section
namespace Go.Proofs.YthgojbdpmcccaaaGreatDoor.Q
open Go.RowKit Go.Proofs.YthgojbdpmcccaaaGreatDoorW.PrintWords Go.Proofs.YthgojbdpmcccaaaGreatDoorW.PrintLast
set_option linter.unusedVariables false
set_option linter.unusedSimpArgs false
section
variable {P : Program} {n : Nat} {ops : Array Oper} {Q : Exit → Act → World → Prop} {S : World → Prop} {ds : List Nat} {f : Fr} {w : World}
theorem e_start {id m : Nat} {a : Act} (S : World → Prop) (ds : List Nat) (l : Array Bool) (hm : P.follows .mixedOrders = true) (hn : ops.size = m) (hl : Array.replicate m false = l) (hS : S w.drew)
    (h : WA P .any ops Q S ds m l a w.drew) : (Code.region id ops true).wp P Q a w := start_ l hm hn hl hS (fun _ => h.out)
theorem e_pure {i fuel : Nat} {l : Array Bool} {o : Oper} {v : Value} (l' : Array Bool) (hi : ops[i]? = some o) (hc : anyB .any ops l l' i = true) (hQ : ∀ c a w, Q (.panic c) (a.put o.dst v) w → Q (.panic c) a w)
    (hw : want n ops f o = true) (hv : ∀ w, (execOp (X n f) o).run P w = .ok (.value v) w) (h : WA P .any ops Q S ds fuel l' (act n (put f o.dst v)) w) : WA P .any ops Q S ds (fuel + 1) l (act n f) w :=
  ⟨pure_ l' hi rfl hc hQ (Or.inl ⟨by rw [want_eq]; exact hw, fun w => by rw [eval_act]; exact hv w⟩) (put_act n f _ v) h.out⟩
theorem e_take {i fuel : Nat} {l : Array Bool} {o : Oper} {v : Value} (l' : Array Bool) (hi : ops[i]? = some o) (hc : takeB .any ops ds l l' i = true) (hQ : ∀ c a w, Q (.panic c) (a.put o.dst v) w → Q (.panic c) a w)
    (hw : want n ops f o = true) (hv : ∀ w, S w → (execOp (X n f) o).run P w = .ok (.value v) w) (hS : S w) (h : WA P .any ops Q S ds fuel l' (act n (put f o.dst v)) w) : WA P .any ops Q S ds (fuel + 1) l (act n f) w :=
  ⟨take_ l' hi rfl hc hQ (Or.inl ⟨by rw [want_eq]; exact hw, fun w hS => by rw [eval_act]; exact hv w hS⟩) hS (put_act n f _ v) h.out⟩
theorem e_one {i fuel : Nat} {l : Array Bool} {o : Oper} (l' : Array Bool) (hi : ops[i]? = some o) (hc : readyB .any ops l l' i = true) (hd : i ∉ ds) (hw : want n ops f o = true)
    (h : WL P ops (fun ex a' w' => ex = .normal ∧ S w' ∧ WA P .any ops Q S ds fuel l' a' w') [o] (act n f) w) : WA P .any ops Q S ds (fuel + 1) l (act n f) w := by
  have h := h.out
  refine ⟨?_⟩
  refine one_ l' hi rfl hc hd (fun K hK => ?_)
  have hw' : Region.wanted o (yielded ops (act n f).tmps) = true := by rw [want_eq]; exact hw
  rw [if_pos hw']
  simp only [wpList, hw', if_true] at h
  rcases h with h | ⟨_, _, _, h, _⟩
  · refine Oper.wp_mono (fun a' w' hk => hK.out a' w' hk.1 (fun _ => hk.2.out)) (wp_of_normal (K := fun a' w' => S w' ∧ WA P .any ops Q S ds fuel l' a' w') ?_)
    exact Oper.wp_mono (fun a' w' hk => hk.2) h
  · cases h
theorem e_last {i fuel : Nat} {l : Array Bool} {o : Oper} (l' : Array Bool) (hi : ops[i]? = some o) (hc : readyB .any ops l l' i = true) (hd : i ∈ ds) (hw : want n ops f o = true)
    (h : WL P ops (fun ex a' w' => ex = .normal ∧ WA P .any ops Q S ds fuel l' a' w') [o] (act n f) w) : WA P .any ops Q S ds (fuel + 1) l (act n f) w := by
  have h := h.out
  refine ⟨?_⟩
  refine last_ l' hi rfl hc hd (fun K hK => ?_)
  have hw' : Region.wanted o (yielded ops (act n f).tmps) = true := by rw [want_eq]; exact hw
  rw [if_pos hw']
  simp only [wpList, hw', if_true] at h
  rcases h with h | ⟨_, _, _, h, _⟩
  · refine Oper.wp_mono (fun a' w' hk => hK.out a' w' hk.out) (wp_of_normal (K := fun a' w' => WA P .any ops Q S ds fuel l' a' w') ?_)
    exact Oper.wp_mono (fun a' w' hk => hk.2) h
  · cases h
theorem e_done {l : Array Bool} {m : Nat} {a : Act} (hr : (Region.ready .any ops l == []) = true) (h : Q .normal a w) : WA P .any ops Q S ds m l a w := ⟨done_ hr h⟩
end
end Go.Proofs.YthgojbdpmcccaaaGreatDoor.Q
end
section
namespace Go.Proofs.YthgojbdpmcccaaaGreatDoor.Op
open Go.ChangeShapes Go.WideShapes Go.ChangeAt Go.RowKit
open Go.Proofs.YthgojbdpmcccaaaGreatDoor.K Go.Proofs.YthgojbdpmcccaaaGreatDoor.Q Go.Proofs.YthgojbdpmcccaaaGreatDoor.Wb Go.Proofs.YthgojbdpmcccaaaGreatDoor.LaidF Go.Proofs.YthgojbdpmcccaaaGreatDoorW.PrintWords
set_option linter.unusedVariables false
set_option linter.unusedSimpArgs false
theorem part_le {H : Type} {d : DataW H} {l : List (DataW H)} (h : d ∈ l) : Rows.uptoBulk d ≤ Rows.uptoBulkAll l := by
  induction l with
  | nil => cases h
  | cons x r ih =>
    simp only [Rows.uptoBulkAll]
    cases List.mem_cons.1 h with
    | inl e => subst e; omega
    | inr e => have := ih e; omega
theorem lits_le {H : Type} (k : IntKind) : ∀ l : List Int, l.length ≤ Rows.uptoBulkAll (lits (H := H) k l)
  | [] => by simp [lits, Rows.uptoBulkAll]
  | x :: l => by
    have h := lits_le (H := H) k l
    have e : Rows.uptoBulkAll (lits (H := H) k (x :: l)) = 1 + Rows.uptoBulkAll (lits (H := H) k l) := by simp only [lits, List.map_cons, Rows.uptoBulkAll, Rows.uptoBulk]
    rw [e]
    simp only [List.length_cons]
    omega
section
variable {H : Type} {enc : TypeId × Value → H} {W : World} {fuel : Nat} {cs : List Value} {x : DataW H × List MemPlace}
set_option maxRecDepth 100000 in
theorem bytes_in (hf : DataW.trod enc Tryz.prog W 0 (fun _ => true) true fuel 23 cs = some x) :
    ∃ (A : Option Addr) (c : Nat) (l : L), cs = [.slice A l.length c] ∧ l.length ≤ c ∧ ReadsInt W .u8 A l.length l ∧ l.length ≤ Rows.uptoBulk x.1 ∧ Bytes l ∧ (A = none → c = 0 ∧ l.length = 0) := by
  rcases open_ints Tryz.underlying23 Tryz.underlying5 (by kernel_rfl) hf with ⟨rfl, hx⟩ | ⟨a, len, cap, ss, rfl, _, hl, hm, hz, rfl, hcell, hwf⟩
  · exact ⟨none, 0, [], rfl, Nat.le_refl _, ⟨rfl, by simp, fun h => absurd h (Nat.lt_irrefl 0)⟩, by simp, (fun _ h => by cases h), fun _ => ⟨rfl, rfl⟩⟩
  · simp only [if_true] at hz
    have hlen : (ss.take len).length = len := by rw [List.length_take]; omega
    have h1 := lits_le (H := H) .u8 (ss.take len)
    have hb : Rows.uptoBulk (.slice (lits (H := H) .u8 (ss.take len)) (lits .u8 (ss.drop len))) = Rows.uptoBulkAll (lits (H := H) .u8 (ss.take len)) + Rows.uptoBulkAll (lits (H := H) .u8 (ss.drop len)) + 1 := by simp only [Rows.uptoBulk]
    refine ⟨some a, cap, ss.take len, by rw [hlen], by omega, ⟨rfl, by rw [hlen]; simp only [maxLen] at hm; omega, fun _ => ⟨a, rfl, fun j hj => ?_⟩⟩, by rw [hb]; omega, fun y hy => bounds_u8 (hwf y (List.mem_of_mem_take hy)), fun h => by cases h⟩
    rw [hcell j (by omega)]
    congr 2
    rw [List.getD_eq_getElem?_getD, List.getD_eq_getElem?_getD, List.getElem?_take_of_lt (by omega)]
set_option maxRecDepth 100000 in
theorem open_bytes {base : Nat} {v : Value} {d : DataW H} {ps : List MemPlace} (hval : Value.okWide Tryz.prog W .any base 23 v) (h : DataW.Trod enc Tryz.prog W 0 (fun _ => true) true 23 v d ps) :
    ∃ (A : Option Addr) (c : Nat) (l : L), v = .slice A l.length c ∧ l.length ≤ c ∧ ReadsInt W .u8 A l.length l ∧ l.length ≤ Rows.uptoBulk d ∧ Bytes l ∧ (A = none → c = 0 ∧ l.length = 0) := by
  obtain ⟨a, len, cap, rfl⟩ := okWide_slice Tryz.underlying23 hval
  obtain ⟨fuel, hf⟩ := h
  obtain ⟨A, c, l, h1, h2⟩ := bytes_in hf
  refine ⟨A, c, l, ?_, h2⟩
  have h3 : (Value.slice a len cap).cells.toList = [Value.slice a len cap] := rfl
  rw [h3] at h1
  exact (List.cons.inj h1).1
/-- A request in plain data, opened. -/
structure ReqIn (W : World) (k : Nat) where
  m : L
  t : L
  mi : Int
  ns : List L
  vs : List L
  body : L
  pad : Int
  NB : Option Addr
  nc : Nat
  VB : Option Addr
  vc : Nat
  BB : Option Addr
  bc : Nat
  hm : Bytes m ∧ m.length ≤ k
  ht : Bytes t ∧ t.length ≤ k
  hmi : -9223372036854775808 ≤ mi ∧ mi ≤ 9223372036854775807
  hn : Rd W NB (strC ns) ∧ ns.length ≤ k ∧ ∀ x ∈ ns, Bytes x ∧ x.length ≤ k
  hvs : Rd W VB (strC vs) ∧ vs.length ≤ k ∧ ∀ x ∈ vs, Bytes x ∧ x.length ≤ k
  hb : ReadsInt W .u8 BB body.length body ∧ body.length ≤ bc ∧ body.length ≤ k ∧ Bytes body ∧ (BB = none → bc = 0 ∧ body.length = 0)
  hp : -9223372036854775808 ≤ pad ∧ pad ≤ 9223372036854775807
def ReqIn.val {W : World} {k : Nat} (R : ReqIn W k) : Value := .agg #[.string (strOfNums R.m), .string (strOfNums R.t), .int .i64 R.mi, .slice R.NB R.ns.length R.nc, .slice R.VB R.vs.length R.vc, .slice R.BB R.body.length R.bc, .int .i64 R.pad]
end
end Go.Proofs.YthgojbdpmcccaaaGreatDoor.Op
end
section
namespace Go.Proofs.YthgojbdpmcccaaaGreatDoor.K
open Go.RowKit Go.Proofs.YthgojbdpmcccaaaGreatDoor.Q Go.Proofs.YthgojbdpmcccaaaGreatDoor.Wb Go.Proofs.YthgojbdpmcccaaaGreatDoorW.PrintWords
set_option linter.unusedVariables false
set_option linter.unusedSimpArgs false
section
variable {P : Program} {ty : Nat → Option Ty} {n : Nat} {f : Fr} {w w0 : World} {ops : Array Oper} {Q : Exit → Act → World → Prop} {rest : List Oper} {d : Option Nat} {op : Op} {tt : TypeId} {ps : String} {af : Array Edge} {gd : Option (Nat × Bool)} {l : List Ent} {r : List RowD}
end
theorem info_str3 : (Tryz.prog.info? 9).map (fun i => (i.zero, i.size, i.bytes)) = some (some (.string ⟨#[]⟩), 1, 16) := by kernel_rfl
end Go.Proofs.YthgojbdpmcccaaaGreatDoor.K
end
section
namespace Go.Proofs.YthgojbdpmcccaaaGreatDoor.K
open Go.RowKit Go.Proofs.YthgojbdpmcccaaaGreatDoor.Q Go.Proofs.YthgojbdpmcccaaaGreatDoor.Wb Go.Proofs.YthgojbdpmcccaaaGreatDoorW.PrintWords
set_option linter.unusedVariables false
set_option linter.unusedSimpArgs false
section
variable {P : Program} {n : Nat} {ops : Array Oper} {Q : Exit → Act → World → Prop} {rest : List Oper} {f : Fr} {w w0 : World} {d : Option Nat} {op : Op} {tt : TypeId} {ps : String} {af : Array Edge} {gd : Option (Nat × Bool)} {l l' : List Ent} {r : List RowD}
theorem l_iaa {t e : TypeId} {m : Nat} {x y : Operand} {g : Nat} {k : IntKind} {j : Int} (ht : P.underlying t = some (.array m e)) (he : (P.info? e).map (·.size) = some 1) (hw : want n ops f ⟨d, .indexAddr t x y, tt, ps, af, gd⟩ = true) (hx : nf (X n f x) = some (.pointer (some ⟨g, 0, none⟩))) (hy : nf (X n f y) = some (.int k j)) (h0 : 0 ≤ j) (h1 : j < m)
    (h : WL P ops Q rest (act n (put f d (.pointer (some ⟨g, j.toNat, none⟩)))) w) : WL P ops Q (⟨d, .indexAddr t x y, tt, ps, af, gd⟩ :: rest) (act n f) w := by
  refine l_val hw ?_ h
  have hx' := nf_eq hx
  have hy' := nf_eq hy
  obtain ⟨i0, hi, hz⟩ := Option.map_eq_some_iff.1 he
  unfold execOp
  simp [go_sem, ← hx', ← hy', Instr.indexAt, run_underlying ht, sizeOf, typeInfo, hi, hz, h0, h1, Addr.add_lit]
end
end Go.Proofs.YthgojbdpmcccaaaGreatDoor.K
end
section
namespace Go.Proofs.YthgojbdpmcccaaaGreatDoor.K
open Go.RowKit Go.Proofs.YthgojbdpmcccaaaGreatDoor.Q Go.Proofs.YthgojbdpmcccaaaGreatDoor.Wb Go.Proofs.YthgojbdpmcccaaaGreatDoorW.PrintWords
set_option linter.unusedVariables false
set_option linter.unusedSimpArgs false
theorem low_take {l : L} {i : Nat} {x : Int} (h : l[i]? = some x) : lowS (l.take (i + 1)) = lowS (l.take i) ++ [lowB x] := by
  have hi : i < l.length := (List.getElem?_eq_some_iff.1 h).1
  have hx : l[i] = x := (List.getElem?_eq_some_iff.1 h).2
  unfold lowS
  rw [List.take_succ_eq_append_getElem hi, hx, List.map_append]
  rfl
theorem drop_blk {x : Int} {r : L} (h : blkB x = true) : (x :: r).dropWhile blkB = r.dropWhile blkB := by rw [List.dropWhile_cons, if_pos h]
theorem drop_nblk {x : Int} {r : L} (h : blkB x = false) : (x :: r).dropWhile blkB = x :: r := by rw [List.dropWhile_cons, if_neg (by rw [h]; decide)]
theorem trimR_blk {x : Int} {r : L} (h : blkB x = true) : trimR (r ++ [x]) = trimR r := by unfold trimR; rw [List.reverse_append]; show ((x :: r.reverse).dropWhile blkB).reverse = _; rw [drop_blk h]
theorem trimR_nblk {x : Int} {r : L} (h : blkB x = false) : trimR (r ++ [x]) = r ++ [x] := by unfold trimR; rw [List.reverse_append]; show ((x :: r.reverse).dropWhile blkB).reverse = _; rw [drop_nblk h]; simp
theorem cons_of {l : L} {x : Int} (h : l[0]? = some x) : l = x :: l.drop 1 := by cases l with
  | nil => simp at h
  | cons a r => simp at h; subst h; rfl
theorem snoc_of {l : L} {x : Int} {k : Nat} (h : l[k]? = some x) (hk : l.length = k + 1) : l = l.take k ++ [x] := by
  have h2 := List.take_succ_eq_append_getElem (l := l) (i := k) (by omega)
  rw [List.take_of_length_le (by omega)] at h2
  have hx : l[k] = x := (List.getElem?_eq_some_iff.1 h).2
  rw [hx] at h2
  exact h2
end Go.Proofs.YthgojbdpmcccaaaGreatDoor.K
end
section
namespace Go.Proofs.YthgojbdpmcccaaaGreatDoor.K
open Go.RowKit Go.Proofs.YthgojbdpmcccaaaGreatDoor.Q Go.Proofs.YthgojbdpmcccaaaGreatDoor.Wb Go.Proofs.YthgojbdpmcccaaaGreatDoorW.PrintWords
set_option linter.unusedVariables false
set_option linter.unusedSimpArgs false
theorem dropA {l : L} {i : Nat} (h : i < l.length) : l.drop i = at_ l (i : Int) :: l.drop (i + 1) := by
  rw [List.drop_eq_getElem_cons h]
  congr 1
  unfold at_
  rw [Int.toNat_natCast, List.getD_eq_getElem?_getD, List.getElem?_eq_getElem h]
  rfl
theorem rdigit_c (c : Int) (w : World) : Calls Tryz.prog 138 #[.int .u8 c] w fun e w' => e = .returned (.bool (digB c)) ∧ Below w.heap.size w w' := by
  refine enter (args := [.int .u8 c]) Tryz.func138 rfl Tryz.ntmps138 rfl ?_
  repeat' (first | (first | (with_reducible refine p_tn ?_) | (with_reducible refine wp_seq ?_) | (with_reducible refine w_reg ?_) | (with_reducible refine wp_ret ?_)) | (first | (with_reducible refine l_nil ?_) | (with_reducible (refine is_l ?_; (first | (refine l_off rfl ?_) | (refine l_p tys rfl rfl ?_) | (refine l_t tys rfl rfl (fun _ => ?_) (fun _ => ?_)))))))
  all_goals (refine end1 rfl rfl ?_; exact ⟨by simp [digB, *], Below.refl _ w⟩)
theorem rletter_c (c : Int) (w : World) : Calls Tryz.prog 137 #[.int .u8 c] w fun e w' => e = .returned (.bool (letB c)) ∧ Below w.heap.size w w' := by
  refine enter (args := [.int .u8 c]) Tryz.func137 rfl Tryz.ntmps137 rfl ?_
  repeat' (first | (first | (with_reducible refine p_tn ?_) | (with_reducible refine wp_seq ?_) | (with_reducible refine w_reg ?_) | (with_reducible refine wp_ret ?_)) | (first | (with_reducible refine l_nil ?_) | (with_reducible (refine is_l ?_; (first | (refine l_off rfl ?_) | (refine l_p tys rfl rfl ?_) | (refine l_t tys rfl rfl (fun _ => ?_) (fun _ => ?_)))))))
  all_goals (refine end1 rfl rfl ?_; exact ⟨by simp [letB, *] <;> omega, Below.refl _ w⟩)
set_option maxHeartbeats 2000000 in
theorem ramong_c (s : ByteArray) (c : Int) (w : World) (hs : s.size ≤ 2000000000000) : Calls Tryz.prog 139 #[.string s, .int .u8 c] w fun e w' => e = .returned (.bool ((bl s).contains c)) ∧ Below w.heap.size w w' := by
  refine enter (args := [.string s, .int .u8 c]) Tryz.func139 rfl Tryz.ntmps139 rfl ?_
  have hbl := bl_length s
  have H := Hp.nil w
  repeat' (first | (first | (with_reducible refine p_tn ?_) | (with_reducible refine wp_seq ?_) | (with_reducible refine wp_block ?_) | (with_reducible refine w_reg ?_)) | (first | (with_reducible refine l_nil ?_) | ((with_reducible refine g_on ?_); ((with_reducible refine g_as ?_); refine l_p txs rfl rfl ?_))))
  refine w_loop (σ := Nat) (S := fun i => [(0, .string s), (1, .int .u8 c), (5, .int .i64 (i : Int))]) (J := fun i w' => Hp w w' [] [] ∧ i ≤ s.size ∧ (bl s).contains c = ((bl s).drop i).contains c) (μ := fun i => s.size - i) 0 ⟨rfl, rfl, rfl, trivial⟩ ⟨H, by omega, rfl⟩ ?_
  rintro i f w_ ⟨H, hi, hD⟩
  repeat' (first | (first | (with_reducible refine wp_seq ?_) | (with_reducible refine w_reg ?_)) | ((with_reducible refine g_on ?_); (first | ((with_reducible refine g_mv ?_); refine l_p txs rfl rfl ?_) | ((with_reducible refine g_cl ?_); refine l_p txs rfl rfl ?_))))
  (with_reducible refine is_l ?_); refine l_t txs rfl rfl (fun hlt => ?_) (fun hge => ?_)
  · rw [dropA (by omega), List.contains_cons] at hD
    repeat' (first | (first | (with_reducible refine p_tn ?_) | (with_reducible refine wp_seq ?_) | (with_reducible refine wp_block ?_) | (with_reducible refine w_reg ?_) | (with_reducible (refine is_if ?_; (refine w_ift rfl ?_))) | (with_reducible refine wp_skip ?_)) | (first | (with_reducible refine l_nil ?_) | ((with_reducible refine g_on ?_); (first | ((with_reducible refine g_mv ?_); refine l_p txs rfl rfl ?_) | ((with_reducible refine g_ix ?_); refine l_ix txs rfl rfl (by first | omega | assumption | decide) (by first | omega | assumption | decide) ?_)))))
    (with_reducible refine is_l ?_); refine l_t txs rfl rfl (fun he => ?_) (fun he => ?_)
    · repeat' (first | (first | (with_reducible refine p_tn ?_) | (with_reducible refine p_tr ?_) | (with_reducible refine p_br ?_) | (with_reducible refine wp_seq ?_) | (with_reducible refine w_reg ?_) | (with_reducible (refine is_if ?_; (refine w_ift rfl ?_))) | (with_reducible refine wp_ret ?_)) | (first | (with_reducible refine l_nil ?_) | ((with_reducible refine g_on ?_); ((with_reducible refine g_as ?_); refine l_p txs rfl rfl ?_))))
      refine end1 rfl rfl ?_
      exact ⟨by rw [hD, he]; simp, H.B⟩
    · repeat' (first | (first | (with_reducible refine p_tn ?_) | (with_reducible refine p_bn ?_) | (with_reducible refine w_reg ?_) | (with_reducible (refine is_if ?_; (refine w_iff rfl ?_))) | (with_reducible refine wp_skip ?_)) | (first | (with_reducible refine l_nil ?_) | ((with_reducible refine g_on ?_); (first | ((with_reducible refine g_mv ?_); refine l_p txs rfl rfl ?_) | ((with_reducible refine g_as ?_); refine l_p txs rfl rfl ?_) | ((with_reducible refine g_bi ?_); (refine l_a txs rfl rfl (by first | exact in_i64 (by omega) (by omega) | exact in_u8 (by omega) (by omega) | exact in_u64 (by omega) (by omega) | exact in_i32 (by omega) (by omega)) ?_))))))
      refine ⟨i + 1, _, rfl, ⟨rfl, rfl, rfl, trivial⟩, ⟨H, by omega, ?_⟩, by omega⟩
      rw [hD]
      have : (c == at_ (bl s) (i : Int)) = false := by simp; exact fun e => he e.symm
      rw [this, Bool.false_or]
  · have hall : (bl s).drop i = [] := List.drop_eq_nil_of_le (by omega)
    rw [hall] at hD
    repeat' (first | (first | (with_reducible refine p_tn ?_) | (with_reducible refine p_tx ?_) | (with_reducible refine x_hit ?_) | (with_reducible refine wp_seq ?_) | (with_reducible refine w_reg ?_) | (with_reducible (refine is_if ?_; (refine w_iff rfl ?_))) | (with_reducible refine wp_exit ?_) | (with_reducible refine wp_ret ?_)) | (first | (with_reducible refine l_nil ?_) | ((with_reducible refine g_on ?_); ((with_reducible refine g_as ?_); refine l_p txs rfl rfl ?_))))
    refine end1 rfl rfl ?_
    exact ⟨by rw [hD]; rfl, H.B⟩
theorem visS_end {l : L} (p : Int → Bool) (h : l.all p = true) : (l ≠ [] → (!l.isEmpty && l.all p) = true) ∧ (¬ l ≠ [] → (!l.isEmpty && l.all p) = false) := by
  cases l with
  | nil => simp
  | cons a r => simp only [h]; simp
theorem valS_false {l : L} (p : Int → Bool) (h : l.all p = false) : (!l.isEmpty && l.all p) = false := by rw [h]; simp
set_option maxHeartbeats 2000000 in
theorem rvisible_c (s : ByteArray) (w : World) (hs : s.size ≤ 2000000000000) : Calls Tryz.prog 80 #[.string s] w fun e w' => e = .returned (.bool (!(bl s).isEmpty && (bl s).all visB)) ∧ Below w.heap.size w w' := by
  refine enter (args := [.string s]) Tryz.func80 rfl Tryz.ntmps80 rfl ?_
  have hbl := bl_length s
  have H := Hp.nil w
  repeat' (first | (first | (with_reducible refine p_tn ?_) | (with_reducible refine wp_seq ?_) | (with_reducible refine wp_block ?_) | (with_reducible refine w_reg ?_)) | (first | (with_reducible refine l_nil ?_) | ((with_reducible refine g_on ?_); ((with_reducible refine g_as ?_); refine l_p txs rfl rfl ?_))))
  refine w_loop (σ := Nat) (S := fun i => [(0, .string s), (3, .int .i64 (i : Int))]) (J := fun i w' => Hp w w' [] [] ∧ i ≤ s.size ∧ (bl s).all visB = ((bl s).drop i).all visB) (μ := fun i => s.size - i) 0 ⟨rfl, rfl, trivial⟩ ⟨H, by omega, rfl⟩ ?_
  rintro i f w_ ⟨H, hi, hD⟩
  repeat' (first | (first | (with_reducible refine wp_seq ?_) | (with_reducible refine w_reg ?_)) | ((with_reducible refine g_on ?_); (first | ((with_reducible refine g_mv ?_); refine l_p txs rfl rfl ?_) | ((with_reducible refine g_cl ?_); refine l_p txs rfl rfl ?_))))
  (with_reducible refine is_l ?_); refine l_t txs rfl rfl (fun hlt => ?_) (fun hge => ?_)
  · rw [dropA (by omega), List.all_cons] at hD
    repeat' (first | (first | (with_reducible refine p_tn ?_) | (with_reducible refine wp_seq ?_) | (with_reducible refine wp_block ?_) | (with_reducible refine w_reg ?_) | (with_reducible (refine is_if ?_; (refine w_ift rfl ?_))) | (with_reducible refine wp_skip ?_)) | (first | (with_reducible refine l_nil ?_) | ((with_reducible refine g_on ?_); (first | ((with_reducible refine g_mv ?_); refine l_p txs rfl rfl ?_) | ((with_reducible refine g_ix ?_); refine l_ix txs rfl rfl (by first | omega | assumption | decide) (by first | omega | assumption | decide) ?_)))))
    (with_reducible refine is_l ?_); refine l_t txs rfl rfl (fun h1 => ?_) (fun h1 => ?_)
    · have hv : visB (at_ (bl s) (i : Int)) = false := by unfold visB; simp; omega
      rw [hv, Bool.false_and] at hD
      repeat' (first | (first | (with_reducible refine p_tn ?_) | (with_reducible refine p_tr ?_) | (with_reducible refine p_br ?_) | (with_reducible refine wp_seq ?_) | (with_reducible refine w_reg ?_) | (with_reducible (refine is_if ?_; (refine w_ift rfl ?_))) | (with_reducible refine wp_ret ?_)) | (first | (with_reducible refine l_nil ?_) | ((with_reducible refine g_on ?_); (first | ((with_reducible refine g_mv ?_); refine l_p txs rfl rfl ?_) | ((with_reducible refine g_as ?_); refine l_p txs rfl rfl ?_) | ((with_reducible refine g_pk ?_); refine l_p txs rfl rfl ?_))) | ((with_reducible refine g_if ?_); (refine l_off rfl ?_))))
      refine end1 rfl rfl ?_
      exact ⟨by rw [valS_false _ hD], H.B⟩
    · repeat' (first | ((with_reducible refine g_on ?_); ((with_reducible refine g_mv ?_); refine l_p txs rfl rfl ?_)) | ((with_reducible refine g_if ?_); (first | ((with_reducible refine g_mv ?_); refine l_p txs rfl rfl ?_) | ((with_reducible refine g_ix ?_); refine l_ix txs rfl rfl (by first | omega | assumption | decide) (by first | omega | assumption | decide) ?_))))
      (with_reducible refine is_l ?_); refine l_t txs rfl rfl (fun h2 => ?_) (fun h2 => ?_)
      · have hv : visB (at_ (bl s) (i : Int)) = false := by unfold visB; simp; omega
        rw [hv, Bool.false_and] at hD
        repeat' (first | (first | (with_reducible refine p_tn ?_) | (with_reducible refine p_tr ?_) | (with_reducible refine p_br ?_) | (with_reducible refine wp_seq ?_) | (with_reducible refine w_reg ?_) | (with_reducible (refine is_if ?_; (refine w_ift rfl ?_))) | (with_reducible refine wp_ret ?_)) | (first | (with_reducible refine l_nil ?_) | ((with_reducible refine g_on ?_); (first | ((with_reducible refine g_as ?_); refine l_p txs rfl rfl ?_) | ((with_reducible refine g_pk ?_); refine l_p txs rfl rfl ?_)))))
        refine end1 rfl rfl ?_
        exact ⟨by rw [valS_false _ hD], H.B⟩
      · have hv : visB (at_ (bl s) (i : Int)) = true := by unfold visB; simp; omega
        rw [hv, Bool.true_and] at hD
        repeat' (first | (first | (with_reducible refine p_tn ?_) | (with_reducible refine p_bn ?_) | (with_reducible refine w_reg ?_) | (with_reducible (refine is_if ?_; (refine w_iff rfl ?_))) | (with_reducible refine wp_skip ?_)) | (first | (with_reducible refine l_nil ?_) | ((with_reducible refine g_on ?_); (first | ((with_reducible refine g_mv ?_); refine l_p txs rfl rfl ?_) | ((with_reducible refine g_as ?_); refine l_p txs rfl rfl ?_) | ((with_reducible refine g_pk ?_); refine l_p txs rfl rfl ?_) | ((with_reducible refine g_bi ?_); (refine l_a txs rfl rfl (by first | exact in_i64 (by omega) (by omega) | exact in_u8 (by omega) (by omega) | exact in_u64 (by omega) (by omega) | exact in_i32 (by omega) (by omega)) ?_))))))
        exact ⟨i + 1, _, rfl, ⟨rfl, rfl, trivial⟩, ⟨H, by omega, hD⟩, by omega⟩
  · have hall : (bl s).drop i = [] := List.drop_eq_nil_of_le (by omega)
    rw [hall] at hD
    obtain ⟨k1, k2⟩ := visS_end visB hD
    repeat' (first | (first | (with_reducible refine p_tn ?_) | (with_reducible refine p_tx ?_) | (with_reducible refine x_hit ?_) | (with_reducible refine wp_seq ?_) | (with_reducible refine w_reg ?_) | (with_reducible (refine is_if ?_; (refine w_iff rfl ?_))) | (with_reducible refine wp_exit ?_)) | (first | (with_reducible refine l_nil ?_) | ((with_reducible refine g_on ?_); ((with_reducible refine g_mv ?_); refine l_p txs rfl rfl ?_))))
    (with_reducible refine is_l ?_); refine l_t txs rfl rfl (fun h1 => ?_) (fun h1 => ?_)
    · repeat' (first | (first | (with_reducible refine p_tn ?_) | (with_reducible refine wp_ret ?_)) | (first | (with_reducible refine l_nil ?_) | ((with_reducible refine g_on ?_); ((with_reducible refine g_as ?_); refine l_p txs rfl rfl ?_))))
      refine end1 rfl rfl ?_
      exact ⟨by rw [k1 h1], H.B⟩
    · repeat' (first | (first | (with_reducible refine p_tn ?_) | (with_reducible refine wp_ret ?_)) | (first | (with_reducible refine l_nil ?_) | ((with_reducible refine g_on ?_); ((with_reducible refine g_as ?_); refine l_p txs rfl rfl ?_))))
      refine end1 rfl rfl ?_
      exact ⟨by rw [k2 h1], H.B⟩
set_option maxHeartbeats 2000000 in
theorem rvalued_c (s : ByteArray) (w : World) (hs : s.size ≤ 2000000000000) : Calls Tryz.prog 140 #[.string s] w fun e w' => e = .returned (.bool ((bl s).all valB)) ∧ Below w.heap.size w w' := by
  refine enter (args := [.string s]) Tryz.func140 rfl Tryz.ntmps140 rfl ?_
  have hbl := bl_length s
  have H := Hp.nil w
  repeat' (first | (first | (with_reducible refine p_tn ?_) | (with_reducible refine wp_seq ?_) | (with_reducible refine wp_block ?_) | (with_reducible refine w_reg ?_)) | (first | (with_reducible refine l_nil ?_) | ((with_reducible refine g_on ?_); ((with_reducible refine g_as ?_); refine l_p txs rfl rfl ?_))))
  refine w_loop (σ := Nat) (S := fun i => [(0, .string s), (3, .int .i64 (i : Int))]) (J := fun i w' => Hp w w' [] [] ∧ i ≤ s.size ∧ (bl s).all valB = ((bl s).drop i).all valB) (μ := fun i => s.size - i) 0 ⟨rfl, rfl, trivial⟩ ⟨H, by omega, rfl⟩ ?_
  rintro i f w_ ⟨H, hi, hD⟩
  repeat' (first | (first | (with_reducible refine wp_seq ?_) | (with_reducible refine w_reg ?_)) | ((with_reducible refine g_on ?_); (first | ((with_reducible refine g_mv ?_); refine l_p txs rfl rfl ?_) | ((with_reducible refine g_cl ?_); refine l_p txs rfl rfl ?_))))
  (with_reducible refine is_l ?_); refine l_t txs rfl rfl (fun hlt => ?_) (fun hge => ?_)
  · have hmem : at_ (bl s) (i : Int) ∈ bl s := by
      have h1 := dropA (l := bl s) (i := i) (by omega)
      exact List.mem_of_mem_drop (i := i) (by rw [h1]; simp)
    have hbd := bl_bytes s _ hmem
    rw [dropA (by omega), List.all_cons] at hD
    have go : valB (at_ (bl s) (i : Int)) = true → (bl s).all valB = ((bl s).drop (i + 1)).all valB := fun hv => by rw [hD, hv, Bool.true_and]
    have no : valB (at_ (bl s) (i : Int)) = false → (bl s).all valB = false := fun hv => by rw [hD, hv, Bool.false_and]
    repeat' (first | (first | (with_reducible refine p_tn ?_) | (with_reducible refine wp_seq ?_) | (with_reducible refine wp_block ?_) | (with_reducible refine w_reg ?_) | (with_reducible (refine is_if ?_; (refine w_ift rfl ?_))) | (with_reducible refine wp_skip ?_)) | (first | (with_reducible refine l_nil ?_) | ((with_reducible refine g_on ?_); (first | ((with_reducible refine g_mv ?_); refine l_p txs rfl rfl ?_) | ((with_reducible refine g_ix ?_); refine l_ix txs rfl rfl (by first | omega | assumption | decide) (by first | omega | assumption | decide) ?_)))))
    (with_reducible refine is_l ?_); refine l_t txs rfl rfl (fun h1 => ?_) (fun h1 => ?_)
    · repeat' (first | ((with_reducible refine g_on ?_); ((with_reducible refine g_mv ?_); refine l_p txs rfl rfl ?_)) | ((with_reducible refine g_if ?_); (first | ((with_reducible refine g_mv ?_); refine l_p txs rfl rfl ?_) | ((with_reducible refine g_ix ?_); refine l_ix txs rfl rfl (by first | omega | assumption | decide) (by first | omega | assumption | decide) ?_))))
      (with_reducible refine is_l ?_); refine l_t txs rfl rfl (fun h2 => ?_) (fun h2 => ?_)
      · repeat' (first | (first | (with_reducible refine p_tn ?_) | (with_reducible refine p_tr ?_) | (with_reducible refine p_br ?_) | (with_reducible refine wp_seq ?_) | (with_reducible refine w_reg ?_) | (with_reducible (refine is_if ?_; (refine w_ift rfl ?_))) | (with_reducible refine wp_ret ?_)) | (first | (with_reducible refine l_nil ?_) | ((with_reducible refine g_on ?_); (first | ((with_reducible refine g_as ?_); refine l_p txs rfl rfl ?_) | ((with_reducible refine g_pk ?_); refine l_p txs rfl rfl ?_))) | ((with_reducible refine g_if ?_); (first | (refine l_off rfl ?_) | (first | ((with_reducible refine g_mv ?_); refine l_p txs rfl rfl ?_) | ((with_reducible refine g_pk ?_); refine l_p txs rfl rfl ?_))))))
        refine end1 rfl rfl ?_
        exact ⟨by rw [no (by unfold valB; simp; omega)], H.B⟩
      · repeat' ((with_reducible refine g_if ?_); (first | ((with_reducible refine g_mv ?_); refine l_p txs rfl rfl ?_) | ((with_reducible refine g_ix ?_); refine l_ix txs rfl rfl (by first | omega | assumption | decide) (by first | omega | assumption | decide) ?_)))
        (with_reducible refine is_l ?_); refine l_t txs rfl rfl (fun h3 => ?_) (fun h3 => ?_)
        · repeat' (first | (first | (with_reducible refine p_tn ?_) | (with_reducible refine p_tr ?_) | (with_reducible refine p_br ?_) | (with_reducible refine wp_seq ?_) | (with_reducible refine w_reg ?_) | (with_reducible (refine is_if ?_; (refine w_ift rfl ?_))) | (with_reducible refine wp_ret ?_)) | (first | (with_reducible refine l_nil ?_) | ((with_reducible refine g_on ?_); (first | ((with_reducible refine g_as ?_); refine l_p txs rfl rfl ?_) | ((with_reducible refine g_pk ?_); refine l_p txs rfl rfl ?_))) | ((with_reducible refine g_if ?_); ((with_reducible refine g_pk ?_); refine l_p txs rfl rfl ?_))))
          refine end1 rfl rfl ?_
          exact ⟨by rw [no (by unfold valB; simp; omega)], H.B⟩
        · repeat' (first | (first | (with_reducible refine p_tn ?_) | (with_reducible refine p_bn ?_) | (with_reducible refine w_reg ?_) | (with_reducible (refine is_if ?_; (refine w_iff rfl ?_))) | (with_reducible refine wp_skip ?_)) | (first | (with_reducible refine l_nil ?_) | ((with_reducible refine g_on ?_); (first | ((with_reducible refine g_mv ?_); refine l_p txs rfl rfl ?_) | ((with_reducible refine g_as ?_); refine l_p txs rfl rfl ?_) | ((with_reducible refine g_pk ?_); refine l_p txs rfl rfl ?_) | ((with_reducible refine g_bi ?_); (refine l_a txs rfl rfl (by first | exact in_i64 (by omega) (by omega) | exact in_u8 (by omega) (by omega) | exact in_u64 (by omega) (by omega) | exact in_i32 (by omega) (by omega)) ?_)))) | ((with_reducible refine g_if ?_); ((with_reducible refine g_pk ?_); refine l_p txs rfl rfl ?_))))
          exact ⟨i + 1, _, rfl, ⟨rfl, rfl, trivial⟩, ⟨H, by omega, go (by unfold valB; simp; omega)⟩, by omega⟩
    · repeat' (first | (first | (with_reducible refine p_tn ?_) | (with_reducible refine p_bn ?_) | (with_reducible refine w_reg ?_) | (with_reducible (refine is_if ?_; (refine w_iff rfl ?_))) | (with_reducible refine wp_skip ?_)) | (first | (with_reducible refine l_nil ?_) | ((with_reducible refine g_on ?_); (first | ((with_reducible refine g_mv ?_); refine l_p txs rfl rfl ?_) | ((with_reducible refine g_as ?_); refine l_p txs rfl rfl ?_) | ((with_reducible refine g_pk ?_); refine l_p txs rfl rfl ?_) | ((with_reducible refine g_bi ?_); (refine l_a txs rfl rfl (by first | exact in_i64 (by omega) (by omega) | exact in_u8 (by omega) (by omega) | exact in_u64 (by omega) (by omega) | exact in_i32 (by omega) (by omega)) ?_)))) | ((with_reducible refine g_if ?_); (refine l_off rfl ?_))))
      exact ⟨i + 1, _, rfl, ⟨rfl, rfl, trivial⟩, ⟨H, by omega, go (by unfold valB; simp; omega)⟩, by omega⟩
  · have hall : (bl s).drop i = [] := List.drop_eq_nil_of_le (by omega)
    rw [hall] at hD
    repeat' (first | (first | (with_reducible refine p_tn ?_) | (with_reducible refine p_tx ?_) | (with_reducible refine x_hit ?_) | (with_reducible refine wp_seq ?_) | (with_reducible refine w_reg ?_) | (with_reducible (refine is_if ?_; (refine w_iff rfl ?_))) | (with_reducible refine wp_exit ?_) | (with_reducible refine wp_ret ?_)) | (first | (with_reducible refine l_nil ?_) | ((with_reducible refine g_on ?_); ((with_reducible refine g_as ?_); refine l_p txs rfl rfl ?_))))
    refine end1 rfl rfl ?_
    exact ⟨by rw [hD]; rfl, H.B⟩
theorem tok_split (c : Int) : tokB c = (letB c || digB c || [33, 35, 36, 37, 38, 39, 42, 43, 45, 46, 94, 95, 124, 126].contains c || decide (c = 96)) := by
  unfold tokB
  by_cases h : c = 96
  · subst h; decide
  · have e : ([33, 35, 36, 37, 38, 39, 42, 43, 45, 46, 94, 95, 96, 124, 126] : L).contains c = ([33, 35, 36, 37, 38, 39, 42, 43, 45, 46, 94, 95, 124, 126] : L).contains c := by simp [h]
    rw [e, decide_eq_false h, Bool.or_false]
set_option maxHeartbeats 4000000 in
theorem rtoken_c (s : ByteArray) (w : World) (hs : s.size ≤ 2000000000000) : Calls Tryz.prog 79 #[.string s] w fun e w' => e = .returned (.bool (tokS (bl s))) ∧ Below w.heap.size w w' := by
  refine enter (args := [.string s]) Tryz.func79 rfl Tryz.ntmps79 rfl ?_
  have hbl := bl_length s
  have H := Hp.nil w
  unfold tokS
  repeat' (first | (first | (with_reducible refine p_tn ?_) | (with_reducible refine wp_seq ?_) | (with_reducible refine wp_block ?_) | (with_reducible refine w_reg ?_)) | (first | (with_reducible refine l_nil ?_) | ((with_reducible refine g_on ?_); ((with_reducible refine g_as ?_); refine l_p txs rfl rfl ?_))))
  refine w_loop (σ := Nat) (S := fun i => [(0, .string s), (3, .int .i64 (i : Int))]) (J := fun i w' => Hp w w' [] [] ∧ i ≤ s.size ∧ (bl s).all tokB = ((bl s).drop i).all tokB) (μ := fun i => s.size - i) 0 ⟨rfl, rfl, trivial⟩ ⟨H, by omega, rfl⟩ ?_
  rintro i f w_ ⟨H, hi, hD⟩
  repeat' (first | (first | (with_reducible refine wp_seq ?_) | (with_reducible refine w_reg ?_)) | ((with_reducible refine g_on ?_); (first | ((with_reducible refine g_mv ?_); refine l_p txs rfl rfl ?_) | ((with_reducible refine g_cl ?_); refine l_p txs rfl rfl ?_))))
  (with_reducible refine is_l ?_); refine l_t txs rfl rfl (fun hlt => ?_) (fun hge => ?_)
  · rw [dropA (by omega), List.all_cons, tok_split] at hD
    repeat' (first | (first | (with_reducible refine p_tn ?_) | (with_reducible refine wp_seq ?_) | (with_reducible refine wp_block ?_) | (with_reducible refine w_reg ?_) | (with_reducible (refine is_if ?_; (refine w_ift rfl ?_))) | (with_reducible refine wp_skip ?_)) | (first | (with_reducible refine l_nil ?_) | ((with_reducible refine g_on ?_); (first | ((with_reducible refine g_mv ?_); refine l_p txs rfl rfl ?_) | ((with_reducible refine g_ix ?_); refine l_ix txs rfl rfl (by first | omega | assumption | decide) (by first | omega | assumption | decide) ?_)))))
    (with_reducible refine is_l ?_); refine l_callv rfl rfl (by kernel_rfl) (rletter_c _ _) (fun w_ K => ?_)
    have H := H.call K
    cases h1 : letB (at_ (bl s) (i : Int))
    · repeat' (first | ((with_reducible refine g_on ?_); (first | ((with_reducible refine g_mv ?_); refine l_p txs rfl rfl ?_) | ((with_reducible refine g_un ?_); (refine l_p txs rfl rfl ?_)))) | ((with_reducible refine g_if ?_); (first | ((with_reducible refine g_mv ?_); refine l_p txs rfl rfl ?_) | ((with_reducible refine g_ix ?_); refine l_ix txs rfl rfl (by first | omega | assumption | decide) (by first | omega | assumption | decide) ?_))))
      (with_reducible refine is_l ?_); refine l_callv rfl rfl (by kernel_rfl) (rdigit_c _ _) (fun w_ K => ?_)
      have H := H.call K
      cases h2 : digB (at_ (bl s) (i : Int))
      · repeat' (first | ((with_reducible refine g_on ?_); (first | ((with_reducible refine g_mv ?_); refine l_p txs rfl rfl ?_) | ((with_reducible refine g_pk ?_); refine l_p txs rfl rfl ?_))) | ((with_reducible refine g_if ?_); (first | ((with_reducible refine g_mv ?_); refine l_p txs rfl rfl ?_) | ((with_reducible refine g_un ?_); (refine l_p txs rfl rfl ?_)) | ((with_reducible refine g_ix ?_); refine l_ix txs rfl rfl (by first | omega | assumption | decide) (by first | omega | assumption | decide) ?_))))
        (with_reducible refine is_l ?_); refine l_callv rfl rfl (by kernel_rfl) (ramong_c _ _ _ (by decide)) (fun w_ K => ?_)
        have H := H.call K
        have e0 : bl (⟨#[33, 35, 36, 37, 38, 39, 42, 43, 45, 46, 94, 95, 124, 126]⟩ : ByteArray) = [33, 35, 36, 37, 38, 39, 42, 43, 45, 46, 94, 95, 124, 126] := rfl
        rw [e0]
        cases h3 : ([33, 35, 36, 37, 38, 39, 42, 43, 45, 46, 94, 95, 124, 126] : L).contains (at_ (bl s) (i : Int))
        · repeat' (first | ((with_reducible refine g_on ?_); (first | ((with_reducible refine g_mv ?_); refine l_p txs rfl rfl ?_) | ((with_reducible refine g_pk ?_); refine l_p txs rfl rfl ?_))) | ((with_reducible refine g_if ?_); (first | ((with_reducible refine g_mv ?_); refine l_p txs rfl rfl ?_) | ((with_reducible refine g_un ?_); (refine l_p txs rfl rfl ?_)) | ((with_reducible refine g_ix ?_); refine l_ix txs rfl rfl (by first | omega | assumption | decide) (by first | omega | assumption | decide) ?_))))
          (with_reducible refine is_l ?_); refine l_t txs rfl rfl (fun h4 => ?_) (fun h4 => ?_)
          · rw [h1, h2, h3, decide_eq_false h4] at hD
            repeat' (first | (first | (with_reducible refine p_tn ?_) | (with_reducible refine p_tr ?_) | (with_reducible refine p_br ?_) | (with_reducible refine wp_seq ?_) | (with_reducible refine w_reg ?_) | (with_reducible (refine is_if ?_; (refine w_ift rfl ?_))) | (with_reducible refine wp_ret ?_)) | (first | (with_reducible refine l_nil ?_) | ((with_reducible refine g_on ?_); (first | ((with_reducible refine g_as ?_); refine l_p txs rfl rfl ?_) | ((with_reducible refine g_pk ?_); refine l_p txs rfl rfl ?_)))))
            refine end1 rfl rfl ?_
            exact ⟨by rw [valS_false _ (by rw [hD]; rfl)], H.B⟩
          · rw [h1, h2, h3, decide_eq_true (Classical.not_not.1 h4)] at hD
            repeat' (first | (first | (with_reducible refine p_tn ?_) | (with_reducible refine p_bn ?_) | (with_reducible refine w_reg ?_) | (with_reducible (refine is_if ?_; (refine w_iff rfl ?_))) | (with_reducible refine wp_skip ?_)) | (first | (with_reducible refine l_nil ?_) | ((with_reducible refine g_on ?_); (first | ((with_reducible refine g_mv ?_); refine l_p txs rfl rfl ?_) | ((with_reducible refine g_as ?_); refine l_p txs rfl rfl ?_) | ((with_reducible refine g_pk ?_); refine l_p txs rfl rfl ?_) | ((with_reducible refine g_bi ?_); (refine l_a txs rfl rfl (by first | exact in_i64 (by omega) (by omega) | exact in_u8 (by omega) (by omega) | exact in_u64 (by omega) (by omega) | exact in_i32 (by omega) (by omega)) ?_))))))
            exact ⟨i + 1, _, rfl, ⟨rfl, rfl, trivial⟩, ⟨H, by omega, by rw [hD]; rfl⟩, by omega⟩
        · rw [h1, h2, h3] at hD
          repeat' (first | (first | (with_reducible refine p_tn ?_) | (with_reducible refine p_bn ?_) | (with_reducible refine w_reg ?_) | (with_reducible (refine is_if ?_; (refine w_iff rfl ?_))) | (with_reducible refine wp_skip ?_)) | (first | (with_reducible refine l_nil ?_) | ((with_reducible refine g_on ?_); (first | ((with_reducible refine g_mv ?_); refine l_p txs rfl rfl ?_) | ((with_reducible refine g_as ?_); refine l_p txs rfl rfl ?_) | ((with_reducible refine g_pk ?_); refine l_p txs rfl rfl ?_) | ((with_reducible refine g_bi ?_); (refine l_a txs rfl rfl (by first | exact in_i64 (by omega) (by omega) | exact in_u8 (by omega) (by omega) | exact in_u64 (by omega) (by omega) | exact in_i32 (by omega) (by omega)) ?_)))) | ((with_reducible refine g_if ?_); (first | (refine l_off rfl ?_) | ((with_reducible refine g_un ?_); (refine l_p txs rfl rfl ?_))))))
          exact ⟨i + 1, _, rfl, ⟨rfl, rfl, trivial⟩, ⟨H, by omega, by rw [hD]; rfl⟩, by omega⟩
      · rw [h1, h2] at hD
        repeat' (first | (first | (with_reducible refine p_tn ?_) | (with_reducible refine p_bn ?_) | (with_reducible refine w_reg ?_) | (with_reducible (refine is_if ?_; (refine w_iff rfl ?_))) | (with_reducible refine wp_skip ?_)) | (first | (with_reducible refine l_nil ?_) | ((with_reducible refine g_on ?_); (first | ((with_reducible refine g_mv ?_); refine l_p txs rfl rfl ?_) | ((with_reducible refine g_as ?_); refine l_p txs rfl rfl ?_) | ((with_reducible refine g_pk ?_); refine l_p txs rfl rfl ?_) | ((with_reducible refine g_bi ?_); (refine l_a txs rfl rfl (by first | exact in_i64 (by omega) (by omega) | exact in_u8 (by omega) (by omega) | exact in_u64 (by omega) (by omega) | exact in_i32 (by omega) (by omega)) ?_)))) | ((with_reducible refine g_if ?_); (first | (refine l_off rfl ?_) | ((with_reducible refine g_un ?_); (refine l_p txs rfl rfl ?_))))))
        exact ⟨i + 1, _, rfl, ⟨rfl, rfl, trivial⟩, ⟨H, by omega, by rw [hD]; simp⟩, by omega⟩
    · rw [h1] at hD
      repeat' (first | (first | (with_reducible refine p_tn ?_) | (with_reducible refine p_bn ?_) | (with_reducible refine w_reg ?_) | (with_reducible (refine is_if ?_; (refine w_iff rfl ?_))) | (with_reducible refine wp_skip ?_)) | (first | (with_reducible refine l_nil ?_) | ((with_reducible refine g_on ?_); (first | ((with_reducible refine g_mv ?_); refine l_p txs rfl rfl ?_) | ((with_reducible refine g_as ?_); refine l_p txs rfl rfl ?_) | ((with_reducible refine g_pk ?_); refine l_p txs rfl rfl ?_) | ((with_reducible refine g_un ?_); (refine l_p txs rfl rfl ?_)) | ((with_reducible refine g_bi ?_); (refine l_a txs rfl rfl (by first | exact in_i64 (by omega) (by omega) | exact in_u8 (by omega) (by omega) | exact in_u64 (by omega) (by omega) | exact in_i32 (by omega) (by omega)) ?_)))) | ((with_reducible refine g_if ?_); (refine l_off rfl ?_))))
      exact ⟨i + 1, _, rfl, ⟨rfl, rfl, trivial⟩, ⟨H, by omega, by rw [hD]; simp⟩, by omega⟩
  · have hall : (bl s).drop i = [] := List.drop_eq_nil_of_le (by omega)
    rw [hall] at hD
    obtain ⟨k1, k2⟩ := visS_end tokB hD
    repeat' (first | (first | (with_reducible refine p_tn ?_) | (with_reducible refine p_tx ?_) | (with_reducible refine x_hit ?_) | (with_reducible refine wp_seq ?_) | (with_reducible refine w_reg ?_) | (with_reducible (refine is_if ?_; (refine w_iff rfl ?_))) | (with_reducible refine wp_exit ?_)) | (first | (with_reducible refine l_nil ?_) | ((with_reducible refine g_on ?_); ((with_reducible refine g_mv ?_); refine l_p txs rfl rfl ?_))))
    (with_reducible refine is_l ?_); refine l_t txs rfl rfl (fun h1 => ?_) (fun h1 => ?_)
    · repeat' (first | (first | (with_reducible refine p_tn ?_) | (with_reducible refine wp_ret ?_)) | (first | (with_reducible refine l_nil ?_) | ((with_reducible refine g_on ?_); ((with_reducible refine g_as ?_); refine l_p txs rfl rfl ?_))))
      refine end1 rfl rfl ?_
      exact ⟨by rw [k1 h1], H.B⟩
    · repeat' (first | (first | (with_reducible refine p_tn ?_) | (with_reducible refine wp_ret ?_)) | (first | (with_reducible refine l_nil ?_) | ((with_reducible refine g_on ?_); ((with_reducible refine g_as ?_); refine l_p txs rfl rfl ?_))))
      refine end1 rfl rfl ?_
      exact ⟨by rw [k2 h1], H.B⟩
theorem size_pos {s : ByteArray} (h : bl s ≠ bl ⟨#[]⟩) : 0 < s.size := by
  have h1 : bl (⟨#[]⟩ : ByteArray) = [] := rfl
  rw [h1] at h
  rw [← bl_length]
  exact List.length_pos_iff.2 h
theorem size_zero {s : ByteArray} (h : ¬ bl s ≠ bl ⟨#[]⟩) : s.size = 0 := by
  have h1 : bl (⟨#[]⟩ : ByteArray) = [] := rfl
  rw [h1] at h
  rw [← bl_length, Classical.not_not.1 h]
  rfl
set_option maxHeartbeats 4000000 in
theorem rsmall_c (s : ByteArray) (w : World) (hs : s.size ≤ 1000000000) : Calls Tryz.prog 135 #[.string s] w fun e w' => e = .returned (.string (strOfNums (lowS (bl s)))) ∧ Below w.heap.size w w' := by
  refine enter (args := [.string s]) Tryz.func135 rfl Tryz.ntmps135 rfl ?_
  have hbl := bl_length s
  have H := (Hp.nil w).nilRow 5 1
  repeat' (first | (first | (with_reducible refine p_tn ?_) | (with_reducible refine wp_seq ?_) | (with_reducible refine wp_block ?_) | (with_reducible refine w_reg ?_)) | (first | (with_reducible refine l_nil ?_) | ((with_reducible refine g_on ?_); ((with_reducible refine g_as ?_); refine l_p txs rfl rfl ?_))))
  refine w_loop (σ := Nat × Option Addr × Nat) (S := fun s' => [(0, .string s), (3, .slice s'.2.1 (lowS ((bl s).take s'.1)).length s'.2.2), (4, .int .i64 (s'.1 : Int))])
    (J := fun s' w' => Hp w w' [] [rowB (.slice s'.2.1 (lowS ((bl s).take s'.1)).length s'.2.2) (lowS ((bl s).take s'.1))] ∧ s'.1 ≤ s.size) (μ := fun s' => s.size - s'.1) (0, none, 0) ⟨rfl, rfl, rfl, trivial⟩ ⟨H, by omega⟩ ?_
  rintro ⟨i, A2, c2⟩ f w_ ⟨H, hi⟩
  simp only at H hi ⊢
  repeat' (first | (first | (with_reducible refine wp_seq ?_) | (with_reducible refine w_reg ?_)) | ((with_reducible refine g_on ?_); (first | ((with_reducible refine g_mv ?_); refine l_p txs rfl rfl ?_) | ((with_reducible refine g_cl ?_); refine l_p txs rfl rfl ?_))))
  (with_reducible refine is_l ?_); refine l_t txs rfl rfl (fun hlt => ?_) (fun hge => ?_)
  · obtain ⟨x, hx⟩ : ∃ x, (bl s)[i]? = some x := ⟨_, List.getElem?_eq_getElem (by omega)⟩
    have hx2 := bl_bytes s x (List.mem_of_getElem? hx)
    have hlow := low_take hx
    have hl0 : (lowS ((bl s).take i)).length = i := by unfold lowS; rw [List.length_map, List.length_take]; omega
    have hl1 : (lowS ((bl s).take (i + 1))).length = (lowS ((bl s).take i)).length + 1 := by rw [hlow]; simp
    have hat : at_ (bl s) (i : Int) = x := by unfold at_; rw [Int.toNat_natCast, List.getD_eq_getElem?_getD, hx]; rfl
    repeat' (first | (first | (with_reducible refine p_tn ?_) | (with_reducible refine wp_seq ?_) | (with_reducible refine wp_block ?_) | (with_reducible refine w_reg ?_) | (with_reducible (refine is_if ?_; (refine w_ift rfl ?_))) | (with_reducible refine wp_skip ?_)) | (first | (with_reducible refine l_nil ?_) | ((with_reducible refine g_on ?_); (first | ((with_reducible refine g_mv ?_); refine l_p txs rfl rfl ?_) | ((with_reducible refine g_as ?_); refine l_p txs rfl rfl ?_) | ((with_reducible refine g_ix ?_); refine l_ix txs rfl rfl (by first | omega | assumption | decide) (by first | omega | assumption | decide) ?_)))))
    rw [hat]
    skip
    (with_reducible refine is_l ?_); refine l_t txs rfl rfl (fun h1 => ?_) (fun h1 => ?_)
    · repeat' (first | ((with_reducible refine g_on ?_); ((with_reducible refine g_mv ?_); refine l_p txs rfl rfl ?_)) | ((with_reducible refine g_if ?_); ((with_reducible refine g_mv ?_); refine l_p txs rfl rfl ?_)))
      (with_reducible refine is_l ?_); refine l_t txs rfl rfl (fun h2 => ?_) (fun h2 => ?_)
      · have hxe : lowB x = x + 32 := if_pos ⟨by omega, by omega⟩
        repeat' (first | (first | (with_reducible refine p_tn ?_) | (with_reducible refine w_reg ?_) | (with_reducible (refine is_if ?_; (refine w_ift rfl ?_)))) | (first | (with_reducible refine l_nil ?_) | ((with_reducible refine g_on ?_); (first | ((with_reducible refine g_mv ?_); refine l_p txs rfl rfl ?_) | ((with_reducible refine g_as ?_); refine l_p txs rfl rfl ?_) | ((with_reducible refine g_pk ?_); refine l_p txs rfl rfl ?_) | ((with_reducible refine g_bi ?_); (refine l_a txs rfl rfl (by first | exact in_i64 (by omega) (by omega) | exact in_u8 (by omega) (by omega) | exact in_u64 (by omega) (by omega) | exact in_i32 (by omega) (by omega)) ?_))))))
        (with_reducible refine is_l ?_); refine h_bs H info_u8 Tryz.underlying23 (by decide) (by decide) rfl rfl (by kernel_rfl) (fun g_ w_ H => ?_)
        (with_reducible refine is_l ?_); refine h_app H 0 rfl info_u8 Tryz.underlying23 rfl rfl rfl rfl (H.cellRd 0 rfl) rfl rfl (by show ((lowS ((bl s).take i)).length + 1) * 1 ≤ _; omega) (fun v w_ hv H => ?_)
        obtain ⟨A', c', rfl⟩ := hv
        have H := H.pick [] [0] (by decide) (by decide) rfl rfl
        repeat' (first | (first | (with_reducible refine p_tn ?_) | (with_reducible refine p_bn ?_) | (with_reducible refine w_reg ?_)) | (first | (with_reducible refine l_nil ?_) | ((with_reducible refine g_on ?_); (first | ((with_reducible refine g_mv ?_); refine l_p txs rfl rfl ?_) | ((with_reducible refine g_as ?_); refine l_p txs rfl rfl ?_) | ((with_reducible refine g_bi ?_); (refine l_a txs rfl rfl (by first | exact in_i64 (by omega) (by omega) | exact in_u8 (by omega) (by omega) | exact in_u64 (by omega) (by omega) | exact in_i32 (by omega) (by omega)) ?_))))))
        refine ⟨(i + 1, A', c'), _, rfl, ⟨rfl, ?_, rfl, trivial⟩, ⟨?_, by show i + 1 ≤ _; omega⟩, by show _ - (i + 1) < _ - i; omega⟩
        · show Value.slice A' ((lowS ((bl s).take i)).length + 1) c' = Value.slice A' (lowS ((bl s).take (i + 1))).length c'
          rw [hl1]
        · show Hp w _ [] [rowB (.slice A' (lowS ((bl s).take (i + 1))).length c') (lowS ((bl s).take (i + 1)))]
          unfold rowB
          rw [hl1, hlow, hxe, nums_append]
          exact H
      · have hxe : lowB x = x := if_neg (by omega)
        repeat' (first | (first | (with_reducible refine p_tn ?_) | (with_reducible refine w_reg ?_) | (with_reducible (refine is_if ?_; (refine w_iff rfl ?_))) | (with_reducible refine wp_skip ?_)) | (first | (with_reducible refine l_nil ?_) | ((with_reducible refine g_on ?_); (first | ((with_reducible refine g_mv ?_); refine l_p txs rfl rfl ?_) | ((with_reducible refine g_pk ?_); refine l_p txs rfl rfl ?_)))))
        (with_reducible refine is_l ?_); refine h_bs H info_u8 Tryz.underlying23 (by decide) (by decide) rfl rfl (by kernel_rfl) (fun g_ w_ H => ?_)
        (with_reducible refine is_l ?_); refine h_app H 0 rfl info_u8 Tryz.underlying23 rfl rfl rfl rfl (H.cellRd 0 rfl) rfl rfl (by show ((lowS ((bl s).take i)).length + 1) * 1 ≤ _; omega) (fun v w_ hv H => ?_)
        obtain ⟨A', c', rfl⟩ := hv
        have H := H.pick [] [0] (by decide) (by decide) rfl rfl
        repeat' (first | (first | (with_reducible refine p_tn ?_) | (with_reducible refine p_bn ?_) | (with_reducible refine w_reg ?_)) | (first | (with_reducible refine l_nil ?_) | ((with_reducible refine g_on ?_); (first | ((with_reducible refine g_mv ?_); refine l_p txs rfl rfl ?_) | ((with_reducible refine g_as ?_); refine l_p txs rfl rfl ?_) | ((with_reducible refine g_bi ?_); (refine l_a txs rfl rfl (by first | exact in_i64 (by omega) (by omega) | exact in_u8 (by omega) (by omega) | exact in_u64 (by omega) (by omega) | exact in_i32 (by omega) (by omega)) ?_))))))
        refine ⟨(i + 1, A', c'), _, rfl, ⟨rfl, ?_, rfl, trivial⟩, ⟨?_, by show i + 1 ≤ _; omega⟩, by show _ - (i + 1) < _ - i; omega⟩
        · show Value.slice A' ((lowS ((bl s).take i)).length + 1) c' = Value.slice A' (lowS ((bl s).take (i + 1))).length c'
          rw [hl1]
        · show Hp w _ [] [rowB (.slice A' (lowS ((bl s).take (i + 1))).length c') (lowS ((bl s).take (i + 1)))]
          unfold rowB
          rw [hl1, hlow, hxe, nums_append]
          exact H
    · have hxe : lowB x = x := if_neg (by omega)
      repeat' (first | (first | (with_reducible refine p_tn ?_) | (with_reducible refine w_reg ?_) | (with_reducible (refine is_if ?_; (refine w_iff rfl ?_))) | (with_reducible refine wp_skip ?_)) | (first | (with_reducible refine l_nil ?_) | ((with_reducible refine g_on ?_); (first | ((with_reducible refine g_mv ?_); refine l_p txs rfl rfl ?_) | ((with_reducible refine g_pk ?_); refine l_p txs rfl rfl ?_))) | ((with_reducible refine g_if ?_); (refine l_off rfl ?_))))
      (with_reducible refine is_l ?_); refine h_bs H info_u8 Tryz.underlying23 (by decide) (by decide) rfl rfl (by kernel_rfl) (fun g_ w_ H => ?_)
      (with_reducible refine is_l ?_); refine h_app H 0 rfl info_u8 Tryz.underlying23 rfl rfl rfl rfl (H.cellRd 0 rfl) rfl rfl (by show ((lowS ((bl s).take i)).length + 1) * 1 ≤ _; omega) (fun v w_ hv H => ?_)
      obtain ⟨A', c', rfl⟩ := hv
      have H := H.pick [] [0] (by decide) (by decide) rfl rfl
      repeat' (first | (first | (with_reducible refine p_tn ?_) | (with_reducible refine p_bn ?_) | (with_reducible refine w_reg ?_)) | (first | (with_reducible refine l_nil ?_) | ((with_reducible refine g_on ?_); (first | ((with_reducible refine g_mv ?_); refine l_p txs rfl rfl ?_) | ((with_reducible refine g_as ?_); refine l_p txs rfl rfl ?_) | ((with_reducible refine g_bi ?_); (refine l_a txs rfl rfl (by first | exact in_i64 (by omega) (by omega) | exact in_u8 (by omega) (by omega) | exact in_u64 (by omega) (by omega) | exact in_i32 (by omega) (by omega)) ?_))))))
      refine ⟨(i + 1, A', c'), _, rfl, ⟨rfl, ?_, rfl, trivial⟩, ⟨?_, by show i + 1 ≤ _; omega⟩, by show _ - (i + 1) < _ - i; omega⟩
      · show Value.slice A' ((lowS ((bl s).take i)).length + 1) c' = Value.slice A' (lowS ((bl s).take (i + 1))).length c'
        rw [hl1]
      · show Hp w _ [] [rowB (.slice A' (lowS ((bl s).take (i + 1))).length c') (lowS ((bl s).take (i + 1)))]
        unfold rowB
        rw [hl1, hlow, hxe, nums_append]
        exact H
  · have hall : (bl s).take i = bl s := List.take_of_length_le (by omega)
    simp only [hall] at H ⊢
    repeat' (first | (first | (with_reducible refine p_tn ?_) | (with_reducible refine p_tx ?_) | (with_reducible refine x_hit ?_) | (with_reducible refine wp_seq ?_) | (with_reducible refine w_reg ?_) | (with_reducible (refine is_if ?_; (refine w_iff rfl ?_))) | (with_reducible refine wp_exit ?_)) | (first | (with_reducible refine l_nil ?_) | ((with_reducible refine g_on ?_); ((with_reducible refine g_mv ?_); refine l_p txs rfl rfl ?_))))
    (with_reducible refine is_l ?_); refine l_text rfl rfl Tryz.underlying23 Tryz.underlying5 Tryz.underlying9 (rowB_rd H 0 (F := A2) (f := c2) (x := lowS (bl s)) rfl).1 ?_
    repeat' (first | (first | (with_reducible refine p_tn ?_) | (with_reducible refine wp_ret ?_)) | (first | (with_reducible refine l_nil ?_) | ((with_reducible refine g_on ?_); ((with_reducible refine g_as ?_); refine l_p txs rfl rfl ?_))))
    refine end1 rfl rfl ?_
    exact ⟨rfl, H.B⟩
set_option maxHeartbeats 4000000 in
theorem rtrim_c (s : ByteArray) (w : World) (hs : s.size ≤ 1000000000) : Calls Tryz.prog 136 #[.string s] w fun e w' => e = .returned (.string (strOfNums (trimS (bl s)))) ∧ Below w.heap.size w w' := by
  refine enter (args := [.string s]) Tryz.func136 rfl Tryz.ntmps136 rfl ?_
  have H := Hp.nil w
  repeat' (first | (first | (with_reducible refine p_tn ?_) | (with_reducible refine wp_seq ?_) | (with_reducible refine wp_block ?_) | (with_reducible refine w_reg ?_)) | (first | (with_reducible refine l_nil ?_) | ((with_reducible refine g_on ?_); ((with_reducible refine g_as ?_); refine l_p txs rfl rfl ?_))))
  refine w_loop (σ := ByteArray) (S := fun u => [(0, .string u)]) (J := fun u w' => Hp w w' [] [] ∧ (bl s).dropWhile blkB = (bl u).dropWhile blkB ∧ u.size ≤ s.size) (μ := fun u => u.size) s ⟨rfl, trivial⟩ ⟨H, rfl, Nat.le_refl _⟩ ?_
  rintro u f w_ ⟨H, hd, hu⟩
  have hbl := bl_length u
  have cut : ∀ x, (bl u)[0]? = some x → blkB x = true → (bl s).dropWhile blkB = (bl (u.extract 1 u.size)).dropWhile blkB ∧ (u.extract 1 u.size).size < u.size := by
    intro x hx hb
    have h1 := cons_of hx
    have h2 : 0 < u.size := by have := (List.getElem?_eq_some_iff.1 hx).1; omega
    have h3 : bl (u.extract 1 u.size) = (bl u).drop 1 := by rw [blE, List.take_of_length_le (by rw [List.length_drop]; omega)]
    refine ⟨?_, ?_⟩
    · rw [hd, h3, h1, drop_blk hb]; rfl
    · rw [← bl_length, h3, List.length_drop]; omega
  have done : (∀ x, (bl u)[0]? = some x → blkB x = false) → (bl s).dropWhile blkB = bl u := by
    intro h
    cases hl : bl u with
    | nil => rw [hd, hl]; rfl
    | cons x r => rw [hd, hl]; exact drop_nblk (h x (by rw [hl]; rfl))
  repeat' (first | (first | (with_reducible refine wp_seq ?_) | (with_reducible refine w_reg ?_)) | ((with_reducible refine g_on ?_); ((with_reducible refine g_mv ?_); refine l_p txs rfl rfl ?_)))
  (with_reducible refine is_l ?_); refine l_t txs rfl rfl (fun hne => ?_) (fun heq => ?_)
  · have hlt : 0 < u.size := size_pos hne
    obtain ⟨x, hx⟩ : ∃ x, (bl u)[0]? = some x := ⟨_, List.getElem?_eq_getElem (by omega)⟩
    have hx2 := bl_bytes u x (List.mem_of_getElem? hx)
    have hat : at_ (bl u) 0 = x := by show (bl u).getD 0 0 = x; rw [List.getD_eq_getElem?_getD, hx]; rfl
    repeat' (first | ((with_reducible refine g_on ?_); ((with_reducible refine g_mv ?_); refine l_p txs rfl rfl ?_)) | ((with_reducible refine g_if ?_); (first | ((with_reducible refine g_mv ?_); refine l_p txs rfl rfl ?_) | ((with_reducible refine g_ix ?_); refine l_ix txs rfl rfl (by first | omega | assumption | decide) (by first | omega | assumption | decide) ?_))))
    rw [hat]
    skip
    (with_reducible refine is_l ?_); refine l_t txs rfl rfl (fun h1 => ?_) (fun h1 => ?_)
    · obtain ⟨k1, k2⟩ := cut x hx (by unfold blkB; rw [h1]; rfl)
      repeat' (first | (first | (with_reducible refine p_tn ?_) | (with_reducible refine p_bn ?_) | (with_reducible refine wp_block ?_) | (with_reducible refine w_reg ?_) | (with_reducible (refine is_if ?_; (refine w_ift rfl ?_))) | (with_reducible refine wp_skip ?_)) | (first | (with_reducible refine l_nil ?_) | ((with_reducible refine g_on ?_); (first | ((with_reducible refine g_mv ?_); refine l_p txs rfl rfl ?_) | ((with_reducible refine g_as ?_); refine l_p txs rfl rfl ?_) | ((with_reducible refine g_pk ?_); refine l_p txs rfl rfl ?_) | ((with_reducible refine g_sl ?_); refine l_sl txs rfl rfl (by first | omega | assumption | decide) (by first | omega | assumption | decide) (by first | omega | assumption | decide) ?_))) | ((with_reducible refine g_if ?_); (first | (refine l_off rfl ?_) | (first | ((with_reducible refine g_mv ?_); refine l_p txs rfl rfl ?_) | ((with_reducible refine g_pk ?_); refine l_p txs rfl rfl ?_))))))
      exact ⟨u.extract 1 u.size, _, rfl, ⟨rfl, trivial⟩, ⟨H, k1, by omega⟩, k2⟩
    · repeat' ((with_reducible refine g_if ?_); (first | ((with_reducible refine g_mv ?_); refine l_p txs rfl rfl ?_) | ((with_reducible refine g_ix ?_); refine l_ix txs rfl rfl (by first | omega | assumption | decide) (by first | omega | assumption | decide) ?_)))
      rw [hat]
      skip
      (with_reducible refine is_l ?_); refine l_t txs rfl rfl (fun h2 => ?_) (fun h2 => ?_)
      · obtain ⟨k1, k2⟩ := cut x hx (by unfold blkB; rw [h2]; rfl)
        repeat' (first | (first | (with_reducible refine p_tn ?_) | (with_reducible refine p_bn ?_) | (with_reducible refine wp_block ?_) | (with_reducible refine w_reg ?_) | (with_reducible (refine is_if ?_; (refine w_ift rfl ?_))) | (with_reducible refine wp_skip ?_)) | (first | (with_reducible refine l_nil ?_) | ((with_reducible refine g_on ?_); (first | ((with_reducible refine g_mv ?_); refine l_p txs rfl rfl ?_) | ((with_reducible refine g_as ?_); refine l_p txs rfl rfl ?_) | ((with_reducible refine g_pk ?_); refine l_p txs rfl rfl ?_) | ((with_reducible refine g_sl ?_); refine l_sl txs rfl rfl (by first | omega | assumption | decide) (by first | omega | assumption | decide) (by first | omega | assumption | decide) ?_))) | ((with_reducible refine g_if ?_); ((with_reducible refine g_pk ?_); refine l_p txs rfl rfl ?_))))
        exact ⟨u.extract 1 u.size, _, rfl, ⟨rfl, trivial⟩, ⟨H, k1, by omega⟩, k2⟩
      · have hdu := done (fun y hy => by rw [hx] at hy; injection hy with hy; subst hy; unfold blkB; simp [h1, h2])
        repeat' (first | (first | (with_reducible refine p_tn ?_) | (with_reducible refine p_tx ?_) | (with_reducible refine x_hit ?_) | (with_reducible refine wp_seq ?_) | (with_reducible refine wp_block ?_) | (with_reducible (refine is_if ?_; (refine w_iff rfl ?_))) | (with_reducible refine wp_exit ?_)) | (first | (with_reducible refine l_nil ?_) | ((with_reducible refine g_on ?_); ((with_reducible refine g_pk ?_); refine l_p txs rfl rfl ?_)) | ((with_reducible refine g_if ?_); ((with_reducible refine g_pk ?_); refine l_p txs rfl rfl ?_))))
        refine w_loop (σ := ByteArray) (S := fun v => [(0, .string v)]) (J := fun v w' => Hp w w' [] [] ∧ trimR (bl u) = trimR (bl v) ∧ v.size ≤ u.size) (μ := fun v => v.size) u ⟨rfl, trivial⟩ ⟨H, rfl, Nat.le_refl _⟩ ?_
        rintro v f w_ ⟨H, hv, hvu⟩
        have hvl := bl_length v
        have cut2 : ∀ x, (bl v)[v.size - 1]? = some x → blkB x = true → trimR (bl u) = trimR (bl (v.extract 0 (v.size - 1))) ∧ (v.extract 0 (v.size - 1)).size < v.size := by
          intro x hx hb
          have h2 : v.size - 1 < (bl v).length := (List.getElem?_eq_some_iff.1 hx).1
          have h1 := snoc_of hx (by omega)
          have h3 : bl (v.extract 0 (v.size - 1)) = (bl v).take (v.size - 1) := by rw [blE]; simp
          refine ⟨?_, ?_⟩
          · rw [hv, h3]
            conv => lhs; rw [h1]
            exact trimR_blk hb
          · rw [← bl_length, h3, List.length_take]; omega
        have done2 : (∀ x, (bl v)[v.size - 1]? = some x → blkB x = false) → Value.string v = Value.string (strOfNums (trimS (bl s))) := by
          intro h
          unfold trimS
          rw [hdu, hv]
          have : trimR (bl v) = bl v := by
            cases hz : v.size with
            | zero => have : bl v = [] := List.length_eq_zero_iff.1 (by omega); rw [this]; rfl
            | succ k =>
              have hx : (bl v)[k]? = some (bl v)[k] := List.getElem?_eq_getElem (by omega)
              have h1 := snoc_of hx (by omega)
              rw [h1]
              exact trimR_nblk (h _ (by rw [hz]; exact hx))
          rw [this, strS]
        repeat' (first | (first | (with_reducible refine wp_seq ?_) | (with_reducible refine w_reg ?_)) | ((with_reducible refine g_on ?_); ((with_reducible refine g_mv ?_); refine l_p txs rfl rfl ?_)))
        (with_reducible refine is_l ?_); refine l_t txs rfl rfl (fun hne2 => ?_) (fun heq2 => ?_)
        · have hlt : 0 < v.size := size_pos hne2
          obtain ⟨x, hx⟩ : ∃ x, (bl v)[v.size - 1]? = some x := ⟨_, List.getElem?_eq_getElem (by omega)⟩
          have hx2 := bl_bytes v x (List.mem_of_getElem? hx)
          have hat : at_ (bl v) ((v.size : Int) - 1) = x := by unfold at_; rw [show ((v.size : Int) - 1).toNat = v.size - 1 by omega, List.getD_eq_getElem?_getD, hx]; rfl
          have hto : ((v.size : Int) - 1).toNat = v.size - 1 := by omega
          repeat' (first | ((with_reducible refine g_on ?_); ((with_reducible refine g_mv ?_); refine l_p txs rfl rfl ?_)) | ((with_reducible refine g_if ?_); (first | ((with_reducible refine g_mv ?_); refine l_p txs rfl rfl ?_) | ((with_reducible refine g_cl ?_); refine l_p txs rfl rfl ?_) | ((with_reducible refine g_ix ?_); refine l_ix txs rfl rfl (by first | omega | assumption | decide) (by first | omega | assumption | decide) ?_) | ((with_reducible refine g_bi ?_); (refine l_a txs rfl rfl (by first | exact in_i64 (by omega) (by omega) | exact in_u8 (by omega) (by omega) | exact in_u64 (by omega) (by omega) | exact in_i32 (by omega) (by omega)) ?_)))))
          rw [hat]
          skip
          (with_reducible refine is_l ?_); refine l_t txs rfl rfl (fun h1 => ?_) (fun h1 => ?_)
          · obtain ⟨k1, k2⟩ := cut2 x hx (by unfold blkB; rw [h1]; rfl)
            repeat' (first | (first | (with_reducible refine p_tn ?_) | (with_reducible refine p_bn ?_) | (with_reducible refine wp_block ?_) | (with_reducible refine w_reg ?_) | (with_reducible (refine is_if ?_; (refine w_ift rfl ?_))) | (with_reducible refine wp_skip ?_)) | (first | (with_reducible refine l_nil ?_) | ((with_reducible refine g_on ?_); (first | ((with_reducible refine g_mv ?_); refine l_p txs rfl rfl ?_) | ((with_reducible refine g_as ?_); refine l_p txs rfl rfl ?_) | ((with_reducible refine g_pk ?_); refine l_p txs rfl rfl ?_) | ((with_reducible refine g_cl ?_); refine l_p txs rfl rfl ?_) | ((with_reducible refine g_sl ?_); refine l_sl txs rfl rfl (by first | omega | assumption | decide) (by first | omega | assumption | decide) (by first | omega | assumption | decide) ?_) | ((with_reducible refine g_bi ?_); (refine l_a txs rfl rfl (by first | exact in_i64 (by omega) (by omega) | exact in_u8 (by omega) (by omega) | exact in_u64 (by omega) (by omega) | exact in_i32 (by omega) (by omega)) ?_)))) | ((with_reducible refine g_if ?_); (first | (refine l_off rfl ?_) | (first | ((with_reducible refine g_mv ?_); refine l_p txs rfl rfl ?_) | ((with_reducible refine g_pk ?_); refine l_p txs rfl rfl ?_))))))
            exact ⟨v.extract 0 (v.size - 1), _, rfl, ⟨by show Value.string (v.extract _ _) = _; rw [hto]; rfl, trivial⟩, ⟨H, k1, by omega⟩, k2⟩
          · repeat' ((with_reducible refine g_if ?_); (first | ((with_reducible refine g_mv ?_); refine l_p txs rfl rfl ?_) | ((with_reducible refine g_cl ?_); refine l_p txs rfl rfl ?_) | ((with_reducible refine g_ix ?_); refine l_ix txs rfl rfl (by first | omega | assumption | decide) (by first | omega | assumption | decide) ?_) | ((with_reducible refine g_bi ?_); (refine l_a txs rfl rfl (by first | exact in_i64 (by omega) (by omega) | exact in_u8 (by omega) (by omega) | exact in_u64 (by omega) (by omega) | exact in_i32 (by omega) (by omega)) ?_))))
            rw [hat]
            skip
            (with_reducible refine is_l ?_); refine l_t txs rfl rfl (fun h2 => ?_) (fun h2 => ?_)
            · obtain ⟨k1, k2⟩ := cut2 x hx (by unfold blkB; rw [h2]; rfl)
              repeat' (first | (first | (with_reducible refine p_tn ?_) | (with_reducible refine p_bn ?_) | (with_reducible refine wp_block ?_) | (with_reducible refine w_reg ?_) | (with_reducible (refine is_if ?_; (refine w_ift rfl ?_))) | (with_reducible refine wp_skip ?_)) | (first | (with_reducible refine l_nil ?_) | ((with_reducible refine g_on ?_); (first | ((with_reducible refine g_mv ?_); refine l_p txs rfl rfl ?_) | ((with_reducible refine g_as ?_); refine l_p txs rfl rfl ?_) | ((with_reducible refine g_pk ?_); refine l_p txs rfl rfl ?_) | ((with_reducible refine g_cl ?_); refine l_p txs rfl rfl ?_) | ((with_reducible refine g_sl ?_); refine l_sl txs rfl rfl (by first | omega | assumption | decide) (by first | omega | assumption | decide) (by first | omega | assumption | decide) ?_) | ((with_reducible refine g_bi ?_); (refine l_a txs rfl rfl (by first | exact in_i64 (by omega) (by omega) | exact in_u8 (by omega) (by omega) | exact in_u64 (by omega) (by omega) | exact in_i32 (by omega) (by omega)) ?_)))) | ((with_reducible refine g_if ?_); ((with_reducible refine g_pk ?_); refine l_p txs rfl rfl ?_))))
              exact ⟨v.extract 0 (v.size - 1), _, rfl, ⟨by show Value.string (v.extract _ _) = _; rw [hto]; rfl, trivial⟩, ⟨H, k1, by omega⟩, k2⟩
            · have he := done2 (fun y hy => by rw [hx] at hy; injection hy with hy; subst hy; unfold blkB; simp [h1, h2])
              repeat' (first | (first | (with_reducible refine p_tn ?_) | (with_reducible refine p_tx ?_) | (with_reducible refine x_hit ?_) | (with_reducible refine wp_seq ?_) | (with_reducible refine w_reg ?_) | (with_reducible (refine is_if ?_; (refine w_iff rfl ?_))) | (with_reducible refine wp_exit ?_) | (with_reducible refine wp_ret ?_)) | (first | (with_reducible refine l_nil ?_) | ((with_reducible refine g_on ?_); (first | ((with_reducible refine g_mv ?_); refine l_p txs rfl rfl ?_) | ((with_reducible refine g_as ?_); refine l_p txs rfl rfl ?_) | ((with_reducible refine g_pk ?_); refine l_p txs rfl rfl ?_))) | ((with_reducible refine g_if ?_); ((with_reducible refine g_pk ?_); refine l_p txs rfl rfl ?_))))
              refine end1 rfl rfl ?_
              exact ⟨by rw [he], H.B⟩
        · have hge : v.size = 0 := size_zero heq2
          have he := done2 (fun y hy => by rw [List.getElem?_eq_none (by omega)] at hy; cases hy)
          repeat' (first | (first | (with_reducible refine p_tn ?_) | (with_reducible refine p_tx ?_) | (with_reducible refine x_hit ?_) | (with_reducible refine wp_seq ?_) | (with_reducible refine w_reg ?_) | (with_reducible (refine is_if ?_; (refine w_iff rfl ?_))) | (with_reducible refine wp_exit ?_) | (with_reducible refine wp_ret ?_)) | (first | (with_reducible refine l_nil ?_) | ((with_reducible refine g_on ?_); (first | ((with_reducible refine g_mv ?_); refine l_p txs rfl rfl ?_) | ((with_reducible refine g_as ?_); refine l_p txs rfl rfl ?_) | ((with_reducible refine g_pk ?_); refine l_p txs rfl rfl ?_))) | ((with_reducible refine g_if ?_); (refine l_off rfl ?_))))
          refine end1 rfl rfl ?_
          exact ⟨by rw [he], H.B⟩
  · have hge : u.size = 0 := size_zero heq
    have hdu := done (fun y hy => by rw [List.getElem?_eq_none (by omega)] at hy; cases hy)
    repeat' (first | (first | (with_reducible refine p_tn ?_) | (with_reducible refine p_tx ?_) | (with_reducible refine x_hit ?_) | (with_reducible refine wp_seq ?_) | (with_reducible refine wp_block ?_) | (with_reducible (refine is_if ?_; (refine w_iff rfl ?_))) | (with_reducible refine wp_exit ?_)) | (first | (with_reducible refine l_nil ?_) | ((with_reducible refine g_on ?_); (first | ((with_reducible refine g_mv ?_); refine l_p txs rfl rfl ?_) | ((with_reducible refine g_pk ?_); refine l_p txs rfl rfl ?_))) | ((with_reducible refine g_if ?_); (refine l_off rfl ?_))))
    refine w_loop (σ := ByteArray) (S := fun v => [(0, .string v)]) (J := fun v w' => Hp w w' [] [] ∧ trimR (bl u) = trimR (bl v) ∧ v.size ≤ u.size) (μ := fun v => v.size) u ⟨rfl, trivial⟩ ⟨H, rfl, Nat.le_refl _⟩ ?_
    rintro v f w_ ⟨H, hv, hvu⟩
    have hvl := bl_length v
    have cut2 : ∀ x, (bl v)[v.size - 1]? = some x → blkB x = true → trimR (bl u) = trimR (bl (v.extract 0 (v.size - 1))) ∧ (v.extract 0 (v.size - 1)).size < v.size := by
      intro x hx hb
      have h2 : v.size - 1 < (bl v).length := (List.getElem?_eq_some_iff.1 hx).1
      have h1 := snoc_of hx (by omega)
      have h3 : bl (v.extract 0 (v.size - 1)) = (bl v).take (v.size - 1) := by rw [blE]; simp
      refine ⟨?_, ?_⟩
      · rw [hv, h3]
        conv => lhs; rw [h1]
        exact trimR_blk hb
      · rw [← bl_length, h3, List.length_take]; omega
    have done2 : (∀ x, (bl v)[v.size - 1]? = some x → blkB x = false) → Value.string v = Value.string (strOfNums (trimS (bl s))) := by
      intro h
      unfold trimS
      rw [hdu, hv]
      have : trimR (bl v) = bl v := by
        cases hz : v.size with
        | zero => have : bl v = [] := List.length_eq_zero_iff.1 (by omega); rw [this]; rfl
        | succ k =>
          have hx : (bl v)[k]? = some (bl v)[k] := List.getElem?_eq_getElem (by omega)
          have h1 := snoc_of hx (by omega)
          rw [h1]
          exact trimR_nblk (h _ (by rw [hz]; exact hx))
      rw [this, strS]
    repeat' (first | (first | (with_reducible refine wp_seq ?_) | (with_reducible refine w_reg ?_)) | ((with_reducible refine g_on ?_); ((with_reducible refine g_mv ?_); refine l_p txs rfl rfl ?_)))
    (with_reducible refine is_l ?_); refine l_t txs rfl rfl (fun hne2 => ?_) (fun heq2 => ?_)
    · have hlt : 0 < v.size := size_pos hne2
      obtain ⟨x, hx⟩ : ∃ x, (bl v)[v.size - 1]? = some x := ⟨_, List.getElem?_eq_getElem (by omega)⟩
      have hx2 := bl_bytes v x (List.mem_of_getElem? hx)
      have hat : at_ (bl v) ((v.size : Int) - 1) = x := by unfold at_; rw [show ((v.size : Int) - 1).toNat = v.size - 1 by omega, List.getD_eq_getElem?_getD, hx]; rfl
      have hto : ((v.size : Int) - 1).toNat = v.size - 1 := by omega
      repeat' (first | ((with_reducible refine g_on ?_); ((with_reducible refine g_mv ?_); refine l_p txs rfl rfl ?_)) | ((with_reducible refine g_if ?_); (first | ((with_reducible refine g_mv ?_); refine l_p txs rfl rfl ?_) | ((with_reducible refine g_cl ?_); refine l_p txs rfl rfl ?_) | ((with_reducible refine g_ix ?_); refine l_ix txs rfl rfl (by first | omega | assumption | decide) (by first | omega | assumption | decide) ?_) | ((with_reducible refine g_bi ?_); (refine l_a txs rfl rfl (by first | exact in_i64 (by omega) (by omega) | exact in_u8 (by omega) (by omega) | exact in_u64 (by omega) (by omega) | exact in_i32 (by omega) (by omega)) ?_)))))
      rw [hat]
      skip
      (with_reducible refine is_l ?_); refine l_t txs rfl rfl (fun h1 => ?_) (fun h1 => ?_)
      · obtain ⟨k1, k2⟩ := cut2 x hx (by unfold blkB; rw [h1]; rfl)
        repeat' (first | (first | (with_reducible refine p_tn ?_) | (with_reducible refine p_bn ?_) | (with_reducible refine wp_block ?_) | (with_reducible refine w_reg ?_) | (with_reducible (refine is_if ?_; (refine w_ift rfl ?_))) | (with_reducible refine wp_skip ?_)) | (first | (with_reducible refine l_nil ?_) | ((with_reducible refine g_on ?_); (first | ((with_reducible refine g_mv ?_); refine l_p txs rfl rfl ?_) | ((with_reducible refine g_as ?_); refine l_p txs rfl rfl ?_) | ((with_reducible refine g_pk ?_); refine l_p txs rfl rfl ?_) | ((with_reducible refine g_cl ?_); refine l_p txs rfl rfl ?_) | ((with_reducible refine g_sl ?_); refine l_sl txs rfl rfl (by first | omega | assumption | decide) (by first | omega | assumption | decide) (by first | omega | assumption | decide) ?_) | ((with_reducible refine g_bi ?_); (refine l_a txs rfl rfl (by first | exact in_i64 (by omega) (by omega) | exact in_u8 (by omega) (by omega) | exact in_u64 (by omega) (by omega) | exact in_i32 (by omega) (by omega)) ?_)))) | ((with_reducible refine g_if ?_); (first | (refine l_off rfl ?_) | (first | ((with_reducible refine g_mv ?_); refine l_p txs rfl rfl ?_) | ((with_reducible refine g_pk ?_); refine l_p txs rfl rfl ?_))))))
        exact ⟨v.extract 0 (v.size - 1), _, rfl, ⟨by show Value.string (v.extract _ _) = _; rw [hto]; rfl, trivial⟩, ⟨H, k1, by omega⟩, k2⟩
      · repeat' ((with_reducible refine g_if ?_); (first | ((with_reducible refine g_mv ?_); refine l_p txs rfl rfl ?_) | ((with_reducible refine g_cl ?_); refine l_p txs rfl rfl ?_) | ((with_reducible refine g_ix ?_); refine l_ix txs rfl rfl (by first | omega | assumption | decide) (by first | omega | assumption | decide) ?_) | ((with_reducible refine g_bi ?_); (refine l_a txs rfl rfl (by first | exact in_i64 (by omega) (by omega) | exact in_u8 (by omega) (by omega) | exact in_u64 (by omega) (by omega) | exact in_i32 (by omega) (by omega)) ?_))))
        rw [hat]
        skip
        (with_reducible refine is_l ?_); refine l_t txs rfl rfl (fun h2 => ?_) (fun h2 => ?_)
        · obtain ⟨k1, k2⟩ := cut2 x hx (by unfold blkB; rw [h2]; rfl)
          repeat' (first | (first | (with_reducible refine p_tn ?_) | (with_reducible refine p_bn ?_) | (with_reducible refine wp_block ?_) | (with_reducible refine w_reg ?_) | (with_reducible (refine is_if ?_; (refine w_ift rfl ?_))) | (with_reducible refine wp_skip ?_)) | (first | (with_reducible refine l_nil ?_) | ((with_reducible refine g_on ?_); (first | ((with_reducible refine g_mv ?_); refine l_p txs rfl rfl ?_) | ((with_reducible refine g_as ?_); refine l_p txs rfl rfl ?_) | ((with_reducible refine g_pk ?_); refine l_p txs rfl rfl ?_) | ((with_reducible refine g_cl ?_); refine l_p txs rfl rfl ?_) | ((with_reducible refine g_sl ?_); refine l_sl txs rfl rfl (by first | omega | assumption | decide) (by first | omega | assumption | decide) (by first | omega | assumption | decide) ?_) | ((with_reducible refine g_bi ?_); (refine l_a txs rfl rfl (by first | exact in_i64 (by omega) (by omega) | exact in_u8 (by omega) (by omega) | exact in_u64 (by omega) (by omega) | exact in_i32 (by omega) (by omega)) ?_)))) | ((with_reducible refine g_if ?_); ((with_reducible refine g_pk ?_); refine l_p txs rfl rfl ?_))))
          exact ⟨v.extract 0 (v.size - 1), _, rfl, ⟨by show Value.string (v.extract _ _) = _; rw [hto]; rfl, trivial⟩, ⟨H, k1, by omega⟩, k2⟩
        · have he := done2 (fun y hy => by rw [hx] at hy; injection hy with hy; subst hy; unfold blkB; simp [h1, h2])
          repeat' (first | (first | (with_reducible refine p_tn ?_) | (with_reducible refine p_tx ?_) | (with_reducible refine x_hit ?_) | (with_reducible refine wp_seq ?_) | (with_reducible refine w_reg ?_) | (with_reducible (refine is_if ?_; (refine w_iff rfl ?_))) | (with_reducible refine wp_exit ?_) | (with_reducible refine wp_ret ?_)) | (first | (with_reducible refine l_nil ?_) | ((with_reducible refine g_on ?_); (first | ((with_reducible refine g_mv ?_); refine l_p txs rfl rfl ?_) | ((with_reducible refine g_as ?_); refine l_p txs rfl rfl ?_) | ((with_reducible refine g_pk ?_); refine l_p txs rfl rfl ?_))) | ((with_reducible refine g_if ?_); ((with_reducible refine g_pk ?_); refine l_p txs rfl rfl ?_))))
          refine end1 rfl rfl ?_
          exact ⟨by rw [he], H.B⟩
    · have hge : v.size = 0 := size_zero heq2
      have he := done2 (fun y hy => by rw [List.getElem?_eq_none (by omega)] at hy; cases hy)
      repeat' (first | (first | (with_reducible refine p_tn ?_) | (with_reducible refine p_tx ?_) | (with_reducible refine x_hit ?_) | (with_reducible refine wp_seq ?_) | (with_reducible refine w_reg ?_) | (with_reducible (refine is_if ?_; (refine w_iff rfl ?_))) | (with_reducible refine wp_exit ?_) | (with_reducible refine wp_ret ?_)) | (first | (with_reducible refine l_nil ?_) | ((with_reducible refine g_on ?_); (first | ((with_reducible refine g_mv ?_); refine l_p txs rfl rfl ?_) | ((with_reducible refine g_as ?_); refine l_p txs rfl rfl ?_) | ((with_reducible refine g_pk ?_); refine l_p txs rfl rfl ?_))) | ((with_reducible refine g_if ?_); (refine l_off rfl ?_))))
      refine end1 rfl rfl ?_
      exact ⟨by rw [he], H.B⟩
end Go.Proofs.YthgojbdpmcccaaaGreatDoor.K
end
section
namespace Go.Proofs.YthgojbdpmcccaaaGreatDoor.K
open Go.RowKit Go.Proofs.YthgojbdpmcccaaaGreatDoor.Q Go.Proofs.YthgojbdpmcccaaaGreatDoor.Wb Go.Proofs.YthgojbdpmcccaaaGreatDoorW.PrintWords
set_option linter.unusedVariables false
set_option linter.unusedSimpArgs false
abbrev rowT (v : Value) (l : List L) : RowD := ⟨v, 9, 1, l.length, strC l⟩
theorem strC_snoc (l : List L) (x : L) : strC (l ++ [x]) = strC l ++ [.string (strOfNums x)] := by simp [strC]
theorem bl_ext (s : ByteArray) (a b : Nat) : Value.string (s.extract a b) = .string (strOfNums (((bl s).drop a).take (b - a))) := by rw [← blE, strS]
/-- A list at a place between two others. -/
theorem split_at {l : L} {a i : Nat} {x : Int} (hai : a ≤ i) (hx : l[i]? = some x) : l.drop a = (l.drop a).take (i - a) ++ x :: l.drop (i + 1) := by
  have hi : i < l.length := (List.getElem?_eq_some_iff.1 hx).1
  have h1 := List.take_append_drop (i - a) (l.drop a)
  rw [List.drop_drop, show a + (i - a) = i by omega, List.drop_eq_getElem_cons hi] at h1
  rw [(List.getElem?_eq_some_iff.1 hx).2] at h1
  exact h1.symm
theorem take_at {l : L} {a i : Nat} {x : Int} (hai : a ≤ i) (hx : l[i]? = some x) : (l.drop a).take (i + 1 - a) = (l.drop a).take (i - a) ++ [x] := by
  have hi : i < l.length := (List.getElem?_eq_some_iff.1 hx).1
  rw [show i + 1 - a = (i - a) + 1 by omega, List.take_succ_eq_append_getElem (by rw [List.length_drop]; omega)]
  congr 2
  rw [List.getElem_drop]
  have := (List.getElem?_eq_some_iff.1 hx).2
  simp only [show a + (i - a) = i by omega]
  exact this
theorem at_of {l : L} {i : Nat} {x : Int} (hx : l[i]? = some x) : at_ l (i : Int) = x := by unfold at_; rw [Int.toNat_natCast, List.getD_eq_getElem?_getD, hx]; rfl
set_option maxHeartbeats 4000000 in
theorem pieces_c (s : ByteArray) (c : Int) (w : World) (hs : s.size ≤ 100000000) : Calls Tryz.prog 125 #[.string s, .int .u8 c] w fun e w' => ∃ A1 c1, e = .returned (.slice A1 (splitC c (bl s)).length c1) ∧ Hp w w' [] [rowT (.slice A1 (splitC c (bl s)).length c1) (splitC c (bl s))] := by
  refine enter (args := [.string s, .int .u8 c]) Tryz.func125 rfl Tryz.ntmps125 rfl ?_
  have hbl := bl_length s
  have H := (Hp.nil w).nilRow 9 1
  repeat' (first | (first | (with_reducible refine p_tn ?_) | (with_reducible refine wp_seq ?_) | (with_reducible refine wp_block ?_) | (with_reducible refine w_reg ?_)) | (first | (with_reducible refine l_nil ?_) | ((with_reducible refine g_on ?_); ((with_reducible refine g_as ?_); refine l_p txs rfl rfl ?_))))
  refine w_loop (σ := (Nat × Nat) × List L × Option Addr × Nat) (S := fun t => [(0, .string s), (1, .int .u8 c), (5, .slice t.2.2.1 t.2.1.length t.2.2.2), (6, .int .i64 (t.1.1 : Int)), (7, .int .i64 (t.1.2 : Int))])
    (J := fun t w' => Hp w w' [] [rowT (.slice t.2.2.1 t.2.1.length t.2.2.2) t.2.1] ∧ t.1.1 ≤ t.1.2 ∧ t.1.2 ≤ s.size ∧ t.2.1.length ≤ t.1.1 ∧ c ∉ ((bl s).drop t.1.1).take (t.1.2 - t.1.1) ∧ splitC c (bl s) = t.2.1 ++ splitC c ((bl s).drop t.1.1)) (μ := fun t => s.size - t.1.2) ((0, 0), [], none, 0) ⟨rfl, rfl, rfl, rfl, rfl, trivial⟩ ⟨H, Nat.le_refl _, Nat.zero_le _, Nat.le_refl _, by simp, rfl⟩ ?_
  rintro ⟨⟨a, i⟩, acc, A2, c2⟩ f w_ ⟨H, hai, hi, hac, hno, hD⟩
  simp only at H hai hi hac hno hD ⊢
  repeat' (first | (first | (with_reducible refine wp_seq ?_) | (with_reducible refine w_reg ?_)) | ((with_reducible refine g_on ?_); (first | ((with_reducible refine g_mv ?_); refine l_p txs rfl rfl ?_) | ((with_reducible refine g_cl ?_); refine l_p txs rfl rfl ?_))))
  (with_reducible refine is_l ?_); refine l_t txs rfl rfl (fun hlt => ?_) (fun hge => ?_)
  · obtain ⟨x, hx⟩ : ∃ x, (bl s)[i]? = some x := ⟨_, List.getElem?_eq_getElem (by omega)⟩
    have hat := at_of hx
    have hsp := split_at hai hx
    have hta := take_at hai hx
    repeat' (first | (first | (with_reducible refine p_tn ?_) | (with_reducible refine wp_seq ?_) | (with_reducible refine wp_block ?_) | (with_reducible refine w_reg ?_) | (with_reducible (refine is_if ?_; (refine w_ift rfl ?_))) | (with_reducible refine wp_skip ?_)) | (first | (with_reducible refine l_nil ?_) | ((with_reducible refine g_on ?_); (first | ((with_reducible refine g_mv ?_); refine l_p txs rfl rfl ?_) | ((with_reducible refine g_ix ?_); refine l_ix txs rfl rfl (by first | omega | assumption | decide) (by first | omega | assumption | decide) ?_)))))
    rw [hat]
    skip
    (with_reducible refine is_l ?_); refine l_t txs rfl rfl (fun he => ?_) (fun he => ?_)
    · subst he
      rw [hsp, splitC_cut _ hno] at hD
      repeat' (first | (first | (with_reducible refine p_tn ?_) | (with_reducible refine wp_seq ?_) | (with_reducible refine w_reg ?_) | (with_reducible (refine is_if ?_; (refine w_ift rfl ?_)))) | (first | (with_reducible refine l_nil ?_) | ((with_reducible refine g_on ?_); (first | ((with_reducible refine g_mv ?_); refine l_p txs rfl rfl ?_) | ((with_reducible refine g_sl ?_); refine l_sl txs rfl rfl (by first | omega | assumption | decide) (by first | omega | assumption | decide) (by first | omega | assumption | decide) ?_)))))
      (with_reducible refine is_l ?_); refine h_bs H info_str3 Tryz.underlying22 (by decide) (by decide) rfl rfl (fill_s _) (fun g_ w_ H => ?_)
      (with_reducible refine is_l ?_); refine h_app H 0 rfl info_str3 Tryz.underlying22 rfl rfl rfl rfl (H.cellRd 0 rfl) rfl rfl (by show (acc.length + 1) * 16 ≤ _; omega) (fun v w_ hv H => ?_)
      obtain ⟨A', c', rfl⟩ := hv
      repeat' (first | (first | (with_reducible refine p_tn ?_) | (with_reducible refine p_bn ?_) | (with_reducible refine w_reg ?_)) | (first | (with_reducible refine l_nil ?_) | ((with_reducible refine g_on ?_); (first | ((with_reducible refine g_mv ?_); refine l_p txs rfl rfl ?_) | ((with_reducible refine g_as ?_); refine l_p txs rfl rfl ?_) | ((with_reducible refine g_bi ?_); (refine l_a txs rfl rfl (by first | exact in_i64 (by omega) (by omega) | exact in_u8 (by omega) (by omega) | exact in_u64 (by omega) (by omega) | exact in_i32 (by omega) (by omega)) ?_))))))
      have H := H.pick [] [0] (by decide) (by decide) rfl rfl
      refine ⟨((i + 1, i + 1), acc ++ [((bl s).drop a).take (i - a)], A', c'), _, rfl, ⟨rfl, rfl, ?_, rfl, rfl, trivial⟩, ⟨?_, Nat.le_refl _, by show i + 1 ≤ _; omega, ?_, ?_, ?_⟩, by show _ - (i + 1) < _ - i; omega⟩
      · show Value.slice A' (acc.length + 1) c' = Value.slice A' (acc ++ [((bl s).drop a).take (i - a)]).length c'
        simp
      · show Hp w _ [] [rowT (.slice A' (acc ++ [((bl s).drop a).take (i - a)]).length c') (acc ++ [((bl s).drop a).take (i - a)])]
        have e1 : (acc ++ [((bl s).drop a).take (i - a)]).length = acc.length + 1 := by simp
        unfold rowT
        rw [e1, strC_snoc, ← bl_ext]
        exact H
      · show (acc ++ [((bl s).drop a).take (i - a)]).length ≤ i + 1
        simp
        omega
      · show _ ∉ ((bl s).drop (i + 1)).take (i + 1 - (i + 1))
        simp
      · show _ = (acc ++ [((bl s).drop a).take (i - a)]) ++ splitC _ ((bl s).drop (i + 1))
        rw [hD, List.append_assoc]
        rfl
    · repeat' (first | (first | (with_reducible refine p_tn ?_) | (with_reducible refine p_bn ?_) | (with_reducible refine w_reg ?_) | (with_reducible (refine is_if ?_; (refine w_iff rfl ?_))) | (with_reducible refine wp_skip ?_)) | (first | (with_reducible refine l_nil ?_) | ((with_reducible refine g_on ?_); (first | ((with_reducible refine g_mv ?_); refine l_p txs rfl rfl ?_) | ((with_reducible refine g_as ?_); refine l_p txs rfl rfl ?_) | ((with_reducible refine g_bi ?_); (refine l_a txs rfl rfl (by first | exact in_i64 (by omega) (by omega) | exact in_u8 (by omega) (by omega) | exact in_u64 (by omega) (by omega) | exact in_i32 (by omega) (by omega)) ?_))))))
      refine ⟨((a, i + 1), acc, A2, c2), _, rfl, ⟨rfl, rfl, rfl, rfl, rfl, trivial⟩, ⟨H, by show a ≤ i + 1; omega, by show i + 1 ≤ _; omega, hac, ?_, hD⟩, by show _ - (i + 1) < _ - i; omega⟩
      show c ∉ ((bl s).drop a).take (i + 1 - a)
      rw [hta, List.mem_append, not_or]
      exact ⟨hno, by simp; exact fun e => he e.symm⟩
  · have his : i = s.size := by omega
    have hall : ((bl s).drop a).take (i - a) = (bl s).drop a := List.take_of_length_le (by rw [List.length_drop]; omega)
    rw [hall] at hno
    rw [splitC_none hno] at hD
    repeat' (first | (first | (with_reducible refine p_tn ?_) | (with_reducible refine p_tx ?_) | (with_reducible refine x_hit ?_) | (with_reducible refine wp_seq ?_) | (with_reducible refine w_reg ?_) | (with_reducible (refine is_if ?_; (refine w_iff rfl ?_))) | (with_reducible refine wp_exit ?_)) | (first | (with_reducible refine l_nil ?_) | ((with_reducible refine g_on ?_); (first | ((with_reducible refine g_mv ?_); refine l_p txs rfl rfl ?_) | ((with_reducible refine g_sl ?_); refine l_sl txs rfl rfl (by first | omega | assumption | decide) (by first | omega | assumption | decide) (by first | omega | assumption | decide) ?_)))))
    (with_reducible refine is_l ?_); refine h_bs H info_str3 Tryz.underlying22 (by decide) (by decide) rfl rfl (fill_s _) (fun g_ w_ H => ?_)
    (with_reducible refine is_l ?_); refine h_app H 0 rfl info_str3 Tryz.underlying22 rfl rfl rfl rfl (H.cellRd 0 rfl) rfl rfl (by show (acc.length + 1) * 16 ≤ _; omega) (fun v w_ hv H => ?_)
    obtain ⟨A', c', rfl⟩ := hv
    repeat' (first | (first | (with_reducible refine p_tn ?_) | (with_reducible refine wp_ret ?_)) | (first | (with_reducible refine l_nil ?_) | ((with_reducible refine g_on ?_); ((with_reducible refine g_as ?_); refine l_p txs rfl rfl ?_))))
    refine end1 rfl rfl ?_
    have H := H.pick [] [0] (by decide) (by decide) rfl rfl
    have e1 : (acc ++ [(bl s).drop a]).length = acc.length + 1 := by simp
    rw [hD]
    unfold rowT
    rw [e1, strC_snoc]
    refine ⟨A', c', rfl, ?_⟩
    have e2 : Value.string (s.extract a s.size) = .string (strOfNums ((bl s).drop a)) := by rw [bl_ext, List.take_of_length_le (by rw [List.length_drop]; omega)]
    rw [← e2]
    exact H
/-- A line and where the next begins. -/
def lineV2 (s : ByteArray) (k : Nat) : Value := match lineS ((bl s).drop k) with
  | some (x, r) => .tuple #[.string (strOfNums x), .int .i64 ((s.size - r.length : Nat) : Int)]
  | none => .tuple #[.string ⟨#[]⟩, .int .i64 (-1)]
theorem chop_13 {q : L} {y : Int} (h : y = 13) : chop (q ++ [y]) = q := by rw [h]; exact chop_cr q
theorem chop_n13 {q : L} {y : Int} (h : y ≠ 13) : chop (q ++ [y]) = q ++ [y] := chop_same (by simp; exact h)
set_option maxHeartbeats 4000000 in
theorem rline_c (s : ByteArray) (k : Nat) (w : World) (hs : s.size ≤ 2000000000000) (hk : k ≤ s.size) : Calls Tryz.prog 132 #[.string s, .int .i64 (k : Int)] w fun e w' => e = .returned (lineV2 s k) ∧ Below w.heap.size w w' := by
  refine enter (args := [.string s, .int .i64 (k : Int)]) Tryz.func132 rfl Tryz.ntmps132 rfl ?_
  have hbl := bl_length s
  have H := Hp.nil w
  repeat' (first | (first | (with_reducible refine p_tn ?_) | (with_reducible refine wp_seq ?_) | (with_reducible refine wp_block ?_) | (with_reducible refine w_reg ?_)) | (first | (with_reducible refine l_nil ?_) | ((with_reducible refine g_on ?_); (first | ((with_reducible refine g_mv ?_); refine l_p txs rfl rfl ?_) | ((with_reducible refine g_as ?_); refine l_p txs rfl rfl ?_)))))
  refine w_loop (σ := Nat) (S := fun i => [(0, .string s), (1, .int .i64 (k : Int)), (6, .int .i64 (i : Int))]) (J := fun i w' => Hp w w' [] [] ∧ k ≤ i ∧ i ≤ s.size ∧ (10 : Int) ∉ ((bl s).drop k).take (i - k)) (μ := fun i => s.size - i) k ⟨rfl, rfl, rfl, trivial⟩ ⟨H, Nat.le_refl _, hk, by simp⟩ ?_
  rintro i f w_ ⟨H, hki, hi, hno⟩
  repeat' (first | (first | (with_reducible refine wp_seq ?_) | (with_reducible refine w_reg ?_)) | ((with_reducible refine g_on ?_); (first | ((with_reducible refine g_mv ?_); refine l_p txs rfl rfl ?_) | ((with_reducible refine g_cl ?_); refine l_p txs rfl rfl ?_))))
  (with_reducible refine is_l ?_); refine l_t txs rfl rfl (fun hlt => ?_) (fun hge => ?_)
  · obtain ⟨x, hx⟩ : ∃ x, (bl s)[i]? = some x := ⟨_, List.getElem?_eq_getElem (by omega)⟩
    have hat := at_of hx
    have hsp := split_at hki hx
    have hta := take_at hki hx
    have hdl : ((bl s).drop (i + 1)).length = s.size - (i + 1) := by rw [List.length_drop]; omega
    repeat' (first | (first | (with_reducible refine p_tn ?_) | (with_reducible refine wp_seq ?_) | (with_reducible refine wp_block ?_) | (with_reducible refine w_reg ?_) | (with_reducible (refine is_if ?_; (refine w_ift rfl ?_))) | (with_reducible refine wp_skip ?_)) | (first | (with_reducible refine l_nil ?_) | ((with_reducible refine g_on ?_); (first | ((with_reducible refine g_mv ?_); refine l_p txs rfl rfl ?_) | ((with_reducible refine g_ix ?_); refine l_ix txs rfl rfl (by first | omega | assumption | decide) (by first | omega | assumption | decide) ?_)))))
    rw [hat]
    skip
    (with_reducible refine is_l ?_); refine l_t txs rfl rfl (fun he => ?_) (fun he => ?_)
    · obtain ⟨q, hq⟩ : ∃ q, q = ((bl s).drop k).take (i - k) := ⟨_, rfl⟩
      rw [← hq] at hsp hno
      have hline : lineS ((bl s).drop k) = some (chop q, (bl s).drop (i + 1)) := by rw [hsp, he]; exact lineS_mk _ hno
      have hv : ∀ a b y, chop q = y → ((bl s).drop a).take (b - a) = y → Value.tuple #[.string (s.extract a b), .int .i64 ((i : Int) + 1)] = lineV2 s k := fun a b y hy hab => by
        unfold lineV2
        rw [hline, bl_ext, hab]
        simp only [hy, hdl]
        rw [show ((s.size - (s.size - (i + 1)) : Nat) : Int) = (i : Int) + 1 by omega]
      repeat' (first | (first | (with_reducible refine p_tn ?_) | (with_reducible refine wp_seq ?_) | (with_reducible refine w_reg ?_) | (with_reducible (refine is_if ?_; (refine w_ift rfl ?_)))) | (first | (with_reducible refine l_nil ?_) | ((with_reducible refine g_on ?_); ((with_reducible refine g_mv ?_); refine l_p txs rfl rfl ?_))))
      (with_reducible refine is_l ?_); refine l_t txs rfl rfl (fun hgt => ?_) (fun hng => ?_)
      · obtain ⟨y, hy⟩ : ∃ y, (bl s)[i - 1]? = some y := ⟨_, List.getElem?_eq_getElem (by omega)⟩
        have hat2 := at_of hy
        rw [show ((i - 1 : Nat) : Int) = (i : Int) - 1 by omega] at hat2
        have hta2 := take_at (a := k) (by omega) hy
        rw [show i - 1 + 1 - k = i - k by omega, ← hq] at hta2
        have hto : ((i : Int) - 1).toNat = i - 1 := by omega
        repeat' (first | ((with_reducible refine g_on ?_); ((with_reducible refine g_mv ?_); refine l_p txs rfl rfl ?_)) | ((with_reducible refine g_if ?_); (first | ((with_reducible refine g_mv ?_); refine l_p txs rfl rfl ?_) | ((with_reducible refine g_ix ?_); refine l_ix txs rfl rfl (by first | omega | assumption | decide) (by first | omega | assumption | decide) ?_) | ((with_reducible refine g_bi ?_); (refine l_a txs rfl rfl (by first | exact in_i64 (by omega) (by omega) | exact in_u8 (by omega) (by omega) | exact in_u64 (by omega) (by omega) | exact in_i32 (by omega) (by omega)) ?_)))))
        rw [hat2]
        skip
        (with_reducible refine is_l ?_); refine l_t txs rfl rfl (fun hc => ?_) (fun hc => ?_)
        · repeat' (first | (first | (with_reducible refine p_tn ?_) | (with_reducible refine p_tr ?_) | (with_reducible refine p_br ?_) | (with_reducible refine wp_seq ?_) | (with_reducible refine w_reg ?_) | (with_reducible (refine is_if ?_; (refine w_ift rfl ?_))) | (with_reducible refine wp_ret ?_)) | (first | (with_reducible refine l_nil ?_) | ((with_reducible refine g_on ?_); (first | ((with_reducible refine g_mv ?_); refine l_p txs rfl rfl ?_) | ((with_reducible refine g_as ?_); refine l_p txs rfl rfl ?_) | ((with_reducible refine g_pk ?_); refine l_p txs rfl rfl ?_) | ((with_reducible refine g_sl ?_); refine l_sl txs rfl rfl (by first | omega | assumption | decide) (by first | omega | assumption | decide) (by first | omega | assumption | decide) ?_) | ((with_reducible refine g_bi ?_); (refine l_a txs rfl rfl (by first | exact in_i64 (by omega) (by omega) | exact in_u8 (by omega) (by omega) | exact in_u64 (by omega) (by omega) | exact in_i32 (by omega) (by omega)) ?_))))))
          refine end2 rfl rfl rfl ?_
          refine ⟨?_, H.B⟩
          rw [← hv k (i - 1) _ (by rw [hta2]; exact chop_13 hc) rfl]
          rw [hto]
          rfl
        · repeat' (first | (first | (with_reducible refine p_tn ?_) | (with_reducible refine p_tr ?_) | (with_reducible refine p_br ?_) | (with_reducible refine wp_seq ?_) | (with_reducible refine w_reg ?_) | (with_reducible (refine is_if ?_; (refine w_iff rfl ?_))) | (with_reducible refine wp_skip ?_) | (with_reducible refine wp_ret ?_)) | (first | (with_reducible refine l_nil ?_) | ((with_reducible refine g_on ?_); (first | ((with_reducible refine g_mv ?_); refine l_p txs rfl rfl ?_) | ((with_reducible refine g_as ?_); refine l_p txs rfl rfl ?_) | ((with_reducible refine g_pk ?_); refine l_p txs rfl rfl ?_) | ((with_reducible refine g_sl ?_); refine l_sl txs rfl rfl (by first | omega | assumption | decide) (by first | omega | assumption | decide) (by first | omega | assumption | decide) ?_) | ((with_reducible refine g_bi ?_); (refine l_a txs rfl rfl (by first | exact in_i64 (by omega) (by omega) | exact in_u8 (by omega) (by omega) | exact in_u64 (by omega) (by omega) | exact in_i32 (by omega) (by omega)) ?_))))))
          refine end2 rfl rfl rfl ?_
          refine ⟨?_, H.B⟩
          rw [← hv k i q (by rw [hta2]; exact chop_n13 hc) hq.symm]
          rfl
      · have hik : i = k := by omega
        have hq0 : q = [] := by rw [hq, hik]; simp
        repeat' (first | (first | (with_reducible refine p_tn ?_) | (with_reducible refine p_tr ?_) | (with_reducible refine p_br ?_) | (with_reducible refine wp_seq ?_) | (with_reducible refine w_reg ?_) | (with_reducible (refine is_if ?_; (refine w_iff rfl ?_))) | (with_reducible refine wp_skip ?_) | (with_reducible refine wp_ret ?_)) | (first | (with_reducible refine l_nil ?_) | ((with_reducible refine g_on ?_); (first | ((with_reducible refine g_mv ?_); refine l_p txs rfl rfl ?_) | ((with_reducible refine g_as ?_); refine l_p txs rfl rfl ?_) | ((with_reducible refine g_pk ?_); refine l_p txs rfl rfl ?_) | ((with_reducible refine g_sl ?_); refine l_sl txs rfl rfl (by first | omega | assumption | decide) (by first | omega | assumption | decide) (by first | omega | assumption | decide) ?_) | ((with_reducible refine g_bi ?_); (refine l_a txs rfl rfl (by first | exact in_i64 (by omega) (by omega) | exact in_u8 (by omega) (by omega) | exact in_u64 (by omega) (by omega) | exact in_i32 (by omega) (by omega)) ?_)))) | ((with_reducible refine g_if ?_); (refine l_off rfl ?_))))
        refine end2 rfl rfl rfl ?_
        refine ⟨?_, H.B⟩
        rw [← hv k i q (by rw [hq0]; rfl) hq.symm]
        rfl
    · repeat' (first | (first | (with_reducible refine p_tn ?_) | (with_reducible refine p_bn ?_) | (with_reducible refine w_reg ?_) | (with_reducible (refine is_if ?_; (refine w_iff rfl ?_))) | (with_reducible refine wp_skip ?_)) | (first | (with_reducible refine l_nil ?_) | ((with_reducible refine g_on ?_); (first | ((with_reducible refine g_mv ?_); refine l_p txs rfl rfl ?_) | ((with_reducible refine g_as ?_); refine l_p txs rfl rfl ?_) | ((with_reducible refine g_bi ?_); (refine l_a txs rfl rfl (by first | exact in_i64 (by omega) (by omega) | exact in_u8 (by omega) (by omega) | exact in_u64 (by omega) (by omega) | exact in_i32 (by omega) (by omega)) ?_))))))
      refine ⟨i + 1, _, rfl, ⟨rfl, rfl, rfl, trivial⟩, ⟨H, by omega, by omega, ?_⟩, by omega⟩
      rw [hta, List.mem_append, not_or]
      exact ⟨hno, by simp; exact fun e => he e.symm⟩
  · have his : i = s.size := by omega
    have hall : ((bl s).drop k).take (i - k) = (bl s).drop k := List.take_of_length_le (by rw [List.length_drop]; omega)
    rw [hall] at hno
    repeat' (first | (first | (with_reducible refine p_tn ?_) | (with_reducible refine p_tx ?_) | (with_reducible refine x_hit ?_) | (with_reducible refine wp_seq ?_) | (with_reducible refine w_reg ?_) | (with_reducible (refine is_if ?_; (refine w_iff rfl ?_))) | (with_reducible refine wp_exit ?_) | (with_reducible refine wp_ret ?_)) | (first | (with_reducible refine l_nil ?_) | ((with_reducible refine g_on ?_); ((with_reducible refine g_as ?_); refine l_p txs rfl rfl ?_))))
    refine end2 rfl rfl rfl ?_
    refine ⟨?_, H.B⟩
    unfold lineV2
    rw [lineS_none_mk hno]
end Go.Proofs.YthgojbdpmcccaaaGreatDoor.K
end
section
namespace Go.Proofs.YthgojbdpmcccaaaGreatDoor.K
open Go.RowKit Go.Proofs.YthgojbdpmcccaaaGreatDoor.Q Go.Proofs.YthgojbdpmcccaaaGreatDoor.Wb Go.Proofs.YthgojbdpmcccaaaGreatDoorW.PrintWords
set_option linter.unusedVariables false
set_option linter.unusedSimpArgs false
def CtR (w : World) (tl : Nat) (s : ByteArray) (e : Ending) (w' : World) : Prop := match cutS tl (bl s) with
  | .error k => ∃ A n c, e = .returned (.tuple #[.string ⟨#[]⟩, .slice A n c, .int .i64 0, .int .i64 (k : Int)]) ∧ Below w.heap.size w w'
  | .ok (first, ls, r) => ∃ A c, e = .returned (.tuple #[.string (strOfNums first), .slice A ls.length c, .int .i64 ((s.size - r.length : Nat) : Int), .int .i64 0]) ∧ Hp w w' [] [rowT (.slice A ls.length c) ls]
theorem ctR_err {w : World} {tl k : Nat} {s : ByteArray} {w' : World} {A : Option Addr} {n c : Nat} (h : cutS tl (bl s) = .error k) (hb : Below w.heap.size w w') : CtR w tl s (.returned (.tuple #[.string ⟨#[]⟩, .slice A n c, .int .i64 0, .int .i64 (k : Int)])) w' := by unfold CtR; rw [h]; exact ⟨A, n, c, rfl, hb⟩
theorem line_next {b : L} {k : Nat} {x r : L} (h : lineS (b.drop k) = some (x, r)) : r = b.drop (b.length - r.length) ∧ k < b.length - r.length ∧ r.length ≤ b.length := by
  obtain ⟨q, hq, _, _⟩ := lineS_some h
  have hl := congrArg List.length hq
  rw [List.length_drop, List.length_append, List.length_cons] at hl
  refine ⟨?_, by omega, by omega⟩
  have e : b.length - r.length = k + (q.length + 1) := by omega
  rw [e, ← List.drop_drop, hq, show q ++ 10 :: r = (q ++ [10]) ++ r by simp, List.drop_left' (by simp)]
theorem lines_empty {f : Nat} {b r : L} (h : lineS b = some ([], r)) : linesS (f + 1) b = some ([], r) := by rw [linesS_succ, h]
theorem lines_more {f : Nat} {b x r : L} (hx : x ≠ []) (h : lineS b = some (x, r)) : linesS (f + 1) b = match linesS f r with | none => none | some (ls, q) => some (x :: ls, q) := by
  rw [linesS_succ, h]
  cases x with
  | nil => exact absurd rfl hx
  | cons y ys => rfl
theorem lines_none {f : Nat} {b : L} (h : lineS b = none) : linesS (f + 1) b = none := by rw [linesS_succ, h]
set_option maxRecDepth 100000 in
set_option maxHeartbeats 8000000 in
theorem cutHead_c (s : ByteArray) (tl : Nat) (w : World) (hs : s.size ≤ 2000000000000) : Calls Tryz.prog 124 #[.string s, .int .i64 (tl : Int)] w (CtR w tl s) := by
  refine enter (args := [.string s, .int .i64 (tl : Int)]) Tryz.func124 rfl Tryz.ntmps124 rfl ?_
  have hbl := bl_length s
  have H := (Hp.nil w).nilRow 9 1
  repeat' (first | (first | (with_reducible refine p_tn ?_) | (with_reducible refine wp_seq ?_) | (with_reducible refine w_reg ?_)) | (first | (with_reducible refine l_nil ?_) | ((with_reducible refine g_on ?_); (first | ((with_reducible refine g_mv ?_); refine l_p txs rfl rfl ?_) | ((with_reducible refine g_as ?_); refine l_p txs rfl rfl ?_)))))
  have hln := rline_c s 0 w hs (Nat.zero_le _)
  unfold lineV2 at hln
  rw [List.drop_zero] at hln
  cases hl : lineS (bl s) with
  | none =>
    rw [hl] at hln
    (with_reducible refine is_l ?_); refine l_callv rfl rfl (by kernel_rfl) hln (fun w_ K => ?_)
    have H := H.call K
    have hcut := cutS_none (tl := tl) hl
    repeat' (first | (first | (with_reducible refine p_tn ?_) | (with_reducible refine wp_seq ?_) | (with_reducible refine w_reg ?_)) | (first | (with_reducible refine l_nil ?_) | ((with_reducible refine g_on ?_); (first | ((with_reducible refine g_mv ?_); refine l_p txs rfl rfl ?_) | ((with_reducible refine g_as ?_); refine l_p txs rfl rfl ?_) | ((with_reducible refine g_ex ?_); refine l_p txs rfl rfl ?_)))))
    (with_reducible refine is_l ?_); refine l_t txs rfl rfl (fun _ => ?_) (fun hh => absurd (by decide) hh)
    repeat' (first | (first | (with_reducible refine p_tn ?_) | (with_reducible refine wp_seq ?_) | (with_reducible refine w_reg ?_) | (with_reducible (refine is_if ?_; (refine w_ift rfl ?_)))) | (first | (with_reducible refine l_nil ?_) | ((with_reducible refine g_on ?_); (first | ((with_reducible refine g_mv ?_); refine l_p txs rfl rfl ?_) | ((with_reducible refine g_cl ?_); refine l_p txs rfl rfl ?_)))))
    (with_reducible refine is_l ?_); refine l_t txs rfl rfl (fun h1 => ?_) (fun h1 => ?_)
    · rw [if_pos (by omega)] at hcut
      repeat' (first | (first | (with_reducible refine p_tn ?_) | (with_reducible refine p_tr ?_) | (with_reducible refine wp_seq ?_) | (with_reducible refine w_reg ?_) | (with_reducible (refine is_if ?_; (refine w_ift rfl ?_))) | (with_reducible refine wp_ret ?_)) | (first | (with_reducible refine l_nil ?_) | ((with_reducible refine g_on ?_); (first | ((with_reducible refine g_mv ?_); refine l_p txs rfl rfl ?_) | ((with_reducible refine g_as ?_); refine l_p txs rfl rfl ?_)))))
      refine end4 rfl rfl rfl rfl rfl ?_
      exact ctR_err hcut H.B
    · rw [if_neg (by omega)] at hcut
      repeat' (first | (first | (with_reducible refine p_tn ?_) | (with_reducible refine p_tr ?_) | (with_reducible refine wp_seq ?_) | (with_reducible refine w_reg ?_) | (with_reducible (refine is_if ?_; (refine w_iff rfl ?_))) | (with_reducible refine wp_skip ?_) | (with_reducible refine wp_ret ?_)) | (first | (with_reducible refine l_nil ?_) | ((with_reducible refine g_on ?_); (first | ((with_reducible refine g_mv ?_); refine l_p txs rfl rfl ?_) | ((with_reducible refine g_as ?_); refine l_p txs rfl rfl ?_)))))
      refine end4 rfl rfl rfl rfl rfl ?_
      exact ctR_err hcut H.B
  | some z =>
    obtain ⟨first, rest⟩ := z
    rw [hl] at hln
    have hfb := line_bytes (bl_bytes s) hl
    have hln2 := line_next (k := 0) (by rw [List.drop_zero]; exact hl)
    rw [hbl] at hln2
    have zf := sizeS' hfb.1
    (with_reducible refine is_l ?_); refine l_callv rfl rfl (by kernel_rfl) hln (fun w_ K => ?_)
    have H := H.call K
    repeat' (first | (first | (with_reducible refine p_tn ?_) | (with_reducible refine wp_seq ?_) | (with_reducible refine w_reg ?_)) | (first | (with_reducible refine l_nil ?_) | ((with_reducible refine g_on ?_); (first | ((with_reducible refine g_mv ?_); refine l_p txs rfl rfl ?_) | ((with_reducible refine g_as ?_); refine l_p txs rfl rfl ?_) | ((with_reducible refine g_ex ?_); refine l_p txs rfl rfl ?_)))))
    (with_reducible refine is_l ?_); refine l_t txs rfl rfl (fun hh => absurd hh (by omega)) (fun _ => ?_)
    repeat' (first | (first | (with_reducible refine p_tn ?_) | (with_reducible refine wp_seq ?_) | (with_reducible refine w_reg ?_) | (with_reducible (refine is_if ?_; (refine w_iff rfl ?_))) | (with_reducible refine wp_skip ?_)) | (first | (with_reducible refine l_nil ?_) | ((with_reducible refine g_on ?_); (first | ((with_reducible refine g_mv ?_); refine l_p txs rfl rfl ?_) | ((with_reducible refine g_cl ?_); refine l_p txs rfl rfl ?_)))))
    (with_reducible refine is_l ?_); refine l_t txs rfl rfl (fun h1 => ?_) (fun h1 => ?_)
    · have hcut := cutS_long (tl := tl) hl (by omega)
      repeat' (first | (first | (with_reducible refine p_tn ?_) | (with_reducible refine p_tr ?_) | (with_reducible refine wp_seq ?_) | (with_reducible refine w_reg ?_) | (with_reducible (refine is_if ?_; (refine w_ift rfl ?_))) | (with_reducible refine wp_ret ?_)) | (first | (with_reducible refine l_nil ?_) | ((with_reducible refine g_on ?_); (first | ((with_reducible refine g_mv ?_); refine l_p txs rfl rfl ?_) | ((with_reducible refine g_as ?_); refine l_p txs rfl rfl ?_)))))
      refine end4 rfl rfl rfl rfl rfl ?_
      exact ctR_err hcut H.B
    have hcut := cutS_lines (tl := tl) hl (by omega)
    repeat' (first | (first | (with_reducible refine p_tn ?_) | (with_reducible refine wp_seq ?_) | (with_reducible refine wp_block ?_) | (with_reducible refine w_reg ?_) | (with_reducible (refine is_if ?_; (refine w_iff rfl ?_))) | (with_reducible refine wp_skip ?_)) | (first | (with_reducible refine l_nil ?_) | ((with_reducible refine g_on ?_); (first | ((with_reducible refine g_mv ?_); refine l_p txs rfl rfl ?_) | ((with_reducible refine g_as ?_); refine l_p txs rfl rfl ?_)))))
    refine w_loop (σ := Nat × List L × Option Addr × Nat) (S := fun t => [(0, .string s), (8, .slice t.2.2.1 t.2.1.length t.2.2.2), (9, .string (strOfNums first)), (10, .int .i64 (t.1 : Int)), (11, .int .i64 ((s.size - rest.length : Nat) : Int))])
      (J := fun t w' => Hp w w' [] [rowT (.slice t.2.2.1 t.2.1.length t.2.2.2) t.2.1] ∧ s.size - rest.length ≤ t.1 ∧ t.1 ≤ s.size ∧ t.2.1.length ≤ t.1 ∧ ∃ f, ((bl s).drop t.1).length < f ∧ linesS (rest.length + 1) rest = match linesS f ((bl s).drop t.1) with | none => none | some (ls, q) => some (t.2.1 ++ ls, q)) (μ := fun t => s.size - t.1) (s.size - rest.length, [], none, 0) ⟨rfl, rfl, rfl, rfl, rfl, trivial⟩
      ⟨H, Nat.le_refl _, by show s.size - rest.length ≤ _; omega, Nat.zero_le _, rest.length + 1, by show ((bl s).drop (s.size - rest.length)).length < _; rw [← hln2.1]; omega, by show _ = match linesS _ ((bl s).drop (s.size - rest.length)) with | none => none | some (ls, q) => some ([] ++ ls, q); rw [← hln2.1]; cases linesS (rest.length + 1) rest <;> rfl⟩ ?_
    rintro ⟨k, acc, A2, c2⟩ f w_ ⟨H, hbk, hk, hak, g, hg, hD⟩
    simp only at H hbk hk hak hg hD ⊢
    obtain ⟨g', rfl⟩ : ∃ m, g = m + 1 := ⟨g - 1, by omega⟩
    have hln := rline_c s k w_ hs hk
    unfold lineV2 at hln
    repeat' (first | (first | (with_reducible refine wp_seq ?_) | (with_reducible refine wp_block ?_) | (with_reducible refine w_reg ?_)) | ((with_reducible refine g_on ?_); ((with_reducible refine g_mv ?_); refine l_p txs rfl rfl ?_)))
    cases hl2 : lineS ((bl s).drop k) with
    | none =>
      rw [hl2] at hln
      rw [lines_none hl2] at hD
      simp only at hD
      rw [hD] at hcut
      simp only at hcut
      (with_reducible refine is_l ?_); refine l_callv rfl rfl (by kernel_rfl) hln (fun w_ K => ?_)
      have H := H.call K
      repeat' (first | (first | (with_reducible refine p_tn ?_) | (with_reducible refine wp_seq ?_) | (with_reducible refine w_reg ?_)) | (first | (with_reducible refine l_nil ?_) | ((with_reducible refine g_on ?_); (first | ((with_reducible refine g_mv ?_); refine l_p txs rfl rfl ?_) | ((with_reducible refine g_as ?_); refine l_p txs rfl rfl ?_) | ((with_reducible refine g_ex ?_); refine l_p txs rfl rfl ?_)))))
      (with_reducible refine is_l ?_); refine l_t txs rfl rfl (fun _ => ?_) (fun hh => absurd (by decide) hh)
      repeat' (first | (first | (with_reducible refine p_tn ?_) | (with_reducible refine wp_seq ?_) | (with_reducible refine w_reg ?_) | (with_reducible (refine is_if ?_; (refine w_ift rfl ?_)))) | (first | (with_reducible refine l_nil ?_) | ((with_reducible refine g_on ?_); (first | ((with_reducible refine g_mv ?_); refine l_p txs rfl rfl ?_) | ((with_reducible refine g_cl ?_); refine l_p txs rfl rfl ?_) | ((with_reducible refine g_bi ?_); (refine l_a txs rfl rfl (by first | exact in_i64 (by omega) (by omega) | exact in_u8 (by omega) (by omega) | exact in_u64 (by omega) (by omega) | exact in_i32 (by omega) (by omega)) ?_))))))
      (with_reducible refine is_l ?_); refine l_t txs rfl rfl (fun h2 => ?_) (fun h2 => ?_)
      · rw [if_pos (by omega)] at hcut
        repeat' (first | (first | (with_reducible refine p_tn ?_) | (with_reducible refine p_tr ?_) | (with_reducible refine p_br ?_) | (with_reducible refine wp_seq ?_) | (with_reducible refine w_reg ?_) | (with_reducible (refine is_if ?_; (refine w_ift rfl ?_))) | (with_reducible refine wp_ret ?_)) | (first | (with_reducible refine l_nil ?_) | ((with_reducible refine g_on ?_); (first | ((with_reducible refine g_mv ?_); refine l_p txs rfl rfl ?_) | ((with_reducible refine g_as ?_); refine l_p txs rfl rfl ?_)))))
        refine end4 rfl rfl rfl rfl rfl ?_
        exact ctR_err hcut H.B
      · rw [if_neg (by omega)] at hcut
        repeat' (first | (first | (with_reducible refine p_tn ?_) | (with_reducible refine p_tr ?_) | (with_reducible refine p_br ?_) | (with_reducible refine wp_seq ?_) | (with_reducible refine w_reg ?_) | (with_reducible (refine is_if ?_; (refine w_iff rfl ?_))) | (with_reducible refine wp_skip ?_) | (with_reducible refine wp_ret ?_)) | (first | (with_reducible refine l_nil ?_) | ((with_reducible refine g_on ?_); (first | ((with_reducible refine g_mv ?_); refine l_p txs rfl rfl ?_) | ((with_reducible refine g_as ?_); refine l_p txs rfl rfl ?_)))))
        refine end4 rfl rfl rfl rfl rfl ?_
        exact ctR_err hcut H.B
    | some z =>
      obtain ⟨x, r⟩ := z
      rw [hl2] at hln
      have hxb := line_bytes (fun y hy => bl_bytes s y (List.mem_of_mem_drop hy)) hl2
      have hnx := line_next hl2
      rw [hbl] at hnx
      have hbx := blS hxb.1
      (with_reducible refine is_l ?_); refine l_callv rfl rfl (by kernel_rfl) hln (fun w_ K => ?_)
      have H := H.call K
      repeat' (first | (first | (with_reducible refine p_tn ?_) | (with_reducible refine wp_seq ?_) | (with_reducible refine w_reg ?_)) | (first | (with_reducible refine l_nil ?_) | ((with_reducible refine g_on ?_); (first | ((with_reducible refine g_mv ?_); refine l_p txs rfl rfl ?_) | ((with_reducible refine g_as ?_); refine l_p txs rfl rfl ?_) | ((with_reducible refine g_ex ?_); refine l_p txs rfl rfl ?_)))))
      (with_reducible refine is_l ?_); refine l_t txs rfl rfl (fun hh => absurd hh (by omega)) (fun _ => ?_)
      repeat' (first | (first | (with_reducible refine p_tn ?_) | (with_reducible refine wp_seq ?_) | (with_reducible refine w_reg ?_) | (with_reducible (refine is_if ?_; (refine w_iff rfl ?_))) | (with_reducible refine wp_skip ?_)) | (first | (with_reducible refine l_nil ?_) | ((with_reducible refine g_on ?_); (first | ((with_reducible refine g_mv ?_); refine l_p txs rfl rfl ?_) | ((with_reducible refine g_as ?_); refine l_p txs rfl rfl ?_)))))
      (with_reducible refine is_l ?_); refine l_t txs rfl rfl (fun h2 => ?_) (fun h2 => ?_)
      · have hx0 : x = [] := by rw [hbx] at h2; exact h2
        rw [hx0] at hl2
        rw [lines_empty hl2] at hD
        simp only [List.append_nil] at hD
        rw [hD] at hcut
        simp only at hcut
        repeat' (first | (first | (with_reducible refine p_tn ?_) | (with_reducible refine p_tx ?_) | (with_reducible refine x_hit ?_) | (with_reducible refine x_miss rfl ?_) | (with_reducible refine wp_seq ?_) | (with_reducible refine w_reg ?_) | (with_reducible (refine is_if ?_; (refine w_ift rfl ?_))) | (with_reducible refine wp_exit ?_)) | (first | (with_reducible refine l_nil ?_) | ((with_reducible refine g_on ?_); (first | ((with_reducible refine g_mv ?_); refine l_p txs rfl rfl ?_) | ((with_reducible refine g_bi ?_); (refine l_a txs rfl rfl (by first | exact in_i64 (by omega) (by omega) | exact in_u8 (by omega) (by omega) | exact in_u64 (by omega) (by omega) | exact in_i32 (by omega) (by omega)) ?_))))))
        (with_reducible refine is_l ?_); refine l_t txs rfl rfl (fun h3 => ?_) (fun h3 => ?_)
        · rw [if_pos (by omega)] at hcut
          repeat' (first | (first | (with_reducible refine p_tn ?_) | (with_reducible refine p_tr ?_) | (with_reducible refine wp_seq ?_) | (with_reducible refine w_reg ?_) | (with_reducible (refine is_if ?_; (refine w_ift rfl ?_))) | (with_reducible refine wp_ret ?_)) | (first | (with_reducible refine l_nil ?_) | ((with_reducible refine g_on ?_); (first | ((with_reducible refine g_mv ?_); refine l_p txs rfl rfl ?_) | ((with_reducible refine g_as ?_); refine l_p txs rfl rfl ?_)))))
          refine end4 rfl rfl rfl rfl rfl ?_
          exact ctR_err hcut H.B
        · rw [if_neg (by omega)] at hcut
          repeat' (first | (first | (with_reducible refine p_tn ?_) | (with_reducible refine wp_seq ?_) | (with_reducible refine w_reg ?_) | (with_reducible (refine is_if ?_; (refine w_iff rfl ?_))) | (with_reducible refine wp_skip ?_) | (with_reducible refine wp_ret ?_)) | (first | (with_reducible refine l_nil ?_) | ((with_reducible refine g_on ?_); (first | ((with_reducible refine g_mv ?_); refine l_p txs rfl rfl ?_) | ((with_reducible refine g_as ?_); refine l_p txs rfl rfl ?_)))))
          refine end4 rfl rfl rfl rfl rfl ?_
          unfold CtR
          rw [hcut]
          exact ⟨A2, c2, rfl, H⟩
      · have hx0 : x ≠ [] := fun e => h2 (by rw [hbx, e]; rfl)
        rw [lines_more hx0 hl2] at hD
        repeat' (first | (first | (with_reducible refine p_tn ?_) | (with_reducible refine w_reg ?_) | (with_reducible (refine is_if ?_; (refine w_iff rfl ?_))) | (with_reducible refine wp_skip ?_)) | (first | (with_reducible refine l_nil ?_) | ((with_reducible refine g_on ?_); ((with_reducible refine g_mv ?_); refine l_p txs rfl rfl ?_))))
        (with_reducible refine is_l ?_); refine h_bs H info_str3 Tryz.underlying22 (by decide) (by decide) rfl rfl (fill_s _) (fun g_ w_ H => ?_)
        (with_reducible refine is_l ?_); refine h_app H 0 rfl info_str3 Tryz.underlying22 rfl rfl rfl rfl (H.cellRd 0 rfl) rfl rfl (by show (acc.length + 1) * 16 ≤ _; omega) (fun v w_ hv H => ?_)
        obtain ⟨A', c', rfl⟩ := hv
        repeat' (first | (first | (with_reducible refine p_tn ?_) | (with_reducible refine p_bn ?_)) | (first | (with_reducible refine l_nil ?_) | ((with_reducible refine g_on ?_); ((with_reducible refine g_as ?_); refine l_p txs rfl rfl ?_))))
        have H := H.pick [] [0] (by decide) (by decide) rfl rfl
        have e1 : (acc ++ [x]).length = acc.length + 1 := by simp
        refine ⟨(s.size - r.length, acc ++ [x], A', c'), _, rfl, ⟨rfl, ?_, rfl, rfl, rfl, trivial⟩, ⟨?_, by show _ ≤ s.size - r.length; omega, by show s.size - r.length ≤ _; omega, by show (acc ++ [x]).length ≤ s.size - r.length; omega, g', by show ((bl s).drop (s.size - r.length)).length < _; rw [← hnx.1]; have := List.length_drop (i := k) (l := bl s); omega, ?_⟩, by show s.size - (s.size - r.length) < s.size - k; omega⟩
        · show Value.slice A' (acc.length + 1) c' = Value.slice A' (acc ++ [x]).length c'
          rw [e1]
        · show Hp w _ [] [rowT (.slice A' (acc ++ [x]).length c') (acc ++ [x])]
          unfold rowT
          rw [e1, strC_snoc]
          exact H
        · show _ = match linesS g' ((bl s).drop (s.size - r.length)) with | none => none | some (ls, q) => some ((acc ++ [x]) ++ ls, q)
          rw [← hnx.1, hD]
          cases linesS g' r with
          | none => rfl
          | some z => simp
end Go.Proofs.YthgojbdpmcccaaaGreatDoor.K
end
section
namespace Go.Proofs.YthgojbdpmcccaaaGreatDoor.K.Ref
open Go.Proofs.YthgojbdpmcccaaaGreatDoor.Q Go.Proofs.YthgojbdpmcccaaaGreatDoor.K
set_option linter.unusedVariables false
def rt : Nat → Option (List Value)
  | 95 => some [.string ⟨#[]⟩, .string ⟨#[]⟩]
  | 29 => some [.string ⟨#[]⟩, .string ⟨#[]⟩, .int .i64 0, .slice none 0 0, .slice none 0 0, .bool false]
  | 59 => some [.int .i64 0, .int .i64 0, .slice none 0 0, .slice none 0 0, .bool false]
  | 25 => some [.string ⟨#[]⟩, .string ⟨#[]⟩, .int .i64 0, .slice none 0 0, .slice none 0 0, .slice none 0 0, .int .i64 0]
  | 53 => some [.int .i64 0, .int .i64 0, .slice none 0 0, .slice none 0 0, .slice none 0 0, .int .i64 0]
  | 145 => some [.string ⟨#[]⟩, .string ⟨#[]⟩]
  | 86 => some [.string ⟨#[]⟩, .string ⟨#[]⟩, .int .i64 0, .slice none 0 0, .slice none 0 0, .bool false]
  | 120 => some [.int .i64 0, .int .i64 0, .slice none 0 0, .slice none 0 0, .bool false]
  | 56 => some [.int .i64 0, .slice none 0 0, .int .i64 0, .int .i64 0, .string ⟨#[]⟩, .string ⟨#[]⟩, .string ⟨#[]⟩, .int .i64 0, .slice none 0 0, .slice none 0 0, .slice none 0 0, .int .i64 0, .int .i64 0, .int .i64 0, .slice none 0 0, .slice none 0 0, .slice none 0 0, .int .i64 0]
  | _ => none
theorem recOk0 : RecOk Tryz.prog 95 [.string ⟨#[]⟩, .string ⟨#[]⟩] := ⟨⟨_, Tryz.underlying95, rfl⟩, by kernel_rfl⟩
theorem recOk1 : RecOk Tryz.prog 29 [.string ⟨#[]⟩, .string ⟨#[]⟩, .int .i64 0, .slice none 0 0, .slice none 0 0, .bool false] := ⟨⟨_, Tryz.underlying29, rfl⟩, by kernel_rfl⟩
theorem recOk2 : RecOk Tryz.prog 59 [.int .i64 0, .int .i64 0, .slice none 0 0, .slice none 0 0, .bool false] := ⟨⟨_, Tryz.underlying59, rfl⟩, by kernel_rfl⟩
theorem recOk3 : RecOk Tryz.prog 25 [.string ⟨#[]⟩, .string ⟨#[]⟩, .int .i64 0, .slice none 0 0, .slice none 0 0, .slice none 0 0, .int .i64 0] := ⟨⟨_, Tryz.underlying25, rfl⟩, by kernel_rfl⟩
theorem recOk4 : RecOk Tryz.prog 53 [.int .i64 0, .int .i64 0, .slice none 0 0, .slice none 0 0, .slice none 0 0, .int .i64 0] := ⟨⟨_, Tryz.underlying53, rfl⟩, by kernel_rfl⟩
theorem recOk5 : RecOk Tryz.prog 145 [.string ⟨#[]⟩, .string ⟨#[]⟩] := ⟨⟨_, Tryz.underlying145, rfl⟩, by kernel_rfl⟩
theorem recOk6 : RecOk Tryz.prog 86 [.string ⟨#[]⟩, .string ⟨#[]⟩, .int .i64 0, .slice none 0 0, .slice none 0 0, .bool false] := ⟨⟨_, Tryz.underlying86, rfl⟩, by kernel_rfl⟩
theorem recOk7 : RecOk Tryz.prog 120 [.int .i64 0, .int .i64 0, .slice none 0 0, .slice none 0 0, .bool false] := ⟨⟨_, Tryz.underlying120, rfl⟩, by kernel_rfl⟩
theorem recOk8 : RecOk Tryz.prog 56 [.int .i64 0, .slice none 0 0, .int .i64 0, .int .i64 0, .string ⟨#[]⟩, .string ⟨#[]⟩, .string ⟨#[]⟩, .int .i64 0, .slice none 0 0, .slice none 0 0, .slice none 0 0, .int .i64 0, .int .i64 0, .int .i64 0, .slice none 0 0, .slice none 0 0, .slice none 0 0, .int .i64 0] := ⟨⟨_, Tryz.underlying56, rfl⟩, by kernel_rfl⟩
theorem recs : Recs Tryz.prog rt := by
  intro t zs h
  unfold rt at h
  split at h
  · cases h; exact recOk0
  · cases h; exact recOk1
  · cases h; exact recOk2
  · cases h; exact recOk3
  · cases h; exact recOk4
  · cases h; exact recOk5
  · cases h; exact recOk6
  · cases h; exact recOk7
  · cases h; exact recOk8
  · cases h
def fo : Nat → Nat → Option Nat
  | 95, 0 => some 0
  | 95, 1 => some 1
  | 29, 0 => some 0
  | 29, 1 => some 1
  | 29, 2 => some 2
  | 29, 3 => some 3
  | 29, 4 => some 4
  | 29, 5 => some 5
  | 59, 0 => some 0
  | 59, 1 => some 1
  | 59, 2 => some 2
  | 59, 3 => some 3
  | 59, 4 => some 4
  | 25, 0 => some 0
  | 25, 1 => some 1
  | 25, 2 => some 2
  | 25, 3 => some 3
  | 25, 4 => some 4
  | 25, 5 => some 5
  | 25, 6 => some 6
  | 53, 0 => some 0
  | 53, 1 => some 1
  | 53, 2 => some 2
  | 53, 3 => some 3
  | 53, 4 => some 4
  | 53, 5 => some 5
  | 145, 0 => some 0
  | 145, 1 => some 1
  | 86, 0 => some 0
  | 86, 1 => some 1
  | 86, 2 => some 2
  | 86, 3 => some 3
  | 86, 4 => some 4
  | 86, 5 => some 5
  | 120, 0 => some 0
  | 120, 1 => some 1
  | 120, 2 => some 2
  | 120, 3 => some 3
  | 120, 4 => some 4
  | 56, 0 => some 0
  | 56, 1 => some 1
  | 56, 2 => some 2
  | 56, 3 => some 3
  | 56, 4 => some 4
  | 56, 5 => some 5
  | 56, 6 => some 12
  | _, _ => none
theorem fld0 : fldB Tryz.prog 95 0 = some 0 := by kernel_rfl
theorem fld1 : fldB Tryz.prog 95 1 = some 1 := by kernel_rfl
theorem fld2 : fldB Tryz.prog 29 0 = some 0 := by kernel_rfl
theorem fld3 : fldB Tryz.prog 29 1 = some 1 := by kernel_rfl
theorem fld4 : fldB Tryz.prog 29 2 = some 2 := by kernel_rfl
theorem fld5 : fldB Tryz.prog 29 3 = some 3 := by kernel_rfl
theorem fld6 : fldB Tryz.prog 29 4 = some 4 := by kernel_rfl
theorem fld7 : fldB Tryz.prog 29 5 = some 5 := by kernel_rfl
theorem fld8 : fldB Tryz.prog 59 0 = some 0 := by kernel_rfl
theorem fld9 : fldB Tryz.prog 59 1 = some 1 := by kernel_rfl
theorem fld10 : fldB Tryz.prog 59 2 = some 2 := by kernel_rfl
theorem fld11 : fldB Tryz.prog 59 3 = some 3 := by kernel_rfl
theorem fld12 : fldB Tryz.prog 59 4 = some 4 := by kernel_rfl
theorem fld13 : fldB Tryz.prog 25 0 = some 0 := by kernel_rfl
theorem fld14 : fldB Tryz.prog 25 1 = some 1 := by kernel_rfl
theorem fld15 : fldB Tryz.prog 25 2 = some 2 := by kernel_rfl
theorem fld16 : fldB Tryz.prog 25 3 = some 3 := by kernel_rfl
theorem fld17 : fldB Tryz.prog 25 4 = some 4 := by kernel_rfl
theorem fld18 : fldB Tryz.prog 25 5 = some 5 := by kernel_rfl
theorem fld19 : fldB Tryz.prog 25 6 = some 6 := by kernel_rfl
theorem fld20 : fldB Tryz.prog 53 0 = some 0 := by kernel_rfl
theorem fld21 : fldB Tryz.prog 53 1 = some 1 := by kernel_rfl
theorem fld22 : fldB Tryz.prog 53 2 = some 2 := by kernel_rfl
theorem fld23 : fldB Tryz.prog 53 3 = some 3 := by kernel_rfl
theorem fld24 : fldB Tryz.prog 53 4 = some 4 := by kernel_rfl
theorem fld25 : fldB Tryz.prog 53 5 = some 5 := by kernel_rfl
theorem fld26 : fldB Tryz.prog 145 0 = some 0 := by kernel_rfl
theorem fld27 : fldB Tryz.prog 145 1 = some 1 := by kernel_rfl
theorem fld28 : fldB Tryz.prog 86 0 = some 0 := by kernel_rfl
theorem fld29 : fldB Tryz.prog 86 1 = some 1 := by kernel_rfl
theorem fld30 : fldB Tryz.prog 86 2 = some 2 := by kernel_rfl
theorem fld31 : fldB Tryz.prog 86 3 = some 3 := by kernel_rfl
theorem fld32 : fldB Tryz.prog 86 4 = some 4 := by kernel_rfl
theorem fld33 : fldB Tryz.prog 86 5 = some 5 := by kernel_rfl
theorem fld34 : fldB Tryz.prog 120 0 = some 0 := by kernel_rfl
theorem fld35 : fldB Tryz.prog 120 1 = some 1 := by kernel_rfl
theorem fld36 : fldB Tryz.prog 120 2 = some 2 := by kernel_rfl
theorem fld37 : fldB Tryz.prog 120 3 = some 3 := by kernel_rfl
theorem fld38 : fldB Tryz.prog 120 4 = some 4 := by kernel_rfl
theorem fld39 : fldB Tryz.prog 56 0 = some 0 := by kernel_rfl
theorem fld40 : fldB Tryz.prog 56 1 = some 1 := by kernel_rfl
theorem fld41 : fldB Tryz.prog 56 2 = some 2 := by kernel_rfl
theorem fld42 : fldB Tryz.prog 56 3 = some 3 := by kernel_rfl
theorem fld43 : fldB Tryz.prog 56 4 = some 4 := by kernel_rfl
theorem fld44 : fldB Tryz.prog 56 5 = some 5 := by kernel_rfl
theorem fld45 : fldB Tryz.prog 56 6 = some 12 := by kernel_rfl
theorem flds : Flds Tryz.prog fo := by
  intro t k o h
  unfold fo at h
  split at h
  · cases h; exact fld0
  · cases h; exact fld1
  · cases h; exact fld2
  · cases h; exact fld3
  · cases h; exact fld4
  · cases h; exact fld5
  · cases h; exact fld6
  · cases h; exact fld7
  · cases h; exact fld8
  · cases h; exact fld9
  · cases h; exact fld10
  · cases h; exact fld11
  · cases h; exact fld12
  · cases h; exact fld13
  · cases h; exact fld14
  · cases h; exact fld15
  · cases h; exact fld16
  · cases h; exact fld17
  · cases h; exact fld18
  · cases h; exact fld19
  · cases h; exact fld20
  · cases h; exact fld21
  · cases h; exact fld22
  · cases h; exact fld23
  · cases h; exact fld24
  · cases h; exact fld25
  · cases h; exact fld26
  · cases h; exact fld27
  · cases h; exact fld28
  · cases h; exact fld29
  · cases h; exact fld30
  · cases h; exact fld31
  · cases h; exact fld32
  · cases h; exact fld33
  · cases h; exact fld34
  · cases h; exact fld35
  · cases h; exact fld36
  · cases h; exact fld37
  · cases h; exact fld38
  · cases h; exact fld39
  · cases h; exact fld40
  · cases h; exact fld41
  · cases h; exact fld42
  · cases h; exact fld43
  · cases h; exact fld44
  · cases h; exact fld45
  · cases h
def tx : Nat → Option Ty
  | 22 => some (.slc 9 1)
  | 27 => some (.slc 95 2)
  | 84 => some (.slc 145 2)
  | 31 => some (.int .i64)
  | t => ty t
theorem slcOk0 : TyOk Tryz.prog 22 (.slc 9 1) := by
  have h : (Tryz.prog.info? 9).map (·.size) = some 1 := by kernel_rfl
  obtain ⟨i0, hi, hz⟩ := Option.map_eq_some_iff.1 h
  exact ⟨Tryz.underlying22, i0, hi, hz⟩
theorem slcOk1 : TyOk Tryz.prog 27 (.slc 95 2) := by
  have h : (Tryz.prog.info? 95).map (·.size) = some 2 := by kernel_rfl
  obtain ⟨i0, hi, hz⟩ := Option.map_eq_some_iff.1 h
  exact ⟨Tryz.underlying27, i0, hi, hz⟩
theorem slcOk2 : TyOk Tryz.prog 84 (.slc 145 2) := by
  have h : (Tryz.prog.info? 145).map (·.size) = some 2 := by kernel_rfl
  obtain ⟨i0, hi, hz⟩ := Option.map_eq_some_iff.1 h
  exact ⟨Tryz.underlying84, i0, hi, hz⟩
theorem txs : Tys Tryz.prog tx := by
  intro t k h
  unfold tx at h
  split at h
  · cases h; exact slcOk0
  · cases h; exact slcOk1
  · cases h; exact slcOk2
  · cases h; exact Tryz.underlying31
  · exact tys t k h
theorem one0_0 : (Tryz.prog.info? 3).map (·.size) = some 1 := by kernel_rfl
theorem one0_1 : (Tryz.prog.info? 5).map (·.size) = some 1 := by kernel_rfl
theorem one0_2 : (Tryz.prog.info? 4).map (·.size) = some 1 := by kernel_rfl
theorem one0_3 : (Tryz.prog.info? 9).map (·.size) = some 1 := by kernel_rfl
theorem one0_4 : (Tryz.prog.info? 23).map (·.size) = some 1 := by kernel_rfl
theorem one0_5 : (Tryz.prog.info? 98).map (·.size) = some 1 := by kernel_rfl
theorem one1_0 : (Tryz.prog.info? 22).map (·.size) = some 1 := by kernel_rfl
theorem one1_1 : (Tryz.prog.info? 27).map (·.size) = some 1 := by kernel_rfl
theorem one1_2 : (Tryz.prog.info? 84).map (·.size) = some 1 := by kernel_rfl
theorem one1_3 : (Tryz.prog.info? 31).map (·.size) = some 1 := by kernel_rfl
theorem ones0 : Ones Tryz.prog ty := by
  intro t k h
  unfold ty at h
  split at h
  · exact one0_0
  · exact one0_1
  · exact one0_2
  · exact one0_3
  · exact one0_4
  · exact one0_5
  · cases h
theorem ones : Ones Tryz.prog tx := by
  intro t k h
  unfold tx at h
  split at h
  · exact one1_0
  · exact one1_1
  · exact one1_2
  · exact one1_3
  · exact ones0 t k h
end Go.Proofs.YthgojbdpmcccaaaGreatDoor.K.Ref
end
section
namespace Go.Proofs.YthgojbdpmcccaaaGreatDoor.K.Ref
open Go.RowKit Go.Proofs.YthgojbdpmcccaaaGreatDoor.Q Go.Proofs.YthgojbdpmcccaaaGreatDoor.Wb Go.Proofs.YthgojbdpmcccaaaGreatDoorW.PrintWords Go.Proofs.YthgojbdpmcccaaaGreatDoor.K
set_option linter.unusedVariables false
set_option linter.unusedSimpArgs false
abbrev rowG (v : Value) (l : List Fld) : RowD := ⟨v, 145, 2, l.length, fldC l⟩
theorem info_g : (Tryz.prog.info? 145).map (fun i => (i.zero, i.size, i.bytes)) = some (some (.agg #[.string ⟨#[]⟩, .string ⟨#[]⟩]), 2, 32) := by kernel_rfl
theorem built_g2 (a b : ByteArray) : Tryz.prog.built 145 [(0, .string a), (1, .string b)] = some #[.string a, .string b] := by kernel_rfl
theorem vals_take {l : List Fld} {n : L} {i : Nat} {x : Fld} (hx : l[i]? = some x) : vals (l.take (i + 1)) n = vals (l.take i) n ++ (if lowS x.1 = n then [x.2] else []) := by
  have hi : i < l.length := (List.getElem?_eq_some_iff.1 hx).1
  rw [List.take_succ_eq_append_getElem hi, (List.getElem?_eq_some_iff.1 hx).2, vals_app]
  congr 1
  by_cases h : lowS x.1 = n
  · simp [vals, h]
  · simp [vals, h]
theorem vals_le (l : List Fld) (n : L) : (vals l n).length ≤ l.length := by unfold vals; exact List.length_filterMap_le _ _
set_option maxHeartbeats 4000000 in
theorem rall_c {w : World} {B : Option Addr} {c : Nat} {l : List Fld} (h : Rd w B (fldC l)) (hb : BytesF l) (hl : l.length ≤ 100000000) (t : ByteArray) :
    Calls Tryz.prog 141 #[.slice B l.length c, .string t] w fun e w' => ∃ A1 c1, e = .returned (.slice A1 (vals l (bl t)).length c1) ∧ Hp w w' [] [rowT (.slice A1 (vals l (bl t)).length c1) (vals l (bl t))] := by
  refine enter (args := [.slice B l.length c, .string t]) Tryz.func141 rfl Tryz.ntmps141 rfl ?_
  have H := (Hp.nil w).nilRow 9 1
  repeat' (first | (first | (with_reducible refine p_tn ?_) | (with_reducible refine wp_seq ?_) | (with_reducible refine wp_block ?_) | (with_reducible refine w_reg ?_)) | (first | (with_reducible refine l_nil ?_) | ((with_reducible refine g_on ?_); ((with_reducible refine g_as ?_); refine l_p txs rfl rfl ?_))))
  refine w_loop (σ := Nat × Option Addr × Nat) (S := fun s => [(0, .slice B l.length c), (1, .string t), (5, .slice s.2.1 (vals (l.take s.1) (bl t)).length s.2.2), (6, .int .i64 (s.1 : Int))])
    (J := fun s w' => Hp w w' [] [rowT (.slice s.2.1 (vals (l.take s.1) (bl t)).length s.2.2) (vals (l.take s.1) (bl t))] ∧ s.1 ≤ l.length) (μ := fun s => l.length - s.1) (0, none, 0) ⟨rfl, rfl, rfl, rfl, trivial⟩ ⟨H, by omega⟩ ?_
  rintro ⟨i, A2, c2⟩ f w_ ⟨H, hi⟩
  simp only at H hi ⊢
  repeat' (first | (first | (with_reducible refine wp_seq ?_) | (with_reducible refine w_reg ?_)) | ((with_reducible refine g_on ?_); (first | ((with_reducible refine g_mv ?_); refine l_p txs rfl rfl ?_) | ((with_reducible refine g_cl ?_); refine l_p txs rfl rfl ?_))))
  (with_reducible refine is_l ?_); refine l_t txs rfl rfl (fun hlt => ?_) (fun hge => ?_)
  · obtain ⟨x, hx⟩ : ∃ x, l[i]? = some x := ⟨_, List.getElem?_eq_getElem (by omega)⟩
    obtain ⟨a1, rfl⟩ := rd_some h (i := i) (by omega)
    obtain ⟨bx1, bx2, lx1, lx2⟩ := hb x (List.mem_of_getElem? hx)
    have zx1 := sizeS' bx1
    have hvt := vals_take (n := bl t) hx
    have hvl := vals_le (l.take i) (bl t)
    rw [List.length_take_of_le (by omega)] at hvl
    have hc1 := fld_part h hx 0 _ rfl
    have hc2 := fld_part h hx 1 _ rfl
    repeat' (first | (first | (with_reducible refine p_tn ?_) | (with_reducible refine wp_seq ?_) | (with_reducible refine wp_block ?_) | (with_reducible refine w_reg ?_) | (with_reducible (refine is_if ?_; (refine w_ift rfl ?_))) | (with_reducible refine wp_skip ?_)) | (first | (with_reducible refine l_nil ?_) | ((with_reducible refine g_on ?_); (first | ((with_reducible refine g_mv ?_); refine l_p txs rfl rfl ?_) | ((with_reducible refine g_ia ?_); refine l_ia txs rfl rfl (by first | omega | assumption | decide) (by first | omega | assumption | decide) ?_)))))
    (with_reducible refine is_l ?_); refine h_fg flds rfl rfl ?_
    (with_reducible refine is_l ?_); refine l_ld txs rfl rfl (by rw [Int.toNat_natCast]; exact H.old hc1) ?_
    skip
    have hlow := rsmall_c (strOfNums x.1) w_ (by omega)
    rw [blS bx1] at hlow
    (with_reducible refine is_l ?_); refine l_callv rfl rfl (by kernel_rfl) hlow (fun w_ K => ?_)
    have H := H.call K
    repeat' ((with_reducible refine g_on ?_); ((with_reducible refine g_mv ?_); refine l_p txs rfl rfl ?_))
    have e1 := blS (bytes_low bx1)
    (with_reducible refine is_l ?_); refine l_t txs rfl rfl (fun h1 => ?_) (fun h1 => ?_)
    · rw [e1] at h1
      rw [if_pos h1] at hvt
      repeat' (first | (first | (with_reducible refine p_tn ?_) | (with_reducible refine w_reg ?_) | (with_reducible (refine is_if ?_; (refine w_ift rfl ?_)))) | (first | (with_reducible refine l_nil ?_) | ((with_reducible refine g_on ?_); (first | ((with_reducible refine g_mv ?_); refine l_p txs rfl rfl ?_) | ((with_reducible refine g_ia ?_); refine l_ia txs rfl rfl (by first | omega | assumption | decide) (by first | omega | assumption | decide) ?_)))))
      (with_reducible refine is_l ?_); refine h_fg flds rfl rfl ?_
      (with_reducible refine is_l ?_); refine l_ld txs rfl rfl (by rw [Int.toNat_natCast]; exact H.old hc2) ?_
      skip
      (with_reducible refine is_l ?_); refine h_bs H info_str3 Tryz.underlying22 (by decide) (by decide) rfl rfl (fill_s _) (fun g_ w_ H => ?_)
      (with_reducible refine is_l ?_); refine h_app H 0 rfl info_str3 Tryz.underlying22 rfl rfl rfl rfl (H.cellRd 0 rfl) rfl rfl (by show ((vals (l.take i) (bl t)).length + 1) * 16 ≤ _; omega) (fun v w_ hv H => ?_)
      obtain ⟨A', c', rfl⟩ := hv
      repeat' (first | (first | (with_reducible refine p_tn ?_) | (with_reducible refine p_bn ?_) | (with_reducible refine w_reg ?_)) | (first | (with_reducible refine l_nil ?_) | ((with_reducible refine g_on ?_); (first | ((with_reducible refine g_mv ?_); refine l_p txs rfl rfl ?_) | ((with_reducible refine g_as ?_); refine l_p txs rfl rfl ?_) | ((with_reducible refine g_bi ?_); (refine l_a txs rfl rfl (by first | exact in_i64 (by omega) (by omega) | exact in_u8 (by omega) (by omega) | exact in_u64 (by omega) (by omega) | exact in_i32 (by omega) (by omega)) ?_))))))
      have H := H.pick [] [0] (by decide) (by decide) rfl rfl
      have hlen : (vals (l.take (i + 1)) (bl t)).length = (vals (l.take i) (bl t)).length + 1 := by rw [hvt]; simp
      refine ⟨(i + 1, A', c'), _, rfl, ⟨rfl, rfl, ?_, rfl, trivial⟩, ⟨?_, by show i + 1 ≤ _; omega⟩, by show _ - (i + 1) < _ - i; omega⟩
      · show Value.slice A' ((vals (l.take i) (bl t)).length + 1) c' = Value.slice A' (vals (l.take (i + 1)) (bl t)).length c'
        rw [hlen]
      · show Hp w _ [] [rowT (.slice A' (vals (l.take (i + 1)) (bl t)).length c') (vals (l.take (i + 1)) (bl t))]
        unfold rowT
        rw [hlen, hvt, strC_snoc]
        exact H
    · rw [e1] at h1
      rw [if_neg h1, List.append_nil] at hvt
      repeat' (first | (first | (with_reducible refine p_tn ?_) | (with_reducible refine p_bn ?_) | (with_reducible refine w_reg ?_) | (with_reducible (refine is_if ?_; (refine w_iff rfl ?_))) | (with_reducible refine wp_skip ?_)) | (first | (with_reducible refine l_nil ?_) | ((with_reducible refine g_on ?_); (first | ((with_reducible refine g_mv ?_); refine l_p txs rfl rfl ?_) | ((with_reducible refine g_as ?_); refine l_p txs rfl rfl ?_) | ((with_reducible refine g_bi ?_); (refine l_a txs rfl rfl (by first | exact in_i64 (by omega) (by omega) | exact in_u8 (by omega) (by omega) | exact in_u64 (by omega) (by omega) | exact in_i32 (by omega) (by omega)) ?_))))))
      refine ⟨(i + 1, A2, c2), _, rfl, ⟨rfl, rfl, ?_, rfl, trivial⟩, ⟨?_, by show i + 1 ≤ _; omega⟩, by show _ - (i + 1) < _ - i; omega⟩
      · show Value.slice A2 (vals (l.take i) (bl t)).length c2 = Value.slice A2 (vals (l.take (i + 1)) (bl t)).length c2
        rw [hvt]
      · show Hp w _ [] [rowT (.slice A2 (vals (l.take (i + 1)) (bl t)).length c2) (vals (l.take (i + 1)) (bl t))]
        rw [hvt]
        exact H
  · have hall : l.take i = l := List.take_of_length_le (by omega)
    simp only [hall] at H ⊢
    repeat' (first | (first | (with_reducible refine p_tn ?_) | (with_reducible refine p_tx ?_) | (with_reducible refine x_hit ?_) | (with_reducible refine wp_seq ?_) | (with_reducible refine w_reg ?_) | (with_reducible (refine is_if ?_; (refine w_iff rfl ?_))) | (with_reducible refine wp_exit ?_) | (with_reducible refine wp_ret ?_)) | (first | (with_reducible refine l_nil ?_) | ((with_reducible refine g_on ?_); (first | ((with_reducible refine g_mv ?_); refine l_p txs rfl rfl ?_) | ((with_reducible refine g_as ?_); refine l_p txs rfl rfl ?_)))))
    refine end1 rfl rfl ?_
    exact ⟨A2, c2, rfl, H⟩
theorem splitC_ne : ∀ (c : Int) (s : L), splitC c s ≠ []
  | c, [] => by simp [splitC]
  | c, x :: r => by
    rw [splitC]
    split
    · simp
    · split <;> simp
/-- A list of texts of the call's own: where it lies, its cells. -/
theorem rowT_at {w0 w : World} {l : List Ent} {r : List RowD} (H : Hp w0 w l r) (k : Nat) {A : Option Addr} {c : Nat} {x : List L} (hk : r[k]? = some (rowT (.slice A x.length c) x)) : Rd w A (strC x) := by
  obtain ⟨A', c', e, _, hrd, _⟩ := H.rd k hk
  simp only [Value.slice.injEq] at e
  rw [e.1]
  exact hrd
theorem rdT_some {w : World} {A : Option Addr} {x : List L} {y : L} {i : Nat} (h : Rd w A (strC x)) (hy : x[i]? = some y) : ∃ a, A = some a := by
  have hc := strC_at hy
  cases A with
  | none =>
    have h1 : strC x = [] := h.1 rfl
    rw [h1] at hc
    simp at hc
  | some a => exact ⟨a, rfl⟩
theorem rdT_cell {w : World} {a : Addr} {x : List L} {y : L} {i : Nat} (h : Rd w (some a) (strC x)) (hy : x[i]? = some y) : w.cell? (a.add (i * 1)) = some (.string (strOfNums y)) := h.2 a rfl _ _ (strC_at hy)
theorem built_g0 : Tryz.prog.built 145 [] = some #[.string ⟨#[]⟩, .string ⟨#[]⟩] := by kernel_rfl
def FlR (w : World) (s : ByteArray) (e : Ending) (w' : World) : Prop := ∃ a b : ByteArray, e = .returned (.tuple #[.agg #[.string a, .string b], .bool (fieldS (bl s)).isSome]) ∧ (∀ f, fieldS (bl s) = some f → a = strOfNums f.1 ∧ b = strOfNums f.2) ∧ Below w.heap.size w w'
set_option maxRecDepth 100000 in
set_option maxHeartbeats 8000000 in
theorem rfieldLine_c (s : ByteArray) (w : World) (hs : s.size ≤ 100000000) : Calls Tryz.prog 170 #[.string s] w (FlR w s) := by
  refine enter (args := [.string s]) Tryz.func170 rfl Tryz.ntmps170 rfl ?_
  have hbl := bl_length s
  have H := Hp.nil w
  repeat' (first | (with_reducible refine wp_seq ?_) | (with_reducible refine w_reg ?_))
  (with_reducible refine is_l ?_); refine h_alloc recs H rfl rfl (fun gC w_ H => ?_)
  repeat' (first | (first | (with_reducible refine p_tn ?_) | (with_reducible refine wp_seq ?_) | (with_reducible refine w_reg ?_)) | (first | (with_reducible refine l_nil ?_) | ((with_reducible refine g_on ?_); (first | ((with_reducible refine g_mv ?_); refine l_p txs rfl rfl ?_) | ((with_reducible refine g_as ?_); refine l_p txs rfl rfl ?_)))))
  (with_reducible refine is_l ?_); refine l_call rfl rfl (by kernel_rfl) (pieces_c s 58 _ hs) (fun e w_ hR => ?_)
  obtain ⟨A1, c1, rfl, K⟩ := hR
  refine ⟨_, rfl, ?_⟩
  have H := H.join K
  repeat' (first | (first | (with_reducible refine p_tn ?_) | (with_reducible refine wp_seq ?_) | (with_reducible refine w_reg ?_)) | (first | (with_reducible refine l_nil ?_) | ((with_reducible refine g_on ?_); (first | ((with_reducible refine g_mv ?_); refine l_p txs rfl rfl ?_) | ((with_reducible refine g_as ?_); refine l_p txs rfl rfl ?_) | ((with_reducible refine g_cl ?_); refine l_p txs rfl rfl ?_)))))
  cases hc : cutC 58 (bl s) with
  | none =>
    have hsp : splitC 58 (bl s) = [bl s] := splitC_none (cutC_none hc)
    have hf : fieldS (bl s) = none := by unfold fieldS; rw [hc]
    rw [hsp] at H ⊢
    (with_reducible refine is_l ?_); refine l_t txs rfl rfl (fun _ => ?_) (fun hh => absurd (show (((1 : Nat) : Int)) < 2 by decide) hh)
    repeat' (first | (first | (with_reducible refine p_tn ?_) | (with_reducible refine wp_seq ?_) | (with_reducible refine w_reg ?_) | (with_reducible (refine is_if ?_; (refine w_ift rfl ?_)))) | (first | (with_reducible refine l_nil ?_) | ((with_reducible refine g_on ?_); (first | ((with_reducible refine g_mv ?_); refine l_p txs rfl rfl ?_) | ((with_reducible refine g_pk ?_); refine l_p txs rfl rfl ?_))) | ((with_reducible refine g_if ?_); (refine l_off rfl ?_))))
    (with_reducible refine is_l ?_); refine h_bld rfl rfl built_g0 ?_
    repeat' (first | (first | (with_reducible refine p_tn ?_) | (with_reducible refine p_tr ?_) | (with_reducible refine wp_ret ?_)) | (first | (with_reducible refine l_nil ?_) | ((with_reducible refine g_on ?_); (first | ((with_reducible refine g_as ?_); refine l_p txs rfl rfl ?_) | ((with_reducible refine g_st ?_); (refine h_stR recs H 0 rfl rfl rfl rfl rfl rfl rfl rfl rfl (fun w_ H => ?_)))))))
    refine end_ct recs H 0 rfl rfl rfl rfl rfl rfl ?_
    exact ⟨⟨#[]⟩, ⟨#[]⟩, by rw [hf]; rfl, (by intro f h; rw [hf] at h; cases h), H.B⟩
  | some z =>
    obtain ⟨n, v⟩ := z
    obtain ⟨hb, hno⟩ := cutC_some hc
    have hsp : splitC 58 (bl s) = n :: splitC 58 v := by rw [hb, splitC_cut _ hno]
    have hbn : Bytes n := fun x hx => bl_bytes s x (by rw [hb]; simp [hx])
    have hbv : Bytes v := fun x hx => bl_bytes s x (by rw [hb]; simp [hx])
    have zn := sizeS' hbn
    have hlen : n.length + 1 + v.length = s.size := by rw [← hbl, hb]; simp; omega
    have hl2 : 0 < (splitC 58 v).length := List.length_pos_iff.2 (splitC_ne 58 v)
    have hf : fieldS (bl s) = if tokS n = true ∧ v.all valB = true then some (n, trimS v) else none := by unfold fieldS; rw [hc]
    rw [hsp] at H ⊢
    obtain ⟨a, ha⟩ := rdT_some (rowT_at H 0 rfl) (y := n) (i := 0) rfl
    subst ha
    have hll : (n :: splitC 58 v).length = (splitC 58 v).length + 1 := rfl
    (with_reducible refine is_l ?_); refine l_t txs rfl rfl (fun hh => absurd hh (by omega)) (fun _ => ?_)
    repeat' (first | ((with_reducible refine g_on ?_); ((with_reducible refine g_mv ?_); refine l_p txs rfl rfl ?_)) | ((with_reducible refine g_if ?_); (first | ((with_reducible refine g_mv ?_); refine l_p txs rfl rfl ?_) | ((with_reducible refine g_ia ?_); refine l_ia txs rfl rfl (by first | omega | assumption | decide) (by first | omega | assumption | decide) ?_))))
    (with_reducible refine is_l ?_); refine l_ld txs rfl rfl (rdT_cell (rowT_at H 0 rfl) (y := n) (i := 0) rfl) ?_
    skip
    have hto := rtoken_c (strOfNums n) w_ (by omega)
    rw [blS hbn] at hto
    (with_reducible refine is_l ?_); refine l_callv rfl rfl (by kernel_rfl) hto (fun w_ K => ?_)
    have H := H.call K
    cases ht : tokS n
    · have hf : fieldS (bl s) = none := by rw [hf, if_neg (by rw [ht]; simp)]
      repeat' (first | (first | (with_reducible refine p_tn ?_) | (with_reducible refine wp_seq ?_) | (with_reducible refine w_reg ?_) | (with_reducible (refine is_if ?_; (refine w_ift rfl ?_)))) | (first | (with_reducible refine l_nil ?_) | ((with_reducible refine g_on ?_); ((with_reducible refine g_pk ?_); refine l_p txs rfl rfl ?_)) | ((with_reducible refine g_if ?_); ((with_reducible refine g_un ?_); (refine l_p txs rfl rfl ?_)))))
      (with_reducible refine is_l ?_); refine h_bld rfl rfl built_g0 ?_
      repeat' (first | (first | (with_reducible refine p_tn ?_) | (with_reducible refine p_tr ?_) | (with_reducible refine wp_ret ?_)) | (first | (with_reducible refine l_nil ?_) | ((with_reducible refine g_on ?_); (first | ((with_reducible refine g_as ?_); refine l_p txs rfl rfl ?_) | ((with_reducible refine g_st ?_); (refine h_stR recs H 0 rfl rfl rfl rfl rfl rfl rfl rfl rfl (fun w_ H => ?_)))))))
      refine end_ct recs H 0 rfl rfl rfl rfl rfl rfl ?_
      exact ⟨⟨#[]⟩, ⟨#[]⟩, by rw [hf]; rfl, (by intro f h; rw [hf] at h; cases h), H.B⟩
    · have hf : (fieldS (bl s)).isSome = v.all valB ∧ ∀ f, fieldS (bl s) = some f → strOfNums n = strOfNums f.1 ∧ strOfNums (trimS v) = strOfNums f.2 := by
        rw [hf, ht]
        cases v.all valB
        · exact ⟨rfl, fun f h => by cases h⟩
        · exact ⟨rfl, fun f h => by simp at h; rw [← h]; exact ⟨rfl, rfl⟩⟩
      repeat' (first | (first | (with_reducible refine p_tn ?_) | (with_reducible refine wp_seq ?_) | (with_reducible refine w_reg ?_) | (with_reducible (refine is_if ?_; (refine w_iff rfl ?_))) | (with_reducible refine wp_skip ?_)) | (first | (with_reducible refine l_nil ?_) | ((with_reducible refine g_on ?_); (first | ((with_reducible refine g_mv ?_); refine l_p txs rfl rfl ?_) | ((with_reducible refine g_pk ?_); refine l_p txs rfl rfl ?_) | ((with_reducible refine g_ia ?_); refine l_ia txs rfl rfl (by first | omega | assumption | decide) (by first | omega | assumption | decide) ?_))) | ((with_reducible refine g_if ?_); ((with_reducible refine g_un ?_); (refine l_p txs rfl rfl ?_)))))
      (with_reducible refine is_l ?_); refine l_ld txs rfl rfl (rdT_cell (rowT_at H 0 rfl) (y := n) (i := 0) rfl) ?_
      repeat' (first | (first | (with_reducible refine p_tn ?_) | (with_reducible refine wp_seq ?_)) | (first | (with_reducible refine l_nil ?_) | ((with_reducible refine g_on ?_); (first | ((with_reducible refine g_as ?_); refine l_p txs rfl rfl ?_) | ((with_reducible refine g_cl ?_); refine l_p txs rfl rfl ?_) | ((with_reducible refine g_sl ?_); refine l_sl txs rfl rfl (by first | omega | assumption | decide) (by first | omega | assumption | decide) (by first | omega | assumption | decide) ?_) | ((with_reducible refine g_bi ?_); (refine l_a txs rfl rfl (by first | exact in_i64 (by omega) (by omega) | exact in_u8 (by omega) (by omega) | exact in_u64 (by omega) (by omega) | exact in_i32 (by omega) (by omega)) ?_))))))
      have hev : Value.string (s.extract (((strOfNums n).size : Int) + 1).toNat ((s.size : Int)).toNat) = .string (strOfNums v) := by
        rw [bl_ext, hb, zn]
        congr 2
        rw [show ((n.length : Int) + 1).toNat = n.length + 1 by omega, Int.toNat_natCast, show n ++ 58 :: v = (n ++ [58]) ++ v by simp, List.drop_left' (by simp), List.take_of_length_le (by omega)]
      rw [hev]
      have htr := fun w1 => rtrim_c (strOfNums v) w1 (by rw [sizeS' hbv]; omega)
      rw [blS hbv] at htr
      have hva := fun w1 => rvalued_c (strOfNums v) w1 (by rw [sizeS' hbv]; omega)
      rw [blS hbv] at hva
      have HS := H.pick [] [0] (by decide) (by decide) rfl rfl
      refine d_start (fun w_ => Hp w w_ _ _) #[false, false, false, false, false, false, false, false, false, false] (by kernel_rfl) rfl rfl HS.drew ?_
      have H := H.drew
      have HS := HS.drew
      first | (refine d_pure (i := 0) #[true, false, false, false, false, false, false, false, false, false] rfl (by kernel_rfl) (fun _ _ _ h => h) rfl (fun w_ => evP_run (o := ⟨_, _, _, _, _, _⟩) txs rfl) ?_)
      first | (refine d_pure (i := 1) #[true, true, false, false, false, false, false, false, false, false] rfl (by kernel_rfl) (fun _ _ _ h => h) rfl (fun w_ => evIA_run (o := ⟨_, _, _, _, _, _⟩) txs rfl (by omega) (by omega)) ?_)
      first | (refine d_take (i := 2) #[true, true, true, false, false, false, false, false, false, false] rfl (by kernel_rfl) (fun _ _ _ h => h) rfl (fun w_ K => evL_run (o := ⟨_, _, _, _, _, _⟩) txs rfl (rdT_cell (rowT_at K 0 rfl) (y := n) (i := 0) rfl)) HS ?_)
      first | (refine d_pure (i := 3) #[true, true, true, true, false, false, false, false, false, false] rfl (by kernel_rfl) (fun _ _ _ h => h) rfl (fun w_ => evP_run (o := ⟨_, _, _, _, _, _⟩) txs rfl) ?_)
      first | (refine d_pure (i := 6) #[true, true, true, true, false, false, true, false, false, false] rfl (by kernel_rfl) (fun _ _ _ h => h) rfl (fun w_ => evP_run (o := ⟨_, _, _, _, _, _⟩) txs rfl) ?_)
      refine d_one (i := 4) #[true, true, true, true, true, false, true, false, false, false] rfl (by kernel_rfl) rfl ?_
      refine l_callv rfl rfl (by kernel_rfl) (htr _) (fun w_ K => ?_); have H := H.call K
      refine l_nil ?_
      have HS := H.pick [] [0] (by decide) (by decide) rfl rfl
      refine ⟨rfl, HS, ?_⟩
      first | (refine d_pure (i := 5) #[true, true, true, true, true, true, true, false, false, false] rfl (by kernel_rfl) (fun _ _ _ h => h) rfl (fun w_ => evBld_run (o := ⟨_, _, _, _, _, _⟩) rfl (built_g2 _ _)) ?_)
      refine d_one (i := 7) #[true, true, true, true, true, true, true, true, false, false] rfl (by kernel_rfl) rfl ?_
      refine l_callv rfl rfl (by kernel_rfl) (hva _) (fun w_ K => ?_); have H := H.call K
      refine l_nil ?_
      have HS := H.pick [] [0] (by decide) (by decide) rfl rfl
      refine ⟨rfl, HS, ?_⟩
      refine d_one (i := 8) #[true, true, true, true, true, true, true, true, true, false] rfl (by kernel_rfl) rfl ?_
      refine g_on ?_; ((with_reducible refine g_st ?_); (refine h_stR recs H 0 rfl rfl rfl rfl rfl rfl rfl rfl rfl (fun w_ H => ?_)))
      refine l_nil ?_
      have HS := H.pick [] [0] (by decide) (by decide) rfl rfl
      refine ⟨rfl, HS, ?_⟩
      first | (refine d_pure (i := 9) #[true, true, true, true, true, true, true, true, true, true] rfl (by kernel_rfl) (fun _ _ _ h => h) rfl (fun w_ => evP_run (o := ⟨_, _, _, _, _, _⟩) txs rfl) ?_)
      refine d_done rfl ?_
      repeat' (first | (with_reducible refine p_tn ?_) | (with_reducible refine wp_ret ?_))
      refine end_ct recs H 0 rfl rfl rfl rfl rfl rfl ?_
      exact ⟨strOfNums n, strOfNums (trimS v), by rw [hf.1], hf.2, H.B⟩
/-- What fields tells: the list, or the first error. -/
def FsT (w : World) (ls : List L) (e : Ending) (w' : World) : Prop := match fieldsE ls with
  | .error k => ∃ A n c, e = .returned (.tuple #[.slice A n c, .int .i64 (k : Int)]) ∧ Below w.heap.size w w'
  | .ok l => ∃ A c, e = .returned (.tuple #[.slice A l.length c, .int .i64 0]) ∧ Hp w w' [] [rowG (.slice A l.length c) l]
theorem fieldsS_snoc (a : List L) (x : L) : fieldsS (a ++ [x]) = match fieldsS a with | none => none | some l => match fieldS x with | none => none | some f => some (l ++ [f]) := by
  rw [fieldsS_app]
  cases fieldsS a with
  | none => rfl
  | some l =>
    simp only [fieldsS]
    cases fieldS x <;> rfl
theorem fieldsS_stop {a b : List L} (h : fieldsS a = none) : fieldsS (a ++ b) = none := by rw [fieldsS_app, h]
set_option maxRecDepth 100000 in
set_option maxHeartbeats 8000000 in
theorem rfields_c {w : World} {B : Option Addr} {c : Nat} {ls : List L} (hR : Rd w B (strC ls)) (hb : BytesL ls) : Calls Tryz.prog 127 #[.slice B ls.length c] w (FsT w ls) := by
  refine enter (args := [.slice B ls.length c]) Tryz.func127 rfl Tryz.ntmps127 rfl ?_
  have H := (Hp.nil w).nilRow 145 2
  repeat' (first | (first | (with_reducible refine p_tn ?_) | (with_reducible refine wp_seq ?_) | (with_reducible refine w_reg ?_)) | (first | (with_reducible refine l_nil ?_) | ((with_reducible refine g_on ?_); (first | ((with_reducible refine g_mv ?_); refine l_p txs rfl rfl ?_) | ((with_reducible refine g_as ?_); refine l_p txs rfl rfl ?_) | ((with_reducible refine g_cl ?_); refine l_p txs rfl rfl ?_)))))
  (with_reducible refine is_l ?_); refine l_t txs rfl rfl (fun h64 => ?_) (fun h64 => ?_)
  · have he : fieldsE ls = .error 2 := by unfold fieldsE; rw [if_pos (by omega)]
    repeat' (first | (first | (with_reducible refine p_tn ?_) | (with_reducible refine p_tr ?_) | (with_reducible refine wp_seq ?_) | (with_reducible refine w_reg ?_) | (with_reducible (refine is_if ?_; (refine w_ift rfl ?_))) | (with_reducible refine wp_ret ?_)) | (first | (with_reducible refine l_nil ?_) | ((with_reducible refine g_on ?_); (first | ((with_reducible refine g_mv ?_); refine l_p txs rfl rfl ?_) | ((with_reducible refine g_as ?_); refine l_p txs rfl rfl ?_)))))
    refine end2 rfl rfl rfl ?_
    unfold FsT
    rw [he]
    exact ⟨none, 0, 0, rfl, H.B⟩
  have hE : fieldsE ls = match fieldsS ls with | none => .error 143 | some l => .ok l := by unfold fieldsE; rw [if_neg (by omega)]; cases fieldsS ls <;> rfl
  repeat' (first | (first | (with_reducible refine p_tn ?_) | (with_reducible refine wp_seq ?_) | (with_reducible refine wp_block ?_) | (with_reducible refine w_reg ?_) | (with_reducible (refine is_if ?_; (refine w_iff rfl ?_))) | (with_reducible refine wp_skip ?_)) | (first | (with_reducible refine l_nil ?_) | ((with_reducible refine g_on ?_); ((with_reducible refine g_as ?_); refine l_p txs rfl rfl ?_))))
  refine w_loop (σ := Nat × List Fld × Option Addr × Nat) (S := fun s => [(0, .slice B ls.length c), (4, .slice s.2.2.1 s.2.1.length s.2.2.2), (5, .int .i64 (s.1 : Int))])
    (J := fun s w' => Hp w w' [] [rowG (.slice s.2.2.1 s.2.1.length s.2.2.2) s.2.1] ∧ s.1 ≤ ls.length ∧ s.2.1.length ≤ s.1 ∧ fieldsS (ls.take s.1) = some s.2.1) (μ := fun s => ls.length - s.1) (0, [], none, 0) ⟨rfl, rfl, rfl, trivial⟩ ⟨H, by omega, Nat.le_refl _, rfl⟩ ?_
  rintro ⟨i, acc, A2, c2⟩ f w_ ⟨H, hi, hai, hD⟩
  simp only at H hi hai hD ⊢
  repeat' (first | (first | (with_reducible refine wp_seq ?_) | (with_reducible refine w_reg ?_)) | ((with_reducible refine g_on ?_); (first | ((with_reducible refine g_mv ?_); refine l_p txs rfl rfl ?_) | ((with_reducible refine g_cl ?_); refine l_p txs rfl rfl ?_))))
  (with_reducible refine is_l ?_); refine l_t txs rfl rfl (fun hlt => ?_) (fun hge => ?_)
  · obtain ⟨x, hx⟩ : ∃ x, ls[i]? = some x := ⟨_, List.getElem?_eq_getElem (by omega)⟩
    have hil : i < ls.length := by omega
    obtain ⟨hbx, hlx⟩ := hb x (List.mem_of_getElem? hx)
    have zx := sizeS' hbx
    obtain ⟨a1, rfl⟩ := rdT_some hR hx
    have hcell := rdT_cell hR hx
    have htk : ls.take (i + 1) = ls.take i ++ [x] := by rw [List.take_succ_eq_append_getElem hil, (List.getElem?_eq_some_iff.1 hx).2]
    have hspl : ls = ls.take (i + 1) ++ ls.drop (i + 1) := (List.take_append_drop _ _).symm
    have hsn := fieldsS_snoc (ls.take i) x
    rw [← htk, hD] at hsn
    simp only at hsn
    repeat' (first | (first | (with_reducible refine p_tn ?_) | (with_reducible refine wp_seq ?_) | (with_reducible refine wp_block ?_) | (with_reducible refine w_reg ?_) | (with_reducible (refine is_if ?_; (refine w_ift rfl ?_))) | (with_reducible refine wp_skip ?_)) | (first | (with_reducible refine l_nil ?_) | ((with_reducible refine g_on ?_); (first | ((with_reducible refine g_mv ?_); refine l_p txs rfl rfl ?_) | ((with_reducible refine g_ia ?_); refine l_ia txs rfl rfl (by first | omega | assumption | decide) (by first | omega | assumption | decide) ?_)))))
    (with_reducible refine is_l ?_); refine l_ld txs rfl rfl (by rw [Int.toNat_natCast]; exact H.old hcell) ?_
    skip
    (with_reducible refine is_l ?_); refine l_call rfl rfl (by kernel_rfl) (rfieldLine_c (strOfNums x) _ (by omega)) (fun e w_ hR => ?_)
    obtain ⟨u, v, rfl, hfv, K⟩ := hR
    refine ⟨_, rfl, ?_⟩
    rw [blS hbx] at hfv ⊢
    have H := H.call K
    cases hf : fieldS x with
    | none =>
      rw [hf] at hsn
      have hn : fieldsS ls = none := by rw [hspl]; exact fieldsS_stop hsn
      repeat' (first | (first | (with_reducible refine p_tn ?_) | (with_reducible refine p_tr ?_) | (with_reducible refine p_br ?_) | (with_reducible refine wp_seq ?_) | (with_reducible refine w_reg ?_) | (with_reducible (refine is_if ?_; (refine w_ift rfl ?_))) | (with_reducible refine wp_ret ?_)) | (first | (with_reducible refine l_nil ?_) | ((with_reducible refine g_on ?_); (first | ((with_reducible refine g_mv ?_); refine l_p txs rfl rfl ?_) | ((with_reducible refine g_as ?_); refine l_p txs rfl rfl ?_) | ((with_reducible refine g_ex ?_); refine l_p txs rfl rfl ?_) | ((with_reducible refine g_st ?_); (refine h_stR recs H 0 rfl rfl rfl rfl rfl rfl rfl rfl rfl (fun w_ H => ?_))) | ((with_reducible refine g_al ?_); refine h_alloc recs H rfl rfl (fun g_ w_ H => ?_)) | ((with_reducible refine g_un ?_); (refine l_p txs rfl rfl ?_))))))
      refine end2 rfl rfl rfl ?_
      unfold FsT
      rw [hE, hn]
      exact ⟨_, _, _, rfl, H.B⟩
    | some g =>
      rw [hf] at hsn
      obtain ⟨rfl, rfl⟩ := hfv g hf
      repeat' (first | (first | (with_reducible refine p_tn ?_) | (with_reducible refine wp_seq ?_) | (with_reducible refine w_reg ?_) | (with_reducible (refine is_if ?_; (refine w_iff rfl ?_))) | (with_reducible refine wp_skip ?_)) | (first | (with_reducible refine l_nil ?_) | ((with_reducible refine g_on ?_); (first | ((with_reducible refine g_mv ?_); refine l_p txs rfl rfl ?_) | ((with_reducible refine g_as ?_); refine l_p txs rfl rfl ?_) | ((with_reducible refine g_ex ?_); refine l_p txs rfl rfl ?_) | ((with_reducible refine g_ld ?_); (refine h_ldR recs H 0 rfl rfl rfl rfl rfl ?_)) | ((with_reducible refine g_st ?_); (refine h_stR recs H 0 rfl rfl rfl rfl rfl rfl rfl rfl rfl (fun w_ H => ?_))) | ((with_reducible refine g_al ?_); refine h_alloc recs H rfl rfl (fun g_ w_ H => ?_)) | ((with_reducible refine g_un ?_); (refine l_p txs rfl rfl ?_))))))
      (with_reducible refine is_l ?_); refine h_bs H info_g Tryz.underlying84 (by decide) (by decide) rfl rfl (fill_f _ _) (fun g_ w_ H => ?_)
      (with_reducible refine is_l ?_); refine h_app H 0 rfl info_g Tryz.underlying84 rfl rfl rfl rfl (H.cellRd 0 rfl) rfl rfl (by show (acc.length + 1) * 32 ≤ _; omega) (fun v w_ hv H => ?_)
      obtain ⟨A', c', rfl⟩ := hv
      repeat' (first | (first | (with_reducible refine p_tn ?_) | (with_reducible refine p_bn ?_) | (with_reducible refine w_reg ?_)) | (first | (with_reducible refine l_nil ?_) | ((with_reducible refine g_on ?_); (first | ((with_reducible refine g_mv ?_); refine l_p txs rfl rfl ?_) | ((with_reducible refine g_as ?_); refine l_p txs rfl rfl ?_) | ((with_reducible refine g_bi ?_); (refine l_a txs rfl rfl (by first | exact in_i64 (by omega) (by omega) | exact in_u8 (by omega) (by omega) | exact in_u64 (by omega) (by omega) | exact in_i32 (by omega) (by omega)) ?_))))))
      have H := H.pick [] [0] (by decide) (by decide) rfl rfl
      have e1 : (acc ++ [g]).length = acc.length + 1 := by simp
      have e2 : fldC (acc ++ [g]) = fldC acc ++ [.string (strOfNums g.1), .string (strOfNums g.2)] := fldC_snoc acc g.1 g.2
      refine ⟨(i + 1, acc ++ [g], A', c'), _, rfl, ⟨rfl, ?_, rfl, trivial⟩, ⟨?_, by show i + 1 ≤ _; omega, by show (acc ++ [g]).length ≤ i + 1; omega, hsn⟩, by show _ - (i + 1) < _ - i; omega⟩
      · show Value.slice A' (acc.length + 1) c' = Value.slice A' (acc ++ [g]).length c'
        rw [e1]
      · show Hp w _ [] [rowG (.slice A' (acc ++ [g]).length c') (acc ++ [g])]
        unfold rowG
        rw [e1, e2]
        exact H
  · have hall : ls.take i = ls := List.take_of_length_le (by omega)
    rw [hall] at hD
    repeat' (first | (first | (with_reducible refine p_tn ?_) | (with_reducible refine p_tx ?_) | (with_reducible refine x_hit ?_) | (with_reducible refine wp_seq ?_) | (with_reducible refine w_reg ?_) | (with_reducible (refine is_if ?_; (refine w_iff rfl ?_))) | (with_reducible refine wp_exit ?_) | (with_reducible refine wp_ret ?_)) | (first | (with_reducible refine l_nil ?_) | ((with_reducible refine g_on ?_); (first | ((with_reducible refine g_mv ?_); refine l_p txs rfl rfl ?_) | ((with_reducible refine g_as ?_); refine l_p txs rfl rfl ?_)))))
    refine end2 rfl rfl rfl ?_
    unfold FsT
    rw [hE, hD]
    exact ⟨A2, c2, rfl, H⟩
end Go.Proofs.YthgojbdpmcccaaaGreatDoor.K.Ref
end
section
namespace Go.Proofs.YthgojbdpmcccaaaGreatDoor.K.Ref
open Go.RowKit Go.Proofs.YthgojbdpmcccaaaGreatDoor.Q Go.Proofs.YthgojbdpmcccaaaGreatDoor.Wb Go.Proofs.YthgojbdpmcccaaaGreatDoorW.PrintWords Go.Proofs.YthgojbdpmcccaaaGreatDoor.K
set_option linter.unusedVariables false
set_option linter.unusedSimpArgs false
def sepB (c : Int) : Bool := !([47, 63, 35, 64, 92] : L).contains c
theorem host_split (v : L) : v.all hostB = (v.all visB && v.all sepB) := by
  induction v with
  | nil => rfl
  | cons x r ih =>
    simp only [List.all_cons, ih]
    have : hostB x = (visB x && sepB x) := rfl
    rw [this]
    cases visB x <;> cases sepB x <;> cases r.all visB <;> cases r.all sepB <;> rfl
set_option maxRecDepth 100000 in
set_option maxHeartbeats 8000000 in
theorem rhost_c {w : World} {B : Option Addr} {c : Nat} {l : List Fld} (h : Rd w B (fldC l)) (hb : BytesF l) (hl : l.length ≤ 100000000) (minor : Int) :
    Calls Tryz.prog 83 #[.slice B l.length c, .int .i64 minor] w fun e w' => e = .returned (.int .i64 (if hostOk l minor = true then 0 else 144)) ∧ Below w.heap.size w w' := by
  refine enter (args := [.slice B l.length c, .int .i64 minor]) Tryz.func83 rfl Tryz.ntmps83 rfl ?_
  have H := Hp.nil w
  repeat' (first | (first | (with_reducible refine p_tn ?_) | (with_reducible refine wp_seq ?_) | (with_reducible refine w_reg ?_)) | (first | (with_reducible refine l_nil ?_) | ((with_reducible refine g_on ?_); (first | ((with_reducible refine g_mv ?_); refine l_p txs rfl rfl ?_) | ((with_reducible refine g_as ?_); refine l_p txs rfl rfl ?_)))))
  (with_reducible refine is_l ?_); refine l_call rfl rfl (by kernel_rfl) (rall_c (h.below H.B) hb hl _) (fun e w_ hR => ?_)
  obtain ⟨A1, c1, rfl, K⟩ := hR
  refine ⟨_, rfl, ?_⟩
  have e0 : bl (⟨#[104, 111, 115, 116]⟩ : ByteArray) = nHost := rfl
  rw [e0] at K ⊢
  have H := H.join K
  have hmem : ∀ v ∈ vals l nHost, Bytes v ∧ v.length ≤ 100000000 := fun v hv => by
    obtain ⟨f, hf, hv⟩ := List.mem_filterMap.1 hv
    have := hb f hf
    split at hv
    · injection hv with hv; subst hv; exact ⟨this.2.1, this.2.2.2⟩
    · cases hv
  have hok : hostOk l minor = match vals l nHost with | [] => minor != 1 | [v] => v.all hostB | _ => false := rfl
  repeat' (first | (first | (with_reducible refine p_tn ?_) | (with_reducible refine wp_seq ?_) | (with_reducible refine w_reg ?_)) | (first | (with_reducible refine l_nil ?_) | ((with_reducible refine g_on ?_); (first | ((with_reducible refine g_mv ?_); refine l_p txs rfl rfl ?_) | ((with_reducible refine g_as ?_); refine l_p txs rfl rfl ?_) | ((with_reducible refine g_cl ?_); refine l_p txs rfl rfl ?_)))))
  match hv : vals l nHost with
  | [] =>
    rw [hv] at H hok
    simp only at hok
    (with_reducible refine is_l ?_); refine l_t txs rfl rfl (fun hh => absurd hh (by decide)) (fun _ => ?_)
    repeat' (first | ((with_reducible refine g_on ?_); ((with_reducible refine g_mv ?_); refine l_p txs rfl rfl ?_)) | ((with_reducible refine g_if ?_); (first | ((with_reducible refine g_mv ?_); refine l_p txs rfl rfl ?_) | ((with_reducible refine g_cl ?_); refine l_p txs rfl rfl ?_))))
    (with_reducible refine is_l ?_); refine l_t txs rfl rfl (fun _ => ?_) (fun hh => absurd rfl hh)
    repeat' ((with_reducible refine g_if ?_); ((with_reducible refine g_mv ?_); refine l_p txs rfl rfl ?_))
    (with_reducible refine is_l ?_); refine l_t txs rfl rfl (fun h1 => ?_) (fun h1 => ?_)
    · have ho : hostOk l minor = false := by rw [hok, h1]; rfl
      repeat' (first | (first | (with_reducible refine p_tn ?_) | (with_reducible refine p_tr ?_) | (with_reducible refine wp_seq ?_) | (with_reducible refine w_reg ?_) | (with_reducible (refine is_if ?_; (refine w_ift rfl ?_))) | (with_reducible refine wp_ret ?_)) | (first | (with_reducible refine l_nil ?_) | ((with_reducible refine g_on ?_); (first | ((with_reducible refine g_as ?_); refine l_p txs rfl rfl ?_) | ((with_reducible refine g_pk ?_); refine l_p txs rfl rfl ?_))) | ((with_reducible refine g_if ?_); ((with_reducible refine g_pk ?_); refine l_p txs rfl rfl ?_))))
      refine end1 rfl rfl ?_
      exact ⟨by rw [ho]; rfl, H.B⟩
    · have ho : hostOk l minor = true := by rw [hok]; simp; exact h1
      repeat' (first | (first | (with_reducible refine p_tn ?_) | (with_reducible refine wp_seq ?_) | (with_reducible refine wp_block ?_) | (with_reducible refine w_reg ?_) | (with_reducible (refine is_if ?_; (refine w_iff rfl ?_))) | (with_reducible refine wp_skip ?_)) | (first | (with_reducible refine l_nil ?_) | ((with_reducible refine g_on ?_); (first | ((with_reducible refine g_as ?_); refine l_p txs rfl rfl ?_) | ((with_reducible refine g_pk ?_); refine l_p txs rfl rfl ?_))) | ((with_reducible refine g_if ?_); ((with_reducible refine g_pk ?_); refine l_p txs rfl rfl ?_))))
      refine w_loop (σ := Unit) (S := fun _ => [(5, .slice A1 ([] : List L).length c1), (6, .int .i64 0)]) (J := fun _ w' => Hp w w' [] []) (μ := fun _ => 0) () ⟨rfl, rfl, trivial⟩ (H.pick [] [] (by decide) (by decide) rfl rfl) ?_
      rintro _ f w_ H
      repeat' (first | (first | (with_reducible refine wp_seq ?_) | (with_reducible refine w_reg ?_)) | ((with_reducible refine g_on ?_); (first | ((with_reducible refine g_mv ?_); refine l_p txs rfl rfl ?_) | ((with_reducible refine g_cl ?_); refine l_p txs rfl rfl ?_))))
      (with_reducible refine is_l ?_); refine l_t txs rfl rfl (fun hh => absurd hh (by decide)) (fun _ => ?_)
      repeat' (first | (first | (with_reducible refine p_tn ?_) | (with_reducible refine p_tx ?_) | (with_reducible refine x_hit ?_) | (with_reducible refine wp_seq ?_) | (with_reducible refine w_reg ?_) | (with_reducible (refine is_if ?_; (refine w_iff rfl ?_))) | (with_reducible refine wp_exit ?_) | (with_reducible refine wp_ret ?_)) | (first | (with_reducible refine l_nil ?_) | ((with_reducible refine g_on ?_); ((with_reducible refine g_as ?_); refine l_p txs rfl rfl ?_))))
      refine end1 rfl rfl ?_
      exact ⟨by rw [ho]; rfl, H.B⟩
  | [v] =>
    rw [hv] at H hok
    simp only at hok
    obtain ⟨hbv, hlv⟩ := hmem v (by rw [hv]; simp)
    have zv := sizeS' hbv
    obtain ⟨a, ha⟩ := rdT_some (rowT_at H 0 rfl) (y := v) (i := 0) rfl
    subst ha
    (with_reducible refine is_l ?_); refine l_t txs rfl rfl (fun hh => absurd hh (show ¬ ((1 : Int) < ((1 : Nat) : Int)) by decide)) (fun _ => ?_)
    repeat' (first | ((with_reducible refine g_on ?_); ((with_reducible refine g_mv ?_); refine l_p txs rfl rfl ?_)) | ((with_reducible refine g_if ?_); (first | ((with_reducible refine g_mv ?_); refine l_p txs rfl rfl ?_) | ((with_reducible refine g_cl ?_); refine l_p txs rfl rfl ?_))))
    (with_reducible refine is_l ?_); refine l_t txs rfl rfl (fun hh => absurd hh (show ¬ (((1 : Nat) : Int) = 0) by decide)) (fun _ => ?_)
    repeat' (first | (first | (with_reducible refine p_tn ?_) | (with_reducible refine wp_seq ?_) | (with_reducible refine wp_block ?_) | (with_reducible refine w_reg ?_) | (with_reducible (refine is_if ?_; (refine w_iff rfl ?_))) | (with_reducible refine wp_skip ?_)) | (first | (with_reducible refine l_nil ?_) | ((with_reducible refine g_on ?_); (first | ((with_reducible refine g_as ?_); refine l_p txs rfl rfl ?_) | ((with_reducible refine g_pk ?_); refine l_p txs rfl rfl ?_))) | ((with_reducible refine g_if ?_); (first | (refine l_off rfl ?_) | (first | ((with_reducible refine g_mv ?_); refine l_p txs rfl rfl ?_) | ((with_reducible refine g_pk ?_); refine l_p txs rfl rfl ?_))))))
    refine w_loop (σ := Nat) (S := fun i => [(5, .slice (some a) [v].length c1), (6, .int .i64 (i : Int))]) (J := fun i w' => Hp w w' [] [rowT (.slice (some a) [v].length c1) [v]] ∧ i ≤ 1 ∧ (i = 1 → v.all hostB = true)) (μ := fun i => 1 - i) 0 ⟨rfl, rfl, trivial⟩ ⟨H.pick [] [0] (by decide) (by decide) rfl rfl, Nat.zero_le _, fun h => by cases h⟩ ?_
    rintro i f w_ ⟨H, hi, hD⟩
    repeat' (first | (first | (with_reducible refine wp_seq ?_) | (with_reducible refine w_reg ?_)) | ((with_reducible refine g_on ?_); (first | ((with_reducible refine g_mv ?_); refine l_p txs rfl rfl ?_) | ((with_reducible refine g_cl ?_); refine l_p txs rfl rfl ?_))))
    (with_reducible refine is_l ?_); refine l_t txs rfl rfl (fun hlt => ?_) (fun hge => ?_)
    · have hlt' : (i : Int) < ((1 : Nat) : Int) := hlt
      obtain rfl : i = 0 := by omega
      have hcell := rdT_cell (rowT_at H 0 rfl) (y := v) (i := 0) rfl
      repeat' (first | (first | (with_reducible refine p_tn ?_) | (with_reducible refine wp_seq ?_) | (with_reducible refine wp_block ?_) | (with_reducible refine w_reg ?_) | (with_reducible (refine is_if ?_; (refine w_ift rfl ?_))) | (with_reducible refine wp_skip ?_)) | (first | (with_reducible refine l_nil ?_) | ((with_reducible refine g_on ?_); (first | ((with_reducible refine g_mv ?_); refine l_p txs rfl rfl ?_) | ((with_reducible refine g_ia ?_); refine l_ia txs rfl rfl (by first | omega | assumption | decide) (by first | omega | assumption | decide) ?_)))))
      (with_reducible refine is_l ?_); refine l_ld txs rfl rfl (by rw [Int.toNat_natCast]; exact hcell) ?_
      skip
      (with_reducible refine is_l ?_); refine l_t txs rfl rfl (fun hne => ?_) (fun heq => ?_)
      · have hv0 : v ≠ [] := fun e => hne (by rw [blS hbv, e]; rfl)
        have hvi := rvisible_c (strOfNums v) w_ (by omega)
        rw [blS hbv] at hvi
        have hem : (!v.isEmpty && v.all visB) = v.all visB := by cases v with
          | nil => exact absurd rfl hv0
          | cons x r => rfl
        rw [hem] at hvi
        repeat' (first | ((with_reducible refine g_on ?_); ((with_reducible refine g_mv ?_); refine l_p txs rfl rfl ?_)) | ((with_reducible refine g_if ?_); (first | ((with_reducible refine g_mv ?_); refine l_p txs rfl rfl ?_) | ((with_reducible refine g_ia ?_); refine l_ia txs rfl rfl (by first | omega | assumption | decide) (by first | omega | assumption | decide) ?_))))
        (with_reducible refine is_l ?_); refine l_ld txs rfl rfl (by rw [Int.toNat_natCast]; exact hcell) ?_
        skip
        (with_reducible refine is_l ?_); refine l_callv rfl rfl (by kernel_rfl) hvi (fun w_ K => ?_)
        have H := H.call K
        cases hvis : v.all visB
        · have ho : hostOk l minor = false := by rw [hok, host_split, hvis, Bool.false_and]
          repeat' (first | (first | (with_reducible refine p_tn ?_) | (with_reducible refine p_tr ?_) | (with_reducible refine p_br ?_) | (with_reducible refine wp_seq ?_) | (with_reducible refine w_reg ?_) | (with_reducible (refine is_if ?_; (refine w_ift rfl ?_))) | (with_reducible refine wp_ret ?_)) | (first | (with_reducible refine l_nil ?_) | ((with_reducible refine g_on ?_); (first | ((with_reducible refine g_as ?_); refine l_p txs rfl rfl ?_) | ((with_reducible refine g_pk ?_); refine l_p txs rfl rfl ?_))) | ((with_reducible refine g_if ?_); ((with_reducible refine g_un ?_); (refine l_p txs rfl rfl ?_)))))
          refine end1 rfl rfl ?_
          exact ⟨by rw [ho]; rfl, H.B⟩
        · skip
          repeat' (first | (first | (with_reducible refine p_tn ?_) | (with_reducible refine wp_seq ?_) | (with_reducible refine wp_block ?_) | (with_reducible refine w_reg ?_) | (with_reducible (refine is_if ?_; (refine w_iff rfl ?_))) | (with_reducible refine wp_skip ?_)) | (first | (with_reducible refine l_nil ?_) | ((with_reducible refine g_on ?_); (first | ((with_reducible refine g_as ?_); refine l_p txs rfl rfl ?_) | ((with_reducible refine g_pk ?_); refine l_p txs rfl rfl ?_))) | ((with_reducible refine g_if ?_); ((with_reducible refine g_un ?_); (refine l_p txs rfl rfl ?_)))))
          refine w_loop (σ := Nat) (S := fun j => [(5, .slice (some a) [v].length c1), (6, .int .i64 ((0 : Nat) : Int)), (7, .int .i64 (j : Int))]) (J := fun j w' => Hp w w' [] [rowT (.slice (some a) [v].length c1) [v]] ∧ j ≤ v.length ∧ v.all sepB = (v.drop j).all sepB) (μ := fun j => v.length - j) 0 ⟨rfl, rfl, rfl, trivial⟩ ⟨H.pick [] [0] (by decide) (by decide) rfl rfl, Nat.zero_le _, rfl⟩ ?_
          rintro j f w_ ⟨H, hj, hS⟩
          have hcell := rdT_cell (rowT_at H 0 rfl) (y := v) (i := 0) rfl
          repeat' (first | (first | (with_reducible refine wp_seq ?_) | (with_reducible refine w_reg ?_)) | ((with_reducible refine g_on ?_); (first | ((with_reducible refine g_mv ?_); refine l_p txs rfl rfl ?_) | ((with_reducible refine g_ia ?_); refine l_ia txs rfl rfl (by first | omega | assumption | decide) (by first | omega | assumption | decide) ?_))))
          (with_reducible refine is_l ?_); refine l_ld txs rfl rfl (by rw [Int.toNat_natCast]; exact hcell) ?_
          repeat' ((with_reducible refine g_on ?_); ((with_reducible refine g_cl ?_); refine l_p txs rfl rfl ?_))
          (with_reducible refine is_l ?_); refine l_t txs rfl rfl (fun hlt2 => ?_) (fun hge2 => ?_)
          · repeat' (first | (first | (with_reducible refine p_tn ?_) | (with_reducible refine wp_seq ?_) | (with_reducible refine wp_block ?_) | (with_reducible refine w_reg ?_) | (with_reducible (refine is_if ?_; (refine w_ift rfl ?_))) | (with_reducible refine wp_skip ?_)) | (first | (with_reducible refine l_nil ?_) | ((with_reducible refine g_on ?_); (first | ((with_reducible refine g_mv ?_); refine l_p txs rfl rfl ?_) | ((with_reducible refine g_ia ?_); refine l_ia txs rfl rfl (by first | omega | assumption | decide) (by first | omega | assumption | decide) ?_)))))
            (with_reducible refine is_l ?_); refine l_ld txs rfl rfl (by rw [Int.toNat_natCast]; exact hcell) ?_
            repeat' ((with_reducible refine g_on ?_); (first | ((with_reducible refine g_mv ?_); refine l_p txs rfl rfl ?_) | ((with_reducible refine g_ix ?_); refine l_ix txs rfl rfl (by first | omega | assumption | decide) (by first | omega | assumption | decide) ?_)))
            have ham := ramong_c ⟨#[47, 63, 35, 64, 92]⟩ (at_ (bl (strOfNums v)) (j : Int)) w_ (by decide)
            have e5 : bl (⟨#[47, 63, 35, 64, 92]⟩ : ByteArray) = [47, 63, 35, 64, 92] := rfl
            rw [e5] at ham
            (with_reducible refine is_l ?_); refine l_callv rfl rfl (by kernel_rfl) ham (fun w_ K => ?_)
            have H := H.call K
            have hdr := dropA (l := v) (i := j) (by omega)
            rw [hdr, List.all_cons] at hS
            rw [blS hbv]
            cases hc : ([47, 63, 35, 64, 92] : L).contains (at_ v (j : Int))
            · have hsb : sepB (at_ v (j : Int)) = true := by unfold sepB; rw [hc]; rfl
              rw [hsb, Bool.true_and] at hS
              repeat' (first | (first | (with_reducible refine p_tn ?_) | (with_reducible refine p_bn ?_) | (with_reducible refine w_reg ?_) | (with_reducible (refine is_if ?_; (refine w_iff rfl ?_))) | (with_reducible refine wp_skip ?_)) | (first | (with_reducible refine l_nil ?_) | ((with_reducible refine g_on ?_); (first | ((with_reducible refine g_mv ?_); refine l_p txs rfl rfl ?_) | ((with_reducible refine g_as ?_); refine l_p txs rfl rfl ?_) | ((with_reducible refine g_bi ?_); (refine l_a txs rfl rfl (by first | exact in_i64 (by omega) (by omega) | exact in_u8 (by omega) (by omega) | exact in_u64 (by omega) (by omega) | exact in_i32 (by omega) (by omega)) ?_))))))
              exact ⟨j + 1, _, rfl, ⟨rfl, rfl, rfl, trivial⟩, ⟨H, by omega, hS⟩, by omega⟩
            · have hsb : sepB (at_ v (j : Int)) = false := by unfold sepB; rw [hc]; rfl
              rw [hsb, Bool.false_and] at hS
              have ho : hostOk l minor = false := by rw [hok, host_split, hS, Bool.and_false]
              repeat' (first | (first | (with_reducible refine p_tn ?_) | (with_reducible refine p_tr ?_) | (with_reducible refine p_br ?_) | (with_reducible refine wp_seq ?_) | (with_reducible refine w_reg ?_) | (with_reducible (refine is_if ?_; (refine w_ift rfl ?_))) | (with_reducible refine wp_ret ?_)) | (first | (with_reducible refine l_nil ?_) | ((with_reducible refine g_on ?_); ((with_reducible refine g_as ?_); refine l_p txs rfl rfl ?_))))
              refine end1 rfl rfl ?_
              exact ⟨by rw [ho]; rfl, H.B⟩
          · have hall : v.drop j = [] := List.drop_eq_nil_of_le (by omega)
            rw [hall] at hS
            repeat' (first | (first | (with_reducible refine p_tn ?_) | (with_reducible refine p_tx ?_) | (with_reducible refine p_bn ?_) | (with_reducible refine x_hit ?_) | (with_reducible refine w_reg ?_) | (with_reducible (refine is_if ?_; (refine w_iff rfl ?_))) | (with_reducible refine wp_exit ?_)) | (first | (with_reducible refine l_nil ?_) | ((with_reducible refine g_on ?_); (first | ((with_reducible refine g_mv ?_); refine l_p txs rfl rfl ?_) | ((with_reducible refine g_as ?_); refine l_p txs rfl rfl ?_) | ((with_reducible refine g_bi ?_); (refine l_a txs rfl rfl (by first | exact in_i64 (by omega) (by omega) | exact in_u8 (by omega) (by omega) | exact in_u64 (by omega) (by omega) | exact in_i32 (by omega) (by omega)) ?_))))))
            exact ⟨1, _, rfl, ⟨rfl, rfl, trivial⟩, ⟨H, Nat.le_refl _, fun _ => by rw [host_split, hvis, hS]; rfl⟩, by omega⟩
      · have hv0 : v = [] := by have h1 := Classical.not_not.1 heq; rw [blS hbv] at h1; exact h1
        have hvis : v.all visB = true := by rw [hv0]; rfl
        repeat' (first | (first | (with_reducible refine p_tn ?_) | (with_reducible refine wp_seq ?_) | (with_reducible refine wp_block ?_) | (with_reducible refine w_reg ?_) | (with_reducible (refine is_if ?_; (refine w_iff rfl ?_))) | (with_reducible refine wp_skip ?_)) | (first | (with_reducible refine l_nil ?_) | ((with_reducible refine g_on ?_); (first | ((with_reducible refine g_mv ?_); refine l_p txs rfl rfl ?_) | ((with_reducible refine g_as ?_); refine l_p txs rfl rfl ?_) | ((with_reducible refine g_pk ?_); refine l_p txs rfl rfl ?_))) | ((with_reducible refine g_if ?_); (refine l_off rfl ?_))))
        refine w_loop (σ := Nat) (S := fun j => [(5, .slice (some a) [v].length c1), (6, .int .i64 ((0 : Nat) : Int)), (7, .int .i64 (j : Int))]) (J := fun j w' => Hp w w' [] [rowT (.slice (some a) [v].length c1) [v]] ∧ j ≤ v.length ∧ v.all sepB = (v.drop j).all sepB) (μ := fun j => v.length - j) 0 ⟨rfl, rfl, rfl, trivial⟩ ⟨H.pick [] [0] (by decide) (by decide) rfl rfl, Nat.zero_le _, rfl⟩ ?_
        rintro j f w_ ⟨H, hj, hS⟩
        have hcell := rdT_cell (rowT_at H 0 rfl) (y := v) (i := 0) rfl
        repeat' (first | (first | (with_reducible refine wp_seq ?_) | (with_reducible refine w_reg ?_)) | ((with_reducible refine g_on ?_); (first | ((with_reducible refine g_mv ?_); refine l_p txs rfl rfl ?_) | ((with_reducible refine g_ia ?_); refine l_ia txs rfl rfl (by first | omega | assumption | decide) (by first | omega | assumption | decide) ?_))))
        (with_reducible refine is_l ?_); refine l_ld txs rfl rfl (by rw [Int.toNat_natCast]; exact hcell) ?_
        repeat' ((with_reducible refine g_on ?_); ((with_reducible refine g_cl ?_); refine l_p txs rfl rfl ?_))
        (with_reducible refine is_l ?_); refine l_t txs rfl rfl (fun hlt2 => ?_) (fun hge2 => ?_)
        · repeat' (first | (first | (with_reducible refine p_tn ?_) | (with_reducible refine wp_seq ?_) | (with_reducible refine wp_block ?_) | (with_reducible refine w_reg ?_) | (with_reducible (refine is_if ?_; (refine w_ift rfl ?_))) | (with_reducible refine wp_skip ?_)) | (first | (with_reducible refine l_nil ?_) | ((with_reducible refine g_on ?_); (first | ((with_reducible refine g_mv ?_); refine l_p txs rfl rfl ?_) | ((with_reducible refine g_ia ?_); refine l_ia txs rfl rfl (by first | omega | assumption | decide) (by first | omega | assumption | decide) ?_)))))
          (with_reducible refine is_l ?_); refine l_ld txs rfl rfl (by rw [Int.toNat_natCast]; exact hcell) ?_
          repeat' ((with_reducible refine g_on ?_); (first | ((with_reducible refine g_mv ?_); refine l_p txs rfl rfl ?_) | ((with_reducible refine g_ix ?_); refine l_ix txs rfl rfl (by first | omega | assumption | decide) (by first | omega | assumption | decide) ?_)))
          have ham := ramong_c ⟨#[47, 63, 35, 64, 92]⟩ (at_ (bl (strOfNums v)) (j : Int)) w_ (by decide)
          have e5 : bl (⟨#[47, 63, 35, 64, 92]⟩ : ByteArray) = [47, 63, 35, 64, 92] := rfl
          rw [e5] at ham
          (with_reducible refine is_l ?_); refine l_callv rfl rfl (by kernel_rfl) ham (fun w_ K => ?_)
          have H := H.call K
          have hdr := dropA (l := v) (i := j) (by omega)
          rw [hdr, List.all_cons] at hS
          rw [blS hbv]
          cases hc : ([47, 63, 35, 64, 92] : L).contains (at_ v (j : Int))
          · have hsb : sepB (at_ v (j : Int)) = true := by unfold sepB; rw [hc]; rfl
            rw [hsb, Bool.true_and] at hS
            repeat' (first | (first | (with_reducible refine p_tn ?_) | (with_reducible refine p_bn ?_) | (with_reducible refine w_reg ?_) | (with_reducible (refine is_if ?_; (refine w_iff rfl ?_))) | (with_reducible refine wp_skip ?_)) | (first | (with_reducible refine l_nil ?_) | ((with_reducible refine g_on ?_); (first | ((with_reducible refine g_mv ?_); refine l_p txs rfl rfl ?_) | ((with_reducible refine g_as ?_); refine l_p txs rfl rfl ?_) | ((with_reducible refine g_bi ?_); (refine l_a txs rfl rfl (by first | exact in_i64 (by omega) (by omega) | exact in_u8 (by omega) (by omega) | exact in_u64 (by omega) (by omega) | exact in_i32 (by omega) (by omega)) ?_))))))
            exact ⟨j + 1, _, rfl, ⟨rfl, rfl, rfl, trivial⟩, ⟨H, by omega, hS⟩, by omega⟩
          · have hsb : sepB (at_ v (j : Int)) = false := by unfold sepB; rw [hc]; rfl
            rw [hsb, Bool.false_and] at hS
            have ho : hostOk l minor = false := by rw [hok, host_split, hS, Bool.and_false]
            repeat' (first | (first | (with_reducible refine p_tn ?_) | (with_reducible refine p_tr ?_) | (with_reducible refine p_br ?_) | (with_reducible refine wp_seq ?_) | (with_reducible refine w_reg ?_) | (with_reducible (refine is_if ?_; (refine w_ift rfl ?_))) | (with_reducible refine wp_ret ?_)) | (first | (with_reducible refine l_nil ?_) | ((with_reducible refine g_on ?_); ((with_reducible refine g_as ?_); refine l_p txs rfl rfl ?_))))
            refine end1 rfl rfl ?_
            exact ⟨by rw [ho]; rfl, H.B⟩
        · have hall : v.drop j = [] := List.drop_eq_nil_of_le (by omega)
          rw [hall] at hS
          repeat' (first | (first | (with_reducible refine p_tn ?_) | (with_reducible refine p_tx ?_) | (with_reducible refine p_bn ?_) | (with_reducible refine x_hit ?_) | (with_reducible refine w_reg ?_) | (with_reducible (refine is_if ?_; (refine w_iff rfl ?_))) | (with_reducible refine wp_exit ?_)) | (first | (with_reducible refine l_nil ?_) | ((with_reducible refine g_on ?_); (first | ((with_reducible refine g_mv ?_); refine l_p txs rfl rfl ?_) | ((with_reducible refine g_as ?_); refine l_p txs rfl rfl ?_) | ((with_reducible refine g_bi ?_); (refine l_a txs rfl rfl (by first | exact in_i64 (by omega) (by omega) | exact in_u8 (by omega) (by omega) | exact in_u64 (by omega) (by omega) | exact in_i32 (by omega) (by omega)) ?_))))))
          exact ⟨1, _, rfl, ⟨rfl, rfl, trivial⟩, ⟨H, Nat.le_refl _, fun _ => by rw [host_split, hvis, hS]; rfl⟩, by omega⟩
    · have hge' : ¬ (i : Int) < ((1 : Nat) : Int) := hge
      have ho : hostOk l minor = true := by rw [hok]; exact hD (by omega)
      repeat' (first | (first | (with_reducible refine p_tn ?_) | (with_reducible refine p_tx ?_) | (with_reducible refine x_hit ?_) | (with_reducible refine wp_seq ?_) | (with_reducible refine w_reg ?_) | (with_reducible (refine is_if ?_; (refine w_iff rfl ?_))) | (with_reducible refine wp_exit ?_) | (with_reducible refine wp_ret ?_)) | (first | (with_reducible refine l_nil ?_) | ((with_reducible refine g_on ?_); ((with_reducible refine g_as ?_); refine l_p txs rfl rfl ?_))))
      refine end1 rfl rfl ?_
      exact ⟨by rw [ho]; rfl, H.B⟩
  | a :: b :: r =>
    rw [hv] at H hok
    simp only at hok
    have hll : (a :: b :: r).length = r.length + 2 := rfl
    (with_reducible refine is_l ?_); refine l_t txs rfl rfl (fun _ => ?_) (fun hh => absurd (by omega) hh)
    repeat' (first | (first | (with_reducible refine p_tn ?_) | (with_reducible refine p_tr ?_) | (with_reducible refine wp_seq ?_) | (with_reducible refine w_reg ?_) | (with_reducible (refine is_if ?_; (refine w_ift rfl ?_))) | (with_reducible refine wp_ret ?_)) | (first | (with_reducible refine l_nil ?_) | ((with_reducible refine g_on ?_); (first | ((with_reducible refine g_mv ?_); refine l_p txs rfl rfl ?_) | ((with_reducible refine g_as ?_); refine l_p txs rfl rfl ?_) | ((with_reducible refine g_pk ?_); refine l_p txs rfl rfl ?_))) | ((with_reducible refine g_if ?_); (refine l_off rfl ?_))))
    refine end1 rfl rfl ?_
    exact ⟨by rw [hok]; rfl, H.B⟩
end Go.Proofs.YthgojbdpmcccaaaGreatDoor.K.Ref
end
section
namespace Go.Proofs.YthgojbdpmcccaaaGreatDoor.K.Ref
open Go.RowKit Go.Proofs.YthgojbdpmcccaaaGreatDoor.Q Go.Proofs.YthgojbdpmcccaaaGreatDoor.Wb Go.Proofs.YthgojbdpmcccaaaGreatDoorW.PrintWords Go.Proofs.YthgojbdpmcccaaaGreatDoor.K
set_option linter.unusedVariables false
set_option linter.unusedSimpArgs false
def lenV (l : List Fld) (minor : Int) : Value := match frameS l minor with
  | .error k => .tuple #[.int .i64 0, .int .i64 (k : Int)]
  | .ok .none => .tuple #[.int .i64 (-1), .int .i64 0]
  | .ok .chunks => .tuple #[.int .i64 (-2), .int .i64 0]
  | .ok (.len n) => .tuple #[.int .i64 (n : Int), .int .i64 0]
theorem lenV_err {l : List Fld} {minor : Int} {k : Nat} (h : frameS l minor = .error k) : lenV l minor = .tuple #[.int .i64 0, .int .i64 (k : Int)] := by unfold lenV; rw [h]
theorem frame_c1 {l : List Fld} {minor : Int} {c : L} {r : List L} (h : vals l nCode = c :: r) : frameS l minor = if minor = 0 ∨ r ≠ [] ∨ lowS c ≠ wChunked ∨ vals l nLen ≠ [] then .error 143 else .ok .chunks := by
  unfold frameS
  rw [h]
  cases r with
  | nil =>
    simp only
    by_cases hc : minor = 0 ∨ lowS c ≠ wChunked ∨ vals l nLen ≠ []
    · rw [if_pos hc, if_pos]
      rcases hc with a | a | a
      · exact .inl a
      · exact .inr (.inr (.inl a))
      · exact .inr (.inr (.inr a))
    · rw [if_neg hc, if_neg]
      rintro (a | a | a | a)
      · exact hc (.inl a)
      · exact a rfl
      · exact hc (.inr (.inl a))
      · exact hc (.inr (.inr a))
  | cons d r => simp only; rw [if_pos (.inr (.inl (by simp)))]
theorem frame_n1 {l : List Fld} {minor : Int} (h : vals l nCode = []) (h2 : vals l nLen = []) : frameS l minor = .ok .none := by unfold frameS; rw [h]; simp only; rw [h2]
theorem frame_n2 {l : List Fld} {minor : Int} {s t : L} {r : List L} (h : vals l nCode = []) (h2 : vals l nLen = s :: t :: r) : frameS l minor = .error 143 := by unfold frameS; rw [h]; simp only; rw [h2]
theorem frame_n3 {l : List Fld} {minor : Int} {s : L} (h : vals l nCode = []) (h2 : vals l nLen = [s]) : frameS l minor = match numS s with | none => .error 143 | some n => if 1048576 < n then .error 145 else .ok (.len n) := by unfold frameS; rw [h]; simp only; rw [h2]; rfl
theorem numV_ge : ∀ (l : L) (n : Nat), n ≤ numV n l
  | [], n => Nat.le_refl _
  | c :: r, n => by
    rw [numV]
    have := numV_ge r (10 * n + (c - 48).toNat)
    omega
theorem numV_take {l : L} {i : Nat} {x : Int} (h : l[i]? = some x) : numV 0 (l.take (i + 1)) = 10 * numV 0 (l.take i) + (x - 48).toNat := by
  have hi : i < l.length := (List.getElem?_eq_some_iff.1 h).1
  rw [List.take_succ_eq_append_getElem hi, (List.getElem?_eq_some_iff.1 h).2, numV_app]
  rfl
set_option maxRecDepth 100000 in
set_option maxHeartbeats 8000000 in
theorem rlength_c {w : World} {B : Option Addr} {c : Nat} {l : List Fld} (h : Rd w B (fldC l)) (hb : BytesF l) (hl : l.length ≤ 100000000) (minor : Int) :
    Calls Tryz.prog 128 #[.slice B l.length c, .int .i64 minor] w fun e w' => e = .returned (lenV l minor) ∧ Below w.heap.size w w' := by
  refine enter (args := [.slice B l.length c, .int .i64 minor]) Tryz.func128 rfl Tryz.ntmps128 rfl ?_
  have H := Hp.nil w
  repeat' (first | (first | (with_reducible refine p_tn ?_) | (with_reducible refine wp_seq ?_) | (with_reducible refine w_reg ?_)) | (first | (with_reducible refine l_nil ?_) | ((with_reducible refine g_on ?_); (first | ((with_reducible refine g_mv ?_); refine l_p txs rfl rfl ?_) | ((with_reducible refine g_as ?_); refine l_p txs rfl rfl ?_)))))
  (with_reducible refine is_l ?_); refine l_call rfl rfl (by kernel_rfl) (rall_c (h.below H.B) hb hl _) (fun e w_ hR => ?_)
  obtain ⟨A1, c1, rfl, K⟩ := hR
  refine ⟨_, rfl, ?_⟩
  have e0 : bl (⟨#[116, 114, 97, 110, 115, 102, 101, 114, 45, 101, 110, 99, 111, 100, 105, 110, 103]⟩ : ByteArray) = nCode := rfl
  rw [e0] at K ⊢
  have H := H.join K
  repeat' (first | (first | (with_reducible refine p_tn ?_) | (with_reducible refine wp_seq ?_) | (with_reducible refine w_reg ?_)) | (first | (with_reducible refine l_nil ?_) | ((with_reducible refine g_on ?_); (first | ((with_reducible refine g_mv ?_); refine l_p txs rfl rfl ?_) | ((with_reducible refine g_as ?_); refine l_p txs rfl rfl ?_)))))
  (with_reducible refine is_l ?_); refine l_call rfl rfl (by kernel_rfl) (rall_c (h.below H.B) hb hl _) (fun e w_ hR => ?_)
  obtain ⟨A2, c2, rfl, K⟩ := hR
  refine ⟨_, rfl, ?_⟩
  have e1 : bl (⟨#[99, 111, 110, 116, 101, 110, 116, 45, 108, 101, 110, 103, 116, 104]⟩ : ByteArray) = nLen := rfl
  rw [e1] at K ⊢
  have H := H.join K
  have hmem : ∀ n, ∀ v ∈ vals l n, Bytes v ∧ v.length ≤ 100000000 := fun n v hv => by
    obtain ⟨f, hf, hv⟩ := List.mem_filterMap.1 hv
    have := hb f hf
    split at hv
    · injection hv with hv; subst hv; exact ⟨this.2.1, this.2.2.2⟩
    · cases hv
  repeat' (first | (first | (with_reducible refine p_tn ?_) | (with_reducible refine wp_seq ?_) | (with_reducible refine w_reg ?_)) | (first | (with_reducible refine l_nil ?_) | ((with_reducible refine g_on ?_); (first | ((with_reducible refine g_mv ?_); refine l_p txs rfl rfl ?_) | ((with_reducible refine g_as ?_); refine l_p txs rfl rfl ?_) | ((with_reducible refine g_cl ?_); refine l_p txs rfl rfl ?_)))))
  cases hC : vals l nCode with
  | cons x r =>
    have hfr := frame_c1 (minor := minor) hC
    obtain ⟨hbx, hlx⟩ := hmem nCode x (by rw [hC]; simp)
    have zx := sizeS' hbx
    rw [hC] at H
    obtain ⟨a, ha⟩ := rdT_some (rowT_at H 1 rfl) (y := x) (i := 0) rfl
    subst ha
    have hll : (x :: r).length = r.length + 1 := rfl
    (with_reducible refine is_l ?_); refine l_t txs rfl rfl (fun _ => ?_) (fun hh => absurd (by omega) hh)
    repeat' (first | (first | (with_reducible refine p_tn ?_) | (with_reducible refine wp_seq ?_) | (with_reducible refine w_reg ?_) | (with_reducible (refine is_if ?_; (refine w_ift rfl ?_)))) | (first | (with_reducible refine l_nil ?_) | ((with_reducible refine g_on ?_); ((with_reducible refine g_mv ?_); refine l_p txs rfl rfl ?_))))
    (with_reducible refine is_l ?_); refine l_t txs rfl rfl (fun h1 => ?_) (fun h1 => ?_)
    · rw [if_pos (.inl h1)] at hfr
      repeat' (first | (first | (with_reducible refine p_tn ?_) | (with_reducible refine p_tr ?_) | (with_reducible refine wp_seq ?_) | (with_reducible refine w_reg ?_) | (with_reducible (refine is_if ?_; (refine w_ift rfl ?_))) | (with_reducible refine wp_ret ?_)) | (first | (with_reducible refine l_nil ?_) | ((with_reducible refine g_on ?_); (first | ((with_reducible refine g_mv ?_); refine l_p txs rfl rfl ?_) | ((with_reducible refine g_as ?_); refine l_p txs rfl rfl ?_) | ((with_reducible refine g_pk ?_); refine l_p txs rfl rfl ?_))) | ((with_reducible refine g_if ?_); (refine l_off rfl ?_))))
      refine end2 rfl rfl rfl ?_
      exact ⟨by rw [lenV_err hfr]; rfl, H.B⟩
    repeat' (first | ((with_reducible refine g_on ?_); ((with_reducible refine g_mv ?_); refine l_p txs rfl rfl ?_)) | ((with_reducible refine g_if ?_); (first | ((with_reducible refine g_mv ?_); refine l_p txs rfl rfl ?_) | ((with_reducible refine g_cl ?_); refine l_p txs rfl rfl ?_))))
    (with_reducible refine is_l ?_); refine l_t txs rfl rfl (fun h2 => ?_) (fun h2 => ?_)
    · rw [if_pos (.inr (.inl (by intro e; have : r.length = 0 := (by rw [e]; rfl); omega)))] at hfr
      repeat' (first | (first | (with_reducible refine p_tn ?_) | (with_reducible refine p_tr ?_) | (with_reducible refine wp_seq ?_) | (with_reducible refine w_reg ?_) | (with_reducible (refine is_if ?_; (refine w_ift rfl ?_))) | (with_reducible refine wp_ret ?_)) | (first | (with_reducible refine l_nil ?_) | ((with_reducible refine g_on ?_); (first | ((with_reducible refine g_mv ?_); refine l_p txs rfl rfl ?_) | ((with_reducible refine g_as ?_); refine l_p txs rfl rfl ?_) | ((with_reducible refine g_pk ?_); refine l_p txs rfl rfl ?_))) | ((with_reducible refine g_if ?_); (refine l_off rfl ?_))))
      refine end2 rfl rfl rfl ?_
      exact ⟨by rw [lenV_err hfr]; rfl, H.B⟩
    have hr0 : r = [] := List.length_eq_zero_iff.1 (by omega)
    repeat' (first | ((with_reducible refine g_on ?_); (first | ((with_reducible refine g_mv ?_); refine l_p txs rfl rfl ?_) | ((with_reducible refine g_pk ?_); refine l_p txs rfl rfl ?_))) | ((with_reducible refine g_if ?_); (first | ((with_reducible refine g_mv ?_); refine l_p txs rfl rfl ?_) | ((with_reducible refine g_ia ?_); refine l_ia txs rfl rfl (by first | omega | assumption | decide) (by first | omega | assumption | decide) ?_))))
    (with_reducible refine is_l ?_); refine l_ld txs rfl rfl (rdT_cell (rowT_at H 1 rfl) (y := x) (i := 0) rfl) ?_
    skip
    have hsm := rsmall_c (strOfNums x) w_ (by omega)
    rw [blS hbx] at hsm
    (with_reducible refine is_l ?_); refine l_callv rfl rfl (by kernel_rfl) hsm (fun w_ K => ?_)
    have H := H.call K
    have e2 := blS (bytes_low hbx)
    have e3 : bl (⟨#[99, 104, 117, 110, 107, 101, 100]⟩ : ByteArray) = wChunked := rfl
    skip
    (with_reducible refine is_l ?_); refine l_t txs rfl rfl (fun h3 => ?_) (fun h3 => ?_)
    · rw [e2, e3] at h3
      rw [if_pos (.inr (.inr (.inl h3)))] at hfr
      repeat' (first | (first | (with_reducible refine p_tn ?_) | (with_reducible refine p_tr ?_) | (with_reducible refine wp_seq ?_) | (with_reducible refine w_reg ?_) | (with_reducible (refine is_if ?_; (refine w_ift rfl ?_))) | (with_reducible refine wp_ret ?_)) | (first | (with_reducible refine l_nil ?_) | ((with_reducible refine g_on ?_); (first | ((with_reducible refine g_mv ?_); refine l_p txs rfl rfl ?_) | ((with_reducible refine g_as ?_); refine l_p txs rfl rfl ?_) | ((with_reducible refine g_pk ?_); refine l_p txs rfl rfl ?_))) | ((with_reducible refine g_if ?_); (refine l_off rfl ?_))))
      refine end2 rfl rfl rfl ?_
      exact ⟨by rw [lenV_err hfr]; rfl, H.B⟩
    rw [e2, e3] at h3
    repeat' (first | ((with_reducible refine g_on ?_); (first | ((with_reducible refine g_mv ?_); refine l_p txs rfl rfl ?_) | ((with_reducible refine g_pk ?_); refine l_p txs rfl rfl ?_))) | ((with_reducible refine g_if ?_); (first | ((with_reducible refine g_mv ?_); refine l_p txs rfl rfl ?_) | ((with_reducible refine g_cl ?_); refine l_p txs rfl rfl ?_))))
    (with_reducible refine is_l ?_); refine l_t txs rfl rfl (fun h4 => ?_) (fun h4 => ?_)
    · rw [if_pos (.inr (.inr (.inr (by intro e; rw [e] at h4; simp at h4))))] at hfr
      repeat' (first | (first | (with_reducible refine p_tn ?_) | (with_reducible refine p_tr ?_) | (with_reducible refine wp_seq ?_) | (with_reducible refine w_reg ?_) | (with_reducible (refine is_if ?_; (refine w_ift rfl ?_))) | (with_reducible refine wp_ret ?_)) | (first | (with_reducible refine l_nil ?_) | ((with_reducible refine g_on ?_); (first | ((with_reducible refine g_as ?_); refine l_p txs rfl rfl ?_) | ((with_reducible refine g_pk ?_); refine l_p txs rfl rfl ?_)))))
      refine end2 rfl rfl rfl ?_
      exact ⟨by rw [lenV_err hfr]; rfl, H.B⟩
    · have hT0 : vals l nLen = [] := List.length_eq_zero_iff.1 (by omega)
      rw [if_neg (fun h => h.elim h1 fun h => h.elim (fun a => a hr0) fun h => h.elim h3 fun a => a hT0)] at hfr
      repeat' (first | (first | (with_reducible refine p_tn ?_) | (with_reducible refine p_tr ?_) | (with_reducible refine wp_seq ?_) | (with_reducible refine w_reg ?_) | (with_reducible (refine is_if ?_; (refine w_iff rfl ?_))) | (with_reducible refine wp_skip ?_) | (with_reducible refine wp_ret ?_)) | (first | (with_reducible refine l_nil ?_) | ((with_reducible refine g_on ?_); (first | ((with_reducible refine g_as ?_); refine l_p txs rfl rfl ?_) | ((with_reducible refine g_pk ?_); refine l_p txs rfl rfl ?_)))))
      refine end2 rfl rfl rfl ?_
      exact ⟨by unfold lenV; rw [hfr], H.B⟩
  | nil =>
    rw [hC] at H
    (with_reducible refine is_l ?_); refine l_t txs rfl rfl (fun hh => absurd hh (by decide)) (fun _ => ?_)
    repeat' (first | (first | (with_reducible refine p_tn ?_) | (with_reducible refine wp_seq ?_) | (with_reducible refine w_reg ?_) | (with_reducible (refine is_if ?_; (refine w_iff rfl ?_))) | (with_reducible refine wp_skip ?_)) | (first | (with_reducible refine l_nil ?_) | ((with_reducible refine g_on ?_); (first | ((with_reducible refine g_mv ?_); refine l_p txs rfl rfl ?_) | ((with_reducible refine g_cl ?_); refine l_p txs rfl rfl ?_)))))
    match hT : vals l nLen with
    | [] =>
      (with_reducible refine is_l ?_); refine l_t txs rfl rfl (fun _ => ?_) (fun hh => absurd rfl hh)
      repeat' (first | (first | (with_reducible refine p_tn ?_) | (with_reducible refine p_tr ?_) | (with_reducible refine wp_seq ?_) | (with_reducible refine w_reg ?_) | (with_reducible (refine is_if ?_; (refine w_ift rfl ?_))) | (with_reducible refine wp_ret ?_)) | (first | (with_reducible refine l_nil ?_) | ((with_reducible refine g_on ?_); ((with_reducible refine g_as ?_); refine l_p txs rfl rfl ?_))))
      refine end2 rfl rfl rfl ?_
      exact ⟨by unfold lenV; rw [frame_n1 hC hT], H.B⟩
    | s :: t :: r =>
      have hll : (s :: t :: r).length = r.length + 2 := rfl
      (with_reducible refine is_l ?_); refine l_t txs rfl rfl (fun hh => absurd hh (by omega)) (fun _ => ?_)
      repeat' (first | (first | (with_reducible refine p_tn ?_) | (with_reducible refine wp_seq ?_) | (with_reducible refine w_reg ?_) | (with_reducible (refine is_if ?_; (refine w_iff rfl ?_))) | (with_reducible refine wp_skip ?_)) | (first | (with_reducible refine l_nil ?_) | ((with_reducible refine g_on ?_); (first | ((with_reducible refine g_mv ?_); refine l_p txs rfl rfl ?_) | ((with_reducible refine g_cl ?_); refine l_p txs rfl rfl ?_)))))
      (with_reducible refine is_l ?_); refine l_t txs rfl rfl (fun _ => ?_) (fun hh => absurd (by omega) hh)
      repeat' (first | (first | (with_reducible refine p_tn ?_) | (with_reducible refine p_tr ?_) | (with_reducible refine wp_seq ?_) | (with_reducible refine w_reg ?_) | (with_reducible (refine is_if ?_; (refine w_ift rfl ?_))) | (with_reducible refine wp_ret ?_)) | (first | (with_reducible refine l_nil ?_) | ((with_reducible refine g_on ?_); ((with_reducible refine g_as ?_); refine l_p txs rfl rfl ?_))))
      refine end2 rfl rfl rfl ?_
      exact ⟨by rw [lenV_err (frame_n2 hC hT)]; rfl, H.B⟩
    | [s] =>
      have hfr := frame_n3 (minor := minor) hC hT
      obtain ⟨hbs, hls⟩ := hmem nLen s (by rw [hT]; simp)
      have zs := sizeS' hbs
      rw [hT] at H
      obtain ⟨a, ha⟩ := rdT_some (rowT_at H 0 rfl) (y := s) (i := 0) rfl
      subst ha
      (with_reducible refine is_l ?_); refine l_t txs rfl rfl (fun hh => absurd hh (show ¬ (((1 : Nat) : Int) = 0) by decide)) (fun _ => ?_)
      repeat' (first | (first | (with_reducible refine p_tn ?_) | (with_reducible refine wp_seq ?_) | (with_reducible refine w_reg ?_) | (with_reducible (refine is_if ?_; (refine w_iff rfl ?_))) | (with_reducible refine wp_skip ?_)) | (first | (with_reducible refine l_nil ?_) | ((with_reducible refine g_on ?_); (first | ((with_reducible refine g_mv ?_); refine l_p txs rfl rfl ?_) | ((with_reducible refine g_cl ?_); refine l_p txs rfl rfl ?_)))))
      (with_reducible refine is_l ?_); refine l_t txs rfl rfl (fun hh => absurd hh (show ¬ ((1 : Int) < ((1 : Nat) : Int)) by decide)) (fun _ => ?_)
      repeat' (first | (first | (with_reducible refine p_tn ?_) | (with_reducible refine wp_seq ?_) | (with_reducible refine w_reg ?_) | (with_reducible (refine is_if ?_; (refine w_iff rfl ?_))) | (with_reducible refine wp_skip ?_)) | (first | (with_reducible refine l_nil ?_) | ((with_reducible refine g_on ?_); (first | ((with_reducible refine g_mv ?_); refine l_p txs rfl rfl ?_) | ((with_reducible refine g_ia ?_); refine l_ia txs rfl rfl (by first | omega | assumption | decide) (by first | omega | assumption | decide) ?_)))))
      (with_reducible refine is_l ?_); refine l_ld txs rfl rfl (rdT_cell (rowT_at H 0 rfl) (y := s) (i := 0) rfl) ?_
      repeat' (first | (first | (with_reducible refine p_tn ?_) | (with_reducible refine wp_seq ?_) | (with_reducible refine wp_block ?_) | (with_reducible refine w_reg ?_)) | (first | (with_reducible refine l_nil ?_) | ((with_reducible refine g_on ?_); ((with_reducible refine g_as ?_); refine l_p txs rfl rfl ?_))))
      refine w_loop (σ := Nat) (S := fun i => [(8, .string (strOfNums s)), (9, .int .i64 (i : Int))]) (J := fun i w' => Hp w w' [] [] ∧ i ≤ s.length ∧ s.all digB = (s.drop i).all digB) (μ := fun i => s.length - i) 0 ⟨rfl, rfl, trivial⟩ ⟨H.pick [] [] (by decide) (by decide) rfl rfl, Nat.zero_le _, rfl⟩ ?_
      rintro i f w_ ⟨H, hi, hD⟩
      repeat' (first | (first | (with_reducible refine wp_seq ?_) | (with_reducible refine w_reg ?_)) | ((with_reducible refine g_on ?_); (first | ((with_reducible refine g_mv ?_); refine l_p txs rfl rfl ?_) | ((with_reducible refine g_cl ?_); refine l_p txs rfl rfl ?_))))
      (with_reducible refine is_l ?_); refine l_t txs rfl rfl (fun hlt => ?_) (fun hge => ?_)
      · rw [dropA (by omega), List.all_cons] at hD
        repeat' (first | (first | (with_reducible refine p_tn ?_) | (with_reducible refine wp_seq ?_) | (with_reducible refine wp_block ?_) | (with_reducible refine w_reg ?_) | (with_reducible (refine is_if ?_; (refine w_ift rfl ?_))) | (with_reducible refine wp_skip ?_)) | (first | (with_reducible refine l_nil ?_) | ((with_reducible refine g_on ?_); (first | ((with_reducible refine g_mv ?_); refine l_p txs rfl rfl ?_) | ((with_reducible refine g_ix ?_); refine l_ix txs rfl rfl (by first | omega | assumption | decide) (by first | omega | assumption | decide) ?_)))))
        (with_reducible refine is_l ?_); refine l_callv rfl rfl (by kernel_rfl) (rdigit_c _ _) (fun w_ K => ?_)
        have H := H.call K
        rw [blS hbs]
        cases hd : digB (at_ s (i : Int))
        · rw [hd, Bool.false_and] at hD
          have hnum : numS s = none := by unfold numS; rw [if_pos (.inr (.inl hD))]
          rw [hnum] at hfr
          repeat' (first | (first | (with_reducible refine p_tn ?_) | (with_reducible refine p_tr ?_) | (with_reducible refine p_br ?_) | (with_reducible refine wp_seq ?_) | (with_reducible refine w_reg ?_) | (with_reducible (refine is_if ?_; (refine w_ift rfl ?_))) | (with_reducible refine wp_ret ?_)) | (first | (with_reducible refine l_nil ?_) | ((with_reducible refine g_on ?_); (first | ((with_reducible refine g_as ?_); refine l_p txs rfl rfl ?_) | ((with_reducible refine g_un ?_); (refine l_p txs rfl rfl ?_))))))
          refine end2 rfl rfl rfl ?_
          exact ⟨by rw [lenV_err hfr]; rfl, H.B⟩
        · rw [hd, Bool.true_and] at hD
          repeat' (first | (first | (with_reducible refine p_tn ?_) | (with_reducible refine p_bn ?_) | (with_reducible refine w_reg ?_) | (with_reducible (refine is_if ?_; (refine w_iff rfl ?_))) | (with_reducible refine wp_skip ?_)) | (first | (with_reducible refine l_nil ?_) | ((with_reducible refine g_on ?_); (first | ((with_reducible refine g_mv ?_); refine l_p txs rfl rfl ?_) | ((with_reducible refine g_as ?_); refine l_p txs rfl rfl ?_) | ((with_reducible refine g_un ?_); (refine l_p txs rfl rfl ?_)) | ((with_reducible refine g_bi ?_); (refine l_a txs rfl rfl (by first | exact in_i64 (by omega) (by omega) | exact in_u8 (by omega) (by omega) | exact in_u64 (by omega) (by omega) | exact in_i32 (by omega) (by omega)) ?_))))))
          exact ⟨i + 1, _, rfl, ⟨rfl, rfl, trivial⟩, ⟨H, by omega, hD⟩, by omega⟩
      have hall : s.drop i = [] := List.drop_eq_nil_of_le (by omega)
      rw [hall] at hD
      have hdig : s.all digB = true := hD
      repeat' (first | (first | (with_reducible refine p_tn ?_) | (with_reducible refine p_tx ?_) | (with_reducible refine x_hit ?_) | (with_reducible refine wp_seq ?_) | (with_reducible refine w_reg ?_) | (with_reducible (refine is_if ?_; (refine w_iff rfl ?_))) | (with_reducible refine wp_exit ?_)) | (first | (with_reducible refine l_nil ?_) | ((with_reducible refine g_on ?_); ((with_reducible refine g_mv ?_); refine l_p txs rfl rfl ?_))))
      (with_reducible refine is_l ?_); refine l_t txs rfl rfl (fun h5 => ?_) (fun h5 => ?_)
      · have hs0 : s = [] := by rw [blS hbs] at h5; exact h5
        have hnum : numS s = none := by unfold numS; rw [if_pos (.inl hs0)]
        rw [hnum] at hfr
        repeat' (first | (first | (with_reducible refine p_tn ?_) | (with_reducible refine p_tr ?_) | (with_reducible refine wp_seq ?_) | (with_reducible refine w_reg ?_) | (with_reducible (refine is_if ?_; (refine w_ift rfl ?_))) | (with_reducible refine wp_ret ?_)) | (first | (with_reducible refine l_nil ?_) | ((with_reducible refine g_on ?_); (first | ((with_reducible refine g_mv ?_); refine l_p txs rfl rfl ?_) | ((with_reducible refine g_as ?_); refine l_p txs rfl rfl ?_) | ((with_reducible refine g_pk ?_); refine l_p txs rfl rfl ?_))) | ((with_reducible refine g_if ?_); (refine l_off rfl ?_))))
        refine end2 rfl rfl rfl ?_
        exact ⟨by rw [lenV_err hfr]; rfl, H.B⟩
      have hs0 : s ≠ [] := fun e => h5 (by rw [blS hbs, e]; rfl)
      have hhd : s.head? = some (at_ s 0) := by cases s with
        | nil => exact absurd rfl hs0
        | cons y r => rfl
      have hnum : ¬ (1 < s.length ∧ s.head? = some 48) → numS s = some (numV 0 s) := fun hh => by
        unfold numS
        rw [if_neg]
        rintro (a | a | a)
        · exact hs0 a
        · rw [hdig] at a; cases a
        · exact hh a
      repeat' (first | ((with_reducible refine g_on ?_); ((with_reducible refine g_mv ?_); refine l_p txs rfl rfl ?_)) | ((with_reducible refine g_if ?_); (first | ((with_reducible refine g_mv ?_); refine l_p txs rfl rfl ?_) | ((with_reducible refine g_cl ?_); refine l_p txs rfl rfl ?_))))
      (with_reducible refine is_l ?_); refine l_t txs rfl rfl (fun h6 => ?_) (fun h6 => ?_)
      · repeat' ((with_reducible refine g_if ?_); (first | ((with_reducible refine g_mv ?_); refine l_p txs rfl rfl ?_) | ((with_reducible refine g_ix ?_); refine l_ix txs rfl rfl (by first | omega | assumption | decide) (by first | omega | assumption | decide) ?_)))
        rw [blS hbs]
        skip
        (with_reducible refine is_l ?_); refine l_t txs rfl rfl (fun h7 => ?_) (fun h7 => ?_)
        · have hnn : numS s = none := by unfold numS; rw [if_pos (.inr (.inr ⟨by omega, by rw [hhd, h7]⟩))]
          rw [hnn] at hfr
          repeat' (first | (first | (with_reducible refine p_tn ?_) | (with_reducible refine p_tr ?_) | (with_reducible refine wp_seq ?_) | (with_reducible refine w_reg ?_) | (with_reducible (refine is_if ?_; (refine w_ift rfl ?_))) | (with_reducible refine wp_ret ?_)) | (first | (with_reducible refine l_nil ?_) | ((with_reducible refine g_on ?_); (first | ((with_reducible refine g_as ?_); refine l_p txs rfl rfl ?_) | ((with_reducible refine g_pk ?_); refine l_p txs rfl rfl ?_))) | ((with_reducible refine g_if ?_); ((with_reducible refine g_pk ?_); refine l_p txs rfl rfl ?_))))
          refine end2 rfl rfl rfl ?_
          exact ⟨by rw [lenV_err hfr]; rfl, H.B⟩
        · rw [hnum (fun hh => h7 (by have h8 := hh.2; rw [hhd] at h8; injection h8))] at hfr
          simp only at hfr
          repeat' (first | (first | (with_reducible refine p_tn ?_) | (with_reducible refine wp_seq ?_) | (with_reducible refine wp_block ?_) | (with_reducible refine w_reg ?_) | (with_reducible (refine is_if ?_; (refine w_iff rfl ?_))) | (with_reducible refine wp_skip ?_)) | (first | (with_reducible refine l_nil ?_) | ((with_reducible refine g_on ?_); (first | ((with_reducible refine g_as ?_); refine l_p txs rfl rfl ?_) | ((with_reducible refine g_pk ?_); refine l_p txs rfl rfl ?_))) | ((with_reducible refine g_if ?_); ((with_reducible refine g_pk ?_); refine l_p txs rfl rfl ?_))))
          refine w_loop (σ := Nat × Nat) (S := fun t => [(8, .string (strOfNums s)), (10, .int .i64 (t.2 : Int)), (11, .int .i64 (t.1 : Int))]) (J := fun t w' => Hp w w' [] [] ∧ t.1 ≤ s.length ∧ t.2 = numV 0 (s.take t.1) ∧ t.2 ≤ 1048576) (μ := fun t => s.length - t.1) (0, 0) ⟨rfl, rfl, rfl, trivial⟩ ⟨H, Nat.zero_le _, rfl, by decide⟩ ?_
          rintro ⟨j, n⟩ f w_ ⟨H, hj, hn, hn2⟩
          simp only at H hj hn hn2 ⊢
          repeat' (first | (first | (with_reducible refine wp_seq ?_) | (with_reducible refine w_reg ?_)) | ((with_reducible refine g_on ?_); (first | ((with_reducible refine g_mv ?_); refine l_p txs rfl rfl ?_) | ((with_reducible refine g_cl ?_); refine l_p txs rfl rfl ?_))))
          (with_reducible refine is_l ?_); refine l_t txs rfl rfl (fun hlt => ?_) (fun hge => ?_)
          · obtain ⟨x, hx⟩ : ∃ x, s[j]? = some x := ⟨_, List.getElem?_eq_getElem (by omega)⟩
            have hxd := List.all_eq_true.1 hdig x (List.mem_of_getElem? hx)
            have hx48 : 48 ≤ x ∧ x ≤ 57 := by unfold digB at hxd; simp at hxd; exact hxd
            have hat : at_ (bl (strOfNums s)) (j : Int) = x := by rw [blS hbs]; exact at_of hx
            have hb1 : 48 ≤ at_ (bl (strOfNums s)) (j : Int) ∧ at_ (bl (strOfNums s)) (j : Int) ≤ 57 := by rw [hat]; exact hx48
            have hnt := numV_take hx
            rw [← hn] at hnt
            obtain ⟨n', hn'⟩ : ∃ n', n' = 10 * n + (x - 48).toNat := ⟨_, rfl⟩
            rw [← hn'] at hnt
            have hval : 10 * (n : Int) + (at_ (bl (strOfNums s)) (j : Int) - 48) = (n' : Int) := by rw [hat]; omega
            repeat' (first | (first | (with_reducible refine p_tn ?_) | (with_reducible refine wp_seq ?_) | (with_reducible refine wp_block ?_) | (with_reducible refine w_reg ?_) | (with_reducible (refine is_if ?_; (refine w_ift rfl ?_))) | (with_reducible refine wp_skip ?_)) | (first | (with_reducible refine l_nil ?_) | ((with_reducible refine g_on ?_); (first | ((with_reducible refine g_mv ?_); refine l_p txs rfl rfl ?_) | ((with_reducible refine g_as ?_); refine l_p txs rfl rfl ?_) | ((with_reducible refine g_ix ?_); refine l_ix txs rfl rfl (by first | omega | assumption | decide) (by first | omega | assumption | decide) ?_) | ((with_reducible refine g_cv ?_); (refine l_a txs rfl rfl (by first | exact in_i64 (by omega) (by omega) | exact in_u8 (by omega) (by omega) | exact in_u64 (by omega) (by omega) | exact in_i32 (by omega) (by omega)) ?_)) | ((with_reducible refine g_bi ?_); (refine l_a txs rfl rfl (by first | exact in_i64 (by omega) (by omega) | exact in_u8 (by omega) (by omega) | exact in_u64 (by omega) (by omega) | exact in_i32 (by omega) (by omega)) ?_))))))
            rw [hval]
            skip
            (with_reducible refine is_l ?_); refine l_t txs rfl rfl (fun hbig => ?_) (fun hsm => ?_)
            · have hge2 : n' ≤ numV 0 s := by
                have h1 := numV_app (s.take (j + 1)) (s.drop (j + 1)) 0
                rw [List.take_append_drop, hnt] at h1
                rw [h1]
                exact numV_ge _ _
              rw [if_pos (by omega)] at hfr
              repeat' (first | (first | (with_reducible refine p_tn ?_) | (with_reducible refine p_tr ?_) | (with_reducible refine p_br ?_) | (with_reducible refine wp_seq ?_) | (with_reducible refine w_reg ?_) | (with_reducible (refine is_if ?_; (refine w_ift rfl ?_))) | (with_reducible refine wp_ret ?_)) | (first | (with_reducible refine l_nil ?_) | ((with_reducible refine g_on ?_); ((with_reducible refine g_as ?_); refine l_p txs rfl rfl ?_))))
              refine end2 rfl rfl rfl ?_
              exact ⟨by rw [lenV_err hfr]; rfl, H.B⟩
            · repeat' (first | (first | (with_reducible refine p_tn ?_) | (with_reducible refine p_bn ?_) | (with_reducible refine w_reg ?_) | (with_reducible (refine is_if ?_; (refine w_iff rfl ?_))) | (with_reducible refine wp_skip ?_)) | (first | (with_reducible refine l_nil ?_) | ((with_reducible refine g_on ?_); (first | ((with_reducible refine g_mv ?_); refine l_p txs rfl rfl ?_) | ((with_reducible refine g_as ?_); refine l_p txs rfl rfl ?_) | ((with_reducible refine g_bi ?_); (refine l_a txs rfl rfl (by first | exact in_i64 (by omega) (by omega) | exact in_u8 (by omega) (by omega) | exact in_u64 (by omega) (by omega) | exact in_i32 (by omega) (by omega)) ?_))))))
              exact ⟨(j + 1, n'), _, rfl, ⟨rfl, rfl, rfl, trivial⟩, ⟨H, by show j + 1 ≤ _; omega, hnt.symm, by show n' ≤ _; omega⟩, by show _ - (j + 1) < _ - j; omega⟩
          · have hall2 : s.take j = s := List.take_of_length_le (by omega)
            rw [hall2] at hn
            rw [if_neg (by omega)] at hfr
            repeat' (first | (first | (with_reducible refine p_tn ?_) | (with_reducible refine p_tx ?_) | (with_reducible refine x_hit ?_) | (with_reducible refine wp_seq ?_) | (with_reducible refine w_reg ?_) | (with_reducible (refine is_if ?_; (refine w_iff rfl ?_))) | (with_reducible refine wp_exit ?_) | (with_reducible refine wp_ret ?_)) | (first | (with_reducible refine l_nil ?_) | ((with_reducible refine g_on ?_); (first | ((with_reducible refine g_mv ?_); refine l_p txs rfl rfl ?_) | ((with_reducible refine g_as ?_); refine l_p txs rfl rfl ?_)))))
            refine end2 rfl rfl rfl ?_
            exact ⟨by unfold lenV; rw [hfr, hn], H.B⟩
      · rw [hnum (fun hh => h6 (by have := hh.1; omega))] at hfr
        simp only at hfr
        repeat' (first | (first | (with_reducible refine p_tn ?_) | (with_reducible refine wp_seq ?_) | (with_reducible refine wp_block ?_) | (with_reducible refine w_reg ?_) | (with_reducible (refine is_if ?_; (refine w_iff rfl ?_))) | (with_reducible refine wp_skip ?_)) | (first | (with_reducible refine l_nil ?_) | ((with_reducible refine g_on ?_); (first | ((with_reducible refine g_as ?_); refine l_p txs rfl rfl ?_) | ((with_reducible refine g_pk ?_); refine l_p txs rfl rfl ?_))) | ((with_reducible refine g_if ?_); (first | (refine l_off rfl ?_) | (first | ((with_reducible refine g_mv ?_); refine l_p txs rfl rfl ?_) | ((with_reducible refine g_pk ?_); refine l_p txs rfl rfl ?_))))))
        refine w_loop (σ := Nat × Nat) (S := fun t => [(8, .string (strOfNums s)), (10, .int .i64 (t.2 : Int)), (11, .int .i64 (t.1 : Int))]) (J := fun t w' => Hp w w' [] [] ∧ t.1 ≤ s.length ∧ t.2 = numV 0 (s.take t.1) ∧ t.2 ≤ 1048576) (μ := fun t => s.length - t.1) (0, 0) ⟨rfl, rfl, rfl, trivial⟩ ⟨H, Nat.zero_le _, rfl, by decide⟩ ?_
        rintro ⟨j, n⟩ f w_ ⟨H, hj, hn, hn2⟩
        simp only at H hj hn hn2 ⊢
        repeat' (first | (first | (with_reducible refine wp_seq ?_) | (with_reducible refine w_reg ?_)) | ((with_reducible refine g_on ?_); (first | ((with_reducible refine g_mv ?_); refine l_p txs rfl rfl ?_) | ((with_reducible refine g_cl ?_); refine l_p txs rfl rfl ?_))))
        (with_reducible refine is_l ?_); refine l_t txs rfl rfl (fun hlt => ?_) (fun hge => ?_)
        · obtain ⟨x, hx⟩ : ∃ x, s[j]? = some x := ⟨_, List.getElem?_eq_getElem (by omega)⟩
          have hxd := List.all_eq_true.1 hdig x (List.mem_of_getElem? hx)
          have hx48 : 48 ≤ x ∧ x ≤ 57 := by unfold digB at hxd; simp at hxd; exact hxd
          have hat : at_ (bl (strOfNums s)) (j : Int) = x := by rw [blS hbs]; exact at_of hx
          have hb1 : 48 ≤ at_ (bl (strOfNums s)) (j : Int) ∧ at_ (bl (strOfNums s)) (j : Int) ≤ 57 := by rw [hat]; exact hx48
          have hnt := numV_take hx
          rw [← hn] at hnt
          obtain ⟨n', hn'⟩ : ∃ n', n' = 10 * n + (x - 48).toNat := ⟨_, rfl⟩
          rw [← hn'] at hnt
          have hval : 10 * (n : Int) + (at_ (bl (strOfNums s)) (j : Int) - 48) = (n' : Int) := by rw [hat]; omega
          repeat' (first | (first | (with_reducible refine p_tn ?_) | (with_reducible refine wp_seq ?_) | (with_reducible refine wp_block ?_) | (with_reducible refine w_reg ?_) | (with_reducible (refine is_if ?_; (refine w_ift rfl ?_))) | (with_reducible refine wp_skip ?_)) | (first | (with_reducible refine l_nil ?_) | ((with_reducible refine g_on ?_); (first | ((with_reducible refine g_mv ?_); refine l_p txs rfl rfl ?_) | ((with_reducible refine g_as ?_); refine l_p txs rfl rfl ?_) | ((with_reducible refine g_ix ?_); refine l_ix txs rfl rfl (by first | omega | assumption | decide) (by first | omega | assumption | decide) ?_) | ((with_reducible refine g_cv ?_); (refine l_a txs rfl rfl (by first | exact in_i64 (by omega) (by omega) | exact in_u8 (by omega) (by omega) | exact in_u64 (by omega) (by omega) | exact in_i32 (by omega) (by omega)) ?_)) | ((with_reducible refine g_bi ?_); (refine l_a txs rfl rfl (by first | exact in_i64 (by omega) (by omega) | exact in_u8 (by omega) (by omega) | exact in_u64 (by omega) (by omega) | exact in_i32 (by omega) (by omega)) ?_))))))
          rw [hval]
          skip
          (with_reducible refine is_l ?_); refine l_t txs rfl rfl (fun hbig => ?_) (fun hsm => ?_)
          · have hge2 : n' ≤ numV 0 s := by
              have h1 := numV_app (s.take (j + 1)) (s.drop (j + 1)) 0
              rw [List.take_append_drop, hnt] at h1
              rw [h1]
              exact numV_ge _ _
            rw [if_pos (by omega)] at hfr
            repeat' (first | (first | (with_reducible refine p_tn ?_) | (with_reducible refine p_tr ?_) | (with_reducible refine p_br ?_) | (with_reducible refine wp_seq ?_) | (with_reducible refine w_reg ?_) | (with_reducible (refine is_if ?_; (refine w_ift rfl ?_))) | (with_reducible refine wp_ret ?_)) | (first | (with_reducible refine l_nil ?_) | ((with_reducible refine g_on ?_); ((with_reducible refine g_as ?_); refine l_p txs rfl rfl ?_))))
            refine end2 rfl rfl rfl ?_
            exact ⟨by rw [lenV_err hfr]; rfl, H.B⟩
          · repeat' (first | (first | (with_reducible refine p_tn ?_) | (with_reducible refine p_bn ?_) | (with_reducible refine w_reg ?_) | (with_reducible (refine is_if ?_; (refine w_iff rfl ?_))) | (with_reducible refine wp_skip ?_)) | (first | (with_reducible refine l_nil ?_) | ((with_reducible refine g_on ?_); (first | ((with_reducible refine g_mv ?_); refine l_p txs rfl rfl ?_) | ((with_reducible refine g_as ?_); refine l_p txs rfl rfl ?_) | ((with_reducible refine g_bi ?_); (refine l_a txs rfl rfl (by first | exact in_i64 (by omega) (by omega) | exact in_u8 (by omega) (by omega) | exact in_u64 (by omega) (by omega) | exact in_i32 (by omega) (by omega)) ?_))))))
            exact ⟨(j + 1, n'), _, rfl, ⟨rfl, rfl, rfl, trivial⟩, ⟨H, by show j + 1 ≤ _; omega, hnt.symm, by show n' ≤ _; omega⟩, by show _ - (j + 1) < _ - j; omega⟩
        · have hall2 : s.take j = s := List.take_of_length_le (by omega)
          rw [hall2] at hn
          rw [if_neg (by omega)] at hfr
          repeat' (first | (first | (with_reducible refine p_tn ?_) | (with_reducible refine p_tx ?_) | (with_reducible refine x_hit ?_) | (with_reducible refine wp_seq ?_) | (with_reducible refine w_reg ?_) | (with_reducible (refine is_if ?_; (refine w_iff rfl ?_))) | (with_reducible refine wp_exit ?_) | (with_reducible refine wp_ret ?_)) | (first | (with_reducible refine l_nil ?_) | ((with_reducible refine g_on ?_); (first | ((with_reducible refine g_mv ?_); refine l_p txs rfl rfl ?_) | ((with_reducible refine g_as ?_); refine l_p txs rfl rfl ?_)))))
          refine end2 rfl rfl rfl ?_
          exact ⟨by unfold lenV; rw [hfr, hn], H.B⟩
end Go.Proofs.YthgojbdpmcccaaaGreatDoor.K.Ref
end
section
namespace Go.Proofs.YthgojbdpmcccaaaGreatDoor.K.Ref
open Go.RowKit Go.Proofs.YthgojbdpmcccaaaGreatDoor.Q Go.Proofs.YthgojbdpmcccaaaGreatDoor.Wb Go.Proofs.YthgojbdpmcccaaaGreatDoorW.PrintWords Go.Proofs.YthgojbdpmcccaaaGreatDoor.K
set_option linter.unusedVariables false
set_option linter.unusedSimpArgs false
theorem info_str1 : (Tryz.prog.info? 9).map (·.size) = some 1 := by kernel_rfl
set_option maxHeartbeats 4000000 in
theorem rknown_c {w : World} {t2 : TypeId} {fr : Nat × Nat} (hT : w.heap[14]? = some (.cells meC t2 fr)) (s : ByteArray) :
    Calls Tryz.prog 81 #[.string s] w fun e w' => e = .returned (.bool (methodsS.contains (bl s))) ∧ Below w.heap.size w w' := by
  refine enter (args := [.string s]) Tryz.func81 rfl Tryz.ntmps81 rfl ?_
  have H := Hp.nil w
  repeat' (first | (first | (with_reducible refine p_tn ?_) | (with_reducible refine wp_seq ?_) | (with_reducible refine wp_block ?_) | (with_reducible refine w_reg ?_)) | (first | (with_reducible refine l_nil ?_) | ((with_reducible refine g_on ?_); ((with_reducible refine g_as ?_); refine l_p txs rfl rfl ?_))))
  refine w_loop (σ := Nat) (S := fun k => [(0, .string s), (3, .int .i64 (k : Int))]) (J := fun k w' => Hp w w' [] [] ∧ k ≤ 9 ∧ methodsS.contains (bl s) = (methodsS.drop k).contains (bl s)) (μ := fun k => 9 - k) 0 ⟨rfl, rfl, trivial⟩ ⟨H, by omega, rfl⟩ ?_
  rintro k f w_ ⟨H, hk, hl⟩
  repeat' (first | (first | (with_reducible refine wp_seq ?_) | (with_reducible refine w_reg ?_)) | ((with_reducible refine g_on ?_); ((with_reducible refine g_mv ?_); refine l_p txs rfl rfl ?_)))
  (with_reducible refine is_l ?_); refine l_t txs rfl rfl (fun hlt => ?_) (fun hge => ?_)
  · have hk' : k < 9 := by omega
    obtain ⟨h1, h2⟩ := me_at k hk'
    rw [h2, List.contains_cons] at hl
    have hcell : w.cell? ⟨14, k, none⟩ = some (.string (meB.getD k ⟨#[]⟩)) := by
      simp only [World.cell?, hT]
      exact h1
    repeat' (first | (first | (with_reducible refine p_tn ?_) | (with_reducible refine wp_seq ?_) | (with_reducible refine wp_block ?_) | (with_reducible refine w_reg ?_) | (with_reducible (refine is_if ?_; (refine w_ift rfl ?_))) | (with_reducible refine wp_skip ?_)) | (first | (with_reducible refine l_nil ?_) | ((with_reducible refine g_on ?_); ((with_reducible refine g_mv ?_); refine l_p txs rfl rfl ?_))))
    (with_reducible refine is_l ?_); refine l_iaa Tryz.underlying208 info_str1 rfl rfl rfl (by omega) (by omega) ?_
    skip
    (with_reducible refine is_l ?_); refine l_ld txs rfl rfl (by rw [Int.toNat_natCast]; exact H.old hcell) ?_
    repeat' ((with_reducible refine g_on ?_); ((with_reducible refine g_mv ?_); refine l_p txs rfl rfl ?_))
    (with_reducible refine is_l ?_); refine l_t txs rfl rfl (fun hh => ?_) (fun hn => ?_)
    · repeat' (first | (first | (with_reducible refine p_tn ?_) | (with_reducible refine p_tr ?_) | (with_reducible refine p_br ?_) | (with_reducible refine wp_seq ?_) | (with_reducible refine w_reg ?_) | (with_reducible (refine is_if ?_; (refine w_ift rfl ?_))) | (with_reducible refine wp_ret ?_)) | (first | (with_reducible refine l_nil ?_) | ((with_reducible refine g_on ?_); ((with_reducible refine g_as ?_); refine l_p txs rfl rfl ?_))))
      refine end1 rfl rfl ?_
      exact ⟨by rw [hl, hh]; simp, H.B⟩
    · repeat' (first | (first | (with_reducible refine p_tn ?_) | (with_reducible refine p_bn ?_) | (with_reducible refine w_reg ?_) | (with_reducible (refine is_if ?_; (refine w_iff rfl ?_))) | (with_reducible refine wp_skip ?_)) | (first | (with_reducible refine l_nil ?_) | ((with_reducible refine g_on ?_); (first | ((with_reducible refine g_mv ?_); refine l_p txs rfl rfl ?_) | ((with_reducible refine g_as ?_); refine l_p txs rfl rfl ?_) | ((with_reducible refine g_bi ?_); (refine l_a txs rfl rfl (by first | exact in_i64 (by omega) (by omega) | exact in_u8 (by omega) (by omega) | exact in_u64 (by omega) (by omega) | exact in_i32 (by omega) (by omega)) ?_))))))
      exact ⟨k + 1, _, rfl, ⟨rfl, rfl, trivial⟩, ⟨H, by omega, by rw [hl, beq_eq_false_iff_ne.2 (fun e => hn e.symm)]; simp⟩, by omega⟩
  · have hnil : methodsS.drop k = [] := List.drop_eq_nil_of_le (by show 9 ≤ k; omega)
    rw [hnil] at hl
    repeat' (first | (first | (with_reducible refine p_tn ?_) | (with_reducible refine p_tx ?_) | (with_reducible refine x_hit ?_) | (with_reducible refine wp_seq ?_) | (with_reducible refine w_reg ?_) | (with_reducible (refine is_if ?_; (refine w_iff rfl ?_))) | (with_reducible refine wp_exit ?_) | (with_reducible refine wp_ret ?_)) | (first | (with_reducible refine l_nil ?_) | ((with_reducible refine g_on ?_); ((with_reducible refine g_as ?_); refine l_p txs rfl rfl ?_))))
    refine end1 rfl rfl ?_
    exact ⟨by rw [hl]; rfl, H.B⟩
def hexI (c : Int) : Int := match hexV c with | some n => (n : Int) | none => -1
set_option maxHeartbeats 2000000 in
theorem rhex_c (c : Int) (hc : 0 ≤ c ∧ c ≤ 255) (w : World) : Calls Tryz.prog 143 #[.int .u8 c] w fun e w' => e = .returned (.int .i64 (hexI c)) ∧ Below w.heap.size w w' := by
  refine enter (args := [.int .u8 c]) Tryz.func143 rfl Tryz.ntmps143 rfl ?_
  have H := Hp.nil w
  repeat' (first | (first | (with_reducible refine p_tn ?_) | (with_reducible refine wp_seq ?_) | (with_reducible refine wp_block ?_) | (with_reducible refine w_reg ?_)) | (first | (with_reducible refine l_nil ?_) | ((with_reducible refine g_on ?_); (first | ((with_reducible refine g_mv ?_); refine l_p txs rfl rfl ?_) | ((with_reducible refine g_as ?_); refine l_p txs rfl rfl ?_)))))
  (with_reducible refine is_l ?_); refine l_callv rfl rfl (by kernel_rfl) (rdigit_c c _) (fun w_ K => ?_)
  have H := H.call K
  cases hd : digB c
  · have hn : ¬ (48 ≤ c ∧ c ≤ 57) := by unfold digB at hd; simp at hd; omega
    repeat' (first | (first | (with_reducible refine p_tn ?_) | (with_reducible refine wp_seq ?_) | (with_reducible refine w_reg ?_) | (with_reducible (refine is_if ?_; (refine w_iff rfl ?_)))) | (first | (with_reducible refine l_nil ?_) | ((with_reducible refine g_on ?_); (first | ((with_reducible refine g_mv ?_); refine l_p txs rfl rfl ?_) | ((with_reducible refine g_as ?_); refine l_p txs rfl rfl ?_)))))
    (with_reducible refine is_l ?_); refine l_t txs rfl rfl (fun h1 => ?_) (fun h1 => ?_)
    · repeat' (first | ((with_reducible refine g_on ?_); ((with_reducible refine g_mv ?_); refine l_p txs rfl rfl ?_)) | ((with_reducible refine g_if ?_); ((with_reducible refine g_mv ?_); refine l_p txs rfl rfl ?_)))
      (with_reducible refine is_l ?_); refine l_t txs rfl rfl (fun h2 => ?_) (fun h2 => ?_)
      · repeat' (first | (first | (with_reducible refine p_tn ?_) | (with_reducible refine p_tr ?_) | (with_reducible refine p_br ?_) | (with_reducible refine wp_seq ?_) | (with_reducible refine w_reg ?_) | (with_reducible (refine is_if ?_; (refine w_ift rfl ?_))) | (with_reducible refine wp_ret ?_)) | (first | (with_reducible refine l_nil ?_) | ((with_reducible refine g_on ?_); (first | ((with_reducible refine g_mv ?_); refine l_p txs rfl rfl ?_) | ((with_reducible refine g_as ?_); refine l_p txs rfl rfl ?_) | ((with_reducible refine g_pk ?_); refine l_p txs rfl rfl ?_) | ((with_reducible refine g_cv ?_); (refine l_a txs rfl rfl (by first | exact in_i64 (by omega) (by omega) | exact in_u8 (by omega) (by omega) | exact in_u64 (by omega) (by omega) | exact in_i32 (by omega) (by omega)) ?_)) | ((with_reducible refine g_bi ?_); (refine l_a txs rfl rfl (by first | exact in_i64 (by omega) (by omega) | exact in_u8 (by omega) (by omega) | exact in_u64 (by omega) (by omega) | exact in_i32 (by omega) (by omega)) ?_))))))
        refine end1 rfl rfl ?_
        refine ⟨?_, H.B⟩
        have : hexI c = c - 97 + 10 := by unfold hexI hexV; rw [if_neg hn, if_pos ⟨h1, h2⟩]; simp only; omega
        rw [this]
      · repeat' (first | (first | (with_reducible refine p_tn ?_) | (with_reducible refine wp_seq ?_) | (with_reducible refine w_reg ?_) | (with_reducible (refine is_if ?_; (refine w_iff rfl ?_)))) | (first | (with_reducible refine l_nil ?_) | ((with_reducible refine g_on ?_); (first | ((with_reducible refine g_mv ?_); refine l_p txs rfl rfl ?_) | ((with_reducible refine g_as ?_); refine l_p txs rfl rfl ?_) | ((with_reducible refine g_pk ?_); refine l_p txs rfl rfl ?_)))))
        (with_reducible refine is_l ?_); refine l_t txs rfl rfl (fun h3 => ?_) (fun h3 => ?_)
        · repeat' (first | ((with_reducible refine g_on ?_); ((with_reducible refine g_mv ?_); refine l_p txs rfl rfl ?_)) | ((with_reducible refine g_if ?_); ((with_reducible refine g_mv ?_); refine l_p txs rfl rfl ?_)))
          (with_reducible refine is_l ?_); refine l_t txs rfl rfl (fun h4 => absurd h4 (by omega)) (fun h4 => ?_)
          repeat' (first | (first | (with_reducible refine p_tn ?_) | (with_reducible refine p_bn ?_) | (with_reducible refine wp_seq ?_) | (with_reducible refine w_reg ?_) | (with_reducible (refine is_if ?_; (refine w_iff rfl ?_))) | (with_reducible refine wp_skip ?_) | (with_reducible refine wp_ret ?_)) | (first | (with_reducible refine l_nil ?_) | ((with_reducible refine g_on ?_); (first | ((with_reducible refine g_as ?_); refine l_p txs rfl rfl ?_) | ((with_reducible refine g_pk ?_); refine l_p txs rfl rfl ?_)))))
          refine end1 rfl rfl ?_
          refine ⟨?_, H.B⟩
          have : hexI c = -1 := by unfold hexI hexV; rw [if_neg hn, if_neg (by omega), if_neg (by omega)]
          rw [this]
        · exact absurd h3 (by omega)
    · repeat' (first | (first | (with_reducible refine p_tn ?_) | (with_reducible refine wp_seq ?_) | (with_reducible refine w_reg ?_) | (with_reducible (refine is_if ?_; (refine w_iff rfl ?_)))) | (first | (with_reducible refine l_nil ?_) | ((with_reducible refine g_on ?_); (first | ((with_reducible refine g_mv ?_); refine l_p txs rfl rfl ?_) | ((with_reducible refine g_as ?_); refine l_p txs rfl rfl ?_) | ((with_reducible refine g_pk ?_); refine l_p txs rfl rfl ?_))) | ((with_reducible refine g_if ?_); (refine l_off rfl ?_))))
      (with_reducible refine is_l ?_); refine l_t txs rfl rfl (fun h3 => ?_) (fun h3 => ?_)
      · repeat' (first | ((with_reducible refine g_on ?_); ((with_reducible refine g_mv ?_); refine l_p txs rfl rfl ?_)) | ((with_reducible refine g_if ?_); ((with_reducible refine g_mv ?_); refine l_p txs rfl rfl ?_)))
        (with_reducible refine is_l ?_); refine l_t txs rfl rfl (fun h4 => ?_) (fun h4 => ?_)
        · repeat' (first | (first | (with_reducible refine p_tn ?_) | (with_reducible refine p_tr ?_) | (with_reducible refine p_br ?_) | (with_reducible refine wp_seq ?_) | (with_reducible refine w_reg ?_) | (with_reducible (refine is_if ?_; (refine w_ift rfl ?_))) | (with_reducible refine wp_ret ?_)) | (first | (with_reducible refine l_nil ?_) | ((with_reducible refine g_on ?_); (first | ((with_reducible refine g_mv ?_); refine l_p txs rfl rfl ?_) | ((with_reducible refine g_as ?_); refine l_p txs rfl rfl ?_) | ((with_reducible refine g_pk ?_); refine l_p txs rfl rfl ?_) | ((with_reducible refine g_cv ?_); (refine l_a txs rfl rfl (by first | exact in_i64 (by omega) (by omega) | exact in_u8 (by omega) (by omega) | exact in_u64 (by omega) (by omega) | exact in_i32 (by omega) (by omega)) ?_)) | ((with_reducible refine g_bi ?_); (refine l_a txs rfl rfl (by first | exact in_i64 (by omega) (by omega) | exact in_u8 (by omega) (by omega) | exact in_u64 (by omega) (by omega) | exact in_i32 (by omega) (by omega)) ?_))))))
          refine end1 rfl rfl ?_
          refine ⟨?_, H.B⟩
          have : hexI c = c - 65 + 10 := by unfold hexI hexV; rw [if_neg hn, if_neg (by omega), if_pos ⟨h3, h4⟩]; simp only; omega
          rw [this]
        · repeat' (first | (first | (with_reducible refine p_tn ?_) | (with_reducible refine p_bn ?_) | (with_reducible refine wp_seq ?_) | (with_reducible refine w_reg ?_) | (with_reducible (refine is_if ?_; (refine w_iff rfl ?_))) | (with_reducible refine wp_skip ?_) | (with_reducible refine wp_ret ?_)) | (first | (with_reducible refine l_nil ?_) | ((with_reducible refine g_on ?_); (first | ((with_reducible refine g_as ?_); refine l_p txs rfl rfl ?_) | ((with_reducible refine g_pk ?_); refine l_p txs rfl rfl ?_)))))
          refine end1 rfl rfl ?_
          refine ⟨?_, H.B⟩
          have : hexI c = -1 := by unfold hexI hexV; rw [if_neg hn, if_neg (by omega), if_neg (by omega)]
          rw [this]
      · repeat' (first | (first | (with_reducible refine p_tn ?_) | (with_reducible refine p_bn ?_) | (with_reducible refine wp_seq ?_) | (with_reducible refine w_reg ?_) | (with_reducible (refine is_if ?_; (refine w_iff rfl ?_))) | (with_reducible refine wp_skip ?_) | (with_reducible refine wp_ret ?_)) | (first | (with_reducible refine l_nil ?_) | ((with_reducible refine g_on ?_); (first | ((with_reducible refine g_mv ?_); refine l_p txs rfl rfl ?_) | ((with_reducible refine g_as ?_); refine l_p txs rfl rfl ?_) | ((with_reducible refine g_pk ?_); refine l_p txs rfl rfl ?_))) | ((with_reducible refine g_if ?_); (refine l_off rfl ?_))))
        refine end1 rfl rfl ?_
        refine ⟨?_, H.B⟩
        have : hexI c = -1 := by unfold hexI hexV; rw [if_neg hn, if_neg (by omega), if_neg (by omega)]
        rw [this]
  · have hn : 48 ≤ c ∧ c ≤ 57 := by unfold digB at hd; simp at hd; omega
    repeat' (first | (first | (with_reducible refine p_tn ?_) | (with_reducible refine p_tr ?_) | (with_reducible refine p_br ?_) | (with_reducible refine wp_seq ?_) | (with_reducible refine w_reg ?_) | (with_reducible (refine is_if ?_; (refine w_ift rfl ?_))) | (with_reducible refine wp_ret ?_)) | (first | (with_reducible refine l_nil ?_) | ((with_reducible refine g_on ?_); (first | ((with_reducible refine g_mv ?_); refine l_p txs rfl rfl ?_) | ((with_reducible refine g_as ?_); refine l_p txs rfl rfl ?_) | ((with_reducible refine g_cv ?_); (refine l_a txs rfl rfl (by first | exact in_i64 (by omega) (by omega) | exact in_u8 (by omega) (by omega) | exact in_u64 (by omega) (by omega) | exact in_i32 (by omega) (by omega)) ?_)) | ((with_reducible refine g_bi ?_); (refine l_a txs rfl rfl (by first | exact in_i64 (by omega) (by omega) | exact in_u8 (by omega) (by omega) | exact in_u64 (by omega) (by omega) | exact in_i32 (by omega) (by omega)) ?_))))))
    refine end1 rfl rfl ?_
    refine ⟨?_, H.B⟩
    have : hexI c = c - 48 := by unfold hexI hexV; rw [if_pos hn]; simp only; omega
    rw [this]
end Go.Proofs.YthgojbdpmcccaaaGreatDoor.K.Ref
end
section
namespace Go.Proofs.YthgojbdpmcccaaaGreatDoor.K.Ref
open Go.RowKit Go.Proofs.YthgojbdpmcccaaaGreatDoor.Q Go.Proofs.YthgojbdpmcccaaaGreatDoor.Wb Go.Proofs.YthgojbdpmcccaaaGreatDoorW.PrintWords Go.Proofs.YthgojbdpmcccaaaGreatDoor.K
set_option linter.unusedVariables false
set_option linter.unusedSimpArgs false
def endI (s : ByteArray) (k : Nat) : Int := match endS ((bl s).drop k) with
  | .ok r => ((s.size - r.length : Nat) : Int)
  | .error e => if e = 140 then -2 else -1
theorem end_a {x : Int} {t : L} (h : ¬ x = 10) (h2 : ¬ x = 13) : endS (x :: t) = .error 146 := by
  unfold endS
  split <;> first | rfl | (exfalso; simp_all)
theorem end_b {y : Int} {r : L} (h : ¬ y = 10) : endS (13 :: y :: r) = .error 146 := by
  unfold endS
  split <;> first | rfl | (exfalso; simp_all)
set_option maxHeartbeats 4000000 in
theorem rend_c (s : ByteArray) (k : Nat) (w : World) (hs : s.size ≤ 2000000000000) (hk : k ≤ s.size) : Calls Tryz.prog 134 #[.string s, .int .i64 (k : Int)] w fun e w' => e = .returned (.int .i64 (endI s k)) ∧ Below w.heap.size w w' := by
  refine enter (args := [.string s, .int .i64 (k : Int)]) Tryz.func134 rfl Tryz.ntmps134 rfl ?_
  have hbl := bl_length s
  have H := Hp.nil w
  repeat' (first | (first | (with_reducible refine p_tn ?_) | (with_reducible refine wp_seq ?_) | (with_reducible refine wp_block ?_) | (with_reducible refine w_reg ?_)) | (first | (with_reducible refine l_nil ?_) | ((with_reducible refine g_on ?_); (first | ((with_reducible refine g_mv ?_); refine l_p txs rfl rfl ?_) | ((with_reducible refine g_as ?_); refine l_p txs rfl rfl ?_) | ((with_reducible refine g_sl ?_); refine l_sl txs rfl rfl (by first | omega | assumption | decide) (by first | omega | assumption | decide) (by first | omega | assumption | decide) ?_)))))
  obtain ⟨u, hu0⟩ : ∃ u, u = s.extract (((k : Nat) : Int)).toNat ((s.size : Int)).toNat := ⟨_, rfl⟩
  rw [← hu0]
  obtain ⟨d, hd⟩ : ∃ d, d = (bl s).drop k := ⟨_, rfl⟩
  have hu : bl u = d := by rw [hu0, Int.toNat_natCast, Int.toNat_natCast, blE, hd, List.take_of_length_le (by rw [List.length_drop]; omega)]
  have zu : u.size = d.length := by rw [← bl_length, hu]
  have hdl : d.length = s.size - k := by rw [hd, List.length_drop]; omega
  have hI : endI s k = match endS d with | .ok r => ((s.size - r.length : Nat) : Int) | .error e => if e = 140 then -2 else -1 := by unfold endI; rw [hd]
  have b0 : bl (⟨#[]⟩ : ByteArray) = [] := rfl
  have b1 : bl (⟨#[13]⟩ : ByteArray) = [13] := rfl
  skip
  (with_reducible refine is_l ?_); refine l_t txs rfl rfl (fun e0 => ?_) (fun e0 => ?_)
  · rw [hu, b0] at e0
    repeat' (first | (first | (with_reducible refine p_tn ?_) | (with_reducible refine p_tr ?_) | (with_reducible refine p_br ?_) | (with_reducible refine wp_seq ?_) | (with_reducible refine w_reg ?_) | (with_reducible (refine is_if ?_; (refine w_ift rfl ?_))) | (with_reducible refine wp_ret ?_)) | (first | (with_reducible refine l_nil ?_) | ((with_reducible refine g_on ?_); (first | ((with_reducible refine g_mv ?_); refine l_p txs rfl rfl ?_) | ((with_reducible refine g_as ?_); refine l_p txs rfl rfl ?_) | ((with_reducible refine g_pk ?_); refine l_p txs rfl rfl ?_))) | ((with_reducible refine g_if ?_); (refine l_off rfl ?_))))
    refine end1 rfl rfl ?_
    exact ⟨by rw [hI, e0]; rfl, H.B⟩
  rw [hu, b0] at e0
  repeat' (first | ((with_reducible refine g_on ?_); ((with_reducible refine g_mv ?_); refine l_p txs rfl rfl ?_)) | ((with_reducible refine g_if ?_); ((with_reducible refine g_mv ?_); refine l_p txs rfl rfl ?_)))
  (with_reducible refine is_l ?_); refine l_t txs rfl rfl (fun e1 => ?_) (fun e1 => ?_)
  · rw [hu, b1] at e1
    repeat' (first | (first | (with_reducible refine p_tn ?_) | (with_reducible refine p_tr ?_) | (with_reducible refine p_br ?_) | (with_reducible refine wp_seq ?_) | (with_reducible refine w_reg ?_) | (with_reducible (refine is_if ?_; (refine w_ift rfl ?_))) | (with_reducible refine wp_ret ?_)) | (first | (with_reducible refine l_nil ?_) | ((with_reducible refine g_on ?_); (first | ((with_reducible refine g_as ?_); refine l_p txs rfl rfl ?_) | ((with_reducible refine g_pk ?_); refine l_p txs rfl rfl ?_)))))
    refine end1 rfl rfl ?_
    exact ⟨by rw [hI, e1]; rfl, H.B⟩
  rw [hu, b1] at e1
  cases hx : d with
  | nil => exact absurd hx e0
  | cons x t =>
    rw [hx] at hu zu hdl hI e1
    have hpos : 0 < u.size := by rw [zu]; simp
    have hat : at_ (bl u) 0 = x := by rw [hu]; rfl
    simp only [List.length_cons] at hdl zu
    repeat' (first | (first | (with_reducible refine p_tn ?_) | (with_reducible refine wp_seq ?_) | (with_reducible refine w_reg ?_) | (with_reducible (refine is_if ?_; (refine w_iff rfl ?_)))) | (first | (with_reducible refine l_nil ?_) | ((with_reducible refine g_on ?_); (first | ((with_reducible refine g_mv ?_); refine l_p txs rfl rfl ?_) | ((with_reducible refine g_as ?_); refine l_p txs rfl rfl ?_) | ((with_reducible refine g_pk ?_); refine l_p txs rfl rfl ?_) | ((with_reducible refine g_ix ?_); refine l_ix txs rfl rfl (by first | omega | assumption | decide) (by first | omega | assumption | decide) ?_)))))
    rw [hat]
    skip
    (with_reducible refine is_l ?_); refine l_t txs rfl rfl (fun e2 => ?_) (fun e2 => ?_)
    · have hr : endI s k = (k : Int) + 1 := by rw [hI, e2]; show ((s.size - t.length : Nat) : Int) = _; omega
      repeat' (first | (first | (with_reducible refine p_tn ?_) | (with_reducible refine p_tr ?_) | (with_reducible refine p_br ?_) | (with_reducible refine wp_seq ?_) | (with_reducible refine w_reg ?_) | (with_reducible (refine is_if ?_; (refine w_ift rfl ?_))) | (with_reducible refine wp_ret ?_)) | (first | (with_reducible refine l_nil ?_) | ((with_reducible refine g_on ?_); (first | ((with_reducible refine g_mv ?_); refine l_p txs rfl rfl ?_) | ((with_reducible refine g_as ?_); refine l_p txs rfl rfl ?_) | ((with_reducible refine g_bi ?_); (refine l_a txs rfl rfl (by first | exact in_i64 (by omega) (by omega) | exact in_u8 (by omega) (by omega) | exact in_u64 (by omega) (by omega) | exact in_i32 (by omega) (by omega)) ?_))))))
      refine end1 rfl rfl ?_
      exact ⟨by rw [hr], H.B⟩
    repeat' (first | (first | (with_reducible refine p_tn ?_) | (with_reducible refine wp_seq ?_) | (with_reducible refine w_reg ?_) | (with_reducible (refine is_if ?_; (refine w_iff rfl ?_)))) | (first | (with_reducible refine l_nil ?_) | ((with_reducible refine g_on ?_); (first | ((with_reducible refine g_mv ?_); refine l_p txs rfl rfl ?_) | ((with_reducible refine g_as ?_); refine l_p txs rfl rfl ?_) | ((with_reducible refine g_ix ?_); refine l_ix txs rfl rfl (by first | omega | assumption | decide) (by first | omega | assumption | decide) ?_)))))
    rw [hat]
    skip
    (with_reducible refine is_l ?_); refine l_t txs rfl rfl (fun e3 => ?_) (fun e3 => ?_)
    · cases ht : t with
      | nil => exact absurd (by rw [e3, ht]) e1
      | cons y r =>
        rw [ht] at hu zu hdl hI
        simp only [List.length_cons] at hdl zu
        have hpos1 : 1 < u.size := by omega
        have hat1 : at_ (bl u) 1 = y := by rw [hu]; rfl
        repeat' (first | ((with_reducible refine g_on ?_); ((with_reducible refine g_mv ?_); refine l_p txs rfl rfl ?_)) | ((with_reducible refine g_if ?_); (first | ((with_reducible refine g_mv ?_); refine l_p txs rfl rfl ?_) | ((with_reducible refine g_ix ?_); refine l_ix txs rfl rfl (by first | omega | assumption | decide) (by first | omega | assumption | decide) ?_))))
        rw [hat1]
        skip
        (with_reducible refine is_l ?_); refine l_t txs rfl rfl (fun e4 => ?_) (fun e4 => ?_)
        · have hr : endI s k = (k : Int) + 2 := by rw [hI, e3, e4]; show ((s.size - r.length : Nat) : Int) = _; omega
          repeat' (first | (first | (with_reducible refine p_tn ?_) | (with_reducible refine p_tr ?_) | (with_reducible refine p_br ?_) | (with_reducible refine wp_seq ?_) | (with_reducible refine w_reg ?_) | (with_reducible (refine is_if ?_; (refine w_ift rfl ?_))) | (with_reducible refine wp_ret ?_)) | (first | (with_reducible refine l_nil ?_) | ((with_reducible refine g_on ?_); (first | ((with_reducible refine g_mv ?_); refine l_p txs rfl rfl ?_) | ((with_reducible refine g_as ?_); refine l_p txs rfl rfl ?_) | ((with_reducible refine g_pk ?_); refine l_p txs rfl rfl ?_) | ((with_reducible refine g_bi ?_); (refine l_a txs rfl rfl (by first | exact in_i64 (by omega) (by omega) | exact in_u8 (by omega) (by omega) | exact in_u64 (by omega) (by omega) | exact in_i32 (by omega) (by omega)) ?_))))))
          refine end1 rfl rfl ?_
          exact ⟨by rw [hr], H.B⟩
        · have hr : endI s k = -1 := by
            rw [hI, e3]
            rw [end_b e4]
            rfl
          repeat' (first | (first | (with_reducible refine p_tn ?_) | (with_reducible refine p_bn ?_) | (with_reducible refine wp_seq ?_) | (with_reducible refine w_reg ?_) | (with_reducible (refine is_if ?_; (refine w_iff rfl ?_))) | (with_reducible refine wp_skip ?_) | (with_reducible refine wp_ret ?_)) | (first | (with_reducible refine l_nil ?_) | ((with_reducible refine g_on ?_); (first | ((with_reducible refine g_as ?_); refine l_p txs rfl rfl ?_) | ((with_reducible refine g_pk ?_); refine l_p txs rfl rfl ?_)))))
          refine end1 rfl rfl ?_
          exact ⟨by rw [hr], H.B⟩
    · have hr : endI s k = -1 := by
        rw [hI]
        rw [end_a e2 e3]
        rfl
      repeat' (first | (first | (with_reducible refine p_tn ?_) | (with_reducible refine p_bn ?_) | (with_reducible refine wp_seq ?_) | (with_reducible refine w_reg ?_) | (with_reducible (refine is_if ?_; (refine w_iff rfl ?_))) | (with_reducible refine wp_skip ?_) | (with_reducible refine wp_ret ?_)) | (first | (with_reducible refine l_nil ?_) | ((with_reducible refine g_on ?_); (first | ((with_reducible refine g_mv ?_); refine l_p txs rfl rfl ?_) | ((with_reducible refine g_as ?_); refine l_p txs rfl rfl ?_) | ((with_reducible refine g_pk ?_); refine l_p txs rfl rfl ?_))) | ((with_reducible refine g_if ?_); (refine l_off rfl ?_))))
      refine end1 rfl rfl ?_
      exact ⟨by rw [hr], H.B⟩
theorem split_first (c : Int) (s : L) : (splitC c s)[0]? = some (aheadC c s) := by
  unfold aheadC
  cases h : cutC c s with
  | none => rw [splitC_none (cutC_none h)]; rfl
  | some z =>
    obtain ⟨a, b⟩ := z
    obtain ⟨h1, h2⟩ := cutC_some h
    rw [h1, splitC_cut _ h2]
    rfl
theorem split_all (c : Int) (s : L) (p : Int → Bool) (hp : p c = true) : s.all p = ((aheadC c s).all p && (behindC c s).all p) := by
  unfold aheadC behindC
  cases h : cutC c s with
  | none => simp
  | some z =>
    obtain ⟨a, b⟩ := z
    obtain ⟨h1, h2⟩ := cutC_some h
    simp only
    rw [h1, List.all_append, List.all_cons, hp, Bool.true_and]
theorem hexV_val {c : Int} {d : Nat} (h : hexV c = some d) : valB c = true ∧ d ≤ 15 := by
  unfold hexV at h
  unfold valB
  repeat' split at h
  all_goals first | (injection h with h; exact ⟨by simp; omega, by omega⟩) | cases h
theorem hexN_val : ∀ (l : L) (n m : Nat), hexN n l = some m → l.all valB = true
  | [], _, _, _ => rfl
  | c :: r, n, m, h => by
    rw [hexN] at h
    cases hc : hexV c with
    | none => rw [hc] at h; cases h
    | some d =>
      rw [hc] at h
      rw [List.all_cons, (hexV_val hc).1, hexN_val r _ _ h]
      rfl
def sizI (s : ByteArray) : Int := match sizeS (bl s) with | some n => (n : Int) | none => -1
theorem sizI_none {s : ByteArray} (h : sizeS (bl s) = none) : sizI s = -1 := by unfold sizI; rw [h]
set_option maxHeartbeats 8000000 in
theorem rchunkLine_c (s : ByteArray) (w : World) (hs : s.size ≤ 2000000000000) : Calls Tryz.prog 133 #[.string s] w fun e w' => e = .returned (.int .i64 (sizI s)) ∧ Below w.heap.size w w' := by
  refine enter (args := [.string s]) Tryz.func133 rfl Tryz.ntmps133 rfl ?_
  have hbl := bl_length s
  have H := Hp.nil w
  repeat' (first | (first | (with_reducible refine p_tn ?_) | (with_reducible refine wp_seq ?_) | (with_reducible refine w_reg ?_)) | (first | (with_reducible refine l_nil ?_) | ((with_reducible refine g_on ?_); (first | ((with_reducible refine g_mv ?_); refine l_p txs rfl rfl ?_) | ((with_reducible refine g_as ?_); refine l_p txs rfl rfl ?_) | ((with_reducible refine g_cl ?_); refine l_p txs rfl rfl ?_)))))
  (with_reducible refine is_l ?_); refine l_t txs rfl rfl (fun h1 => ?_) (fun h1 => ?_)
  · have hz : sizeS (bl s) = none := by unfold sizeS; rw [if_pos (by omega)]
    repeat' (first | (first | (with_reducible refine p_tn ?_) | (with_reducible refine p_tr ?_) | (with_reducible refine wp_seq ?_) | (with_reducible refine w_reg ?_) | (with_reducible (refine is_if ?_; (refine w_ift rfl ?_))) | (with_reducible refine wp_ret ?_)) | (first | (with_reducible refine l_nil ?_) | ((with_reducible refine g_on ?_); ((with_reducible refine g_as ?_); refine l_p txs rfl rfl ?_))))
    refine end1 rfl rfl ?_
    exact ⟨by rw [sizI_none hz], H.B⟩
  have hsz : sizeS (bl s) = if aheadC 59 (bl s) = [] ∨ 8 < (aheadC 59 (bl s)).length ∨ (behindC 59 (bl s)).all valB = false then none else hexN 0 (aheadC 59 (bl s)) := by unfold sizeS; rw [if_neg (by omega)]
  have hfst := split_first 59 (bl s)
  have hall := split_all 59 (bl s) valB (by decide)
  obtain ⟨a, ha⟩ : ∃ a, a = aheadC 59 (bl s) := ⟨_, rfl⟩
  rw [← ha] at hsz hfst hall
  have hba : Bytes a := fun x hx => bl_bytes s x (by
    rw [ha] at hx
    unfold aheadC at hx
    cases hc : cutC 59 (bl s) with
    | none => rw [hc] at hx; exact hx
    | some z => rw [hc] at hx; rw [(cutC_some hc).1]; simp only at hx; simp [hx])
  have za := sizeS' hba
  repeat' (first | (first | (with_reducible refine p_tn ?_) | (with_reducible refine wp_seq ?_) | (with_reducible refine w_reg ?_) | (with_reducible (refine is_if ?_; (refine w_iff rfl ?_))) | (with_reducible refine wp_skip ?_)) | (first | (with_reducible refine l_nil ?_) | ((with_reducible refine g_on ?_); ((with_reducible refine g_mv ?_); refine l_p txs rfl rfl ?_))))
  (with_reducible refine is_l ?_); refine l_call rfl rfl (by kernel_rfl) (pieces_c s 59 _ (by omega)) (fun e w_ hR => ?_)
  obtain ⟨A1, c1, rfl, K⟩ := hR
  refine ⟨_, rfl, ?_⟩
  have H := H.join K
  obtain ⟨ad, had⟩ := rdT_some (rowT_at H 0 rfl) hfst
  subst had
  have hcell := rdT_cell (rowT_at H 0 rfl) hfst
  have hlpos : 0 < (splitC 59 (bl s)).length := (List.getElem?_eq_some_iff.1 hfst).1
  repeat' (first | (first | (with_reducible refine p_tn ?_) | (with_reducible refine wp_seq ?_) | (with_reducible refine w_reg ?_)) | (first | (with_reducible refine l_nil ?_) | ((with_reducible refine g_on ?_); (first | ((with_reducible refine g_mv ?_); refine l_p txs rfl rfl ?_) | ((with_reducible refine g_as ?_); refine l_p txs rfl rfl ?_) | ((with_reducible refine g_ia ?_); refine l_ia txs rfl rfl (by first | omega | assumption | decide) (by first | omega | assumption | decide) ?_)))))
  (with_reducible refine is_l ?_); refine l_ld txs rfl rfl hcell ?_
  repeat' (first | (first | (with_reducible refine p_tn ?_) | (with_reducible refine wp_seq ?_) | (with_reducible refine w_reg ?_)) | (first | (with_reducible refine l_nil ?_) | ((with_reducible refine g_on ?_); (first | ((with_reducible refine g_mv ?_); refine l_p txs rfl rfl ?_) | ((with_reducible refine g_as ?_); refine l_p txs rfl rfl ?_)))))
  (with_reducible refine is_l ?_); refine l_t txs rfl rfl (fun h2 => ?_) (fun h2 => ?_)
  · have ha0 : a = [] := by rw [blS hba] at h2; exact h2
    rw [if_pos (.inl ha0)] at hsz
    repeat' (first | (first | (with_reducible refine p_tn ?_) | (with_reducible refine p_tr ?_) | (with_reducible refine wp_seq ?_) | (with_reducible refine w_reg ?_) | (with_reducible (refine is_if ?_; (refine w_ift rfl ?_))) | (with_reducible refine wp_ret ?_)) | (first | (with_reducible refine l_nil ?_) | ((with_reducible refine g_on ?_); (first | ((with_reducible refine g_mv ?_); refine l_p txs rfl rfl ?_) | ((with_reducible refine g_as ?_); refine l_p txs rfl rfl ?_) | ((with_reducible refine g_pk ?_); refine l_p txs rfl rfl ?_))) | ((with_reducible refine g_if ?_); (refine l_off rfl ?_))))
    refine end1 rfl rfl ?_
    exact ⟨by rw [sizI_none hsz], H.B⟩
  have ha0 : a ≠ [] := fun e => h2 (by rw [blS hba, e]; rfl)
  repeat' (first | ((with_reducible refine g_on ?_); ((with_reducible refine g_mv ?_); refine l_p txs rfl rfl ?_)) | ((with_reducible refine g_if ?_); (first | ((with_reducible refine g_mv ?_); refine l_p txs rfl rfl ?_) | ((with_reducible refine g_cl ?_); refine l_p txs rfl rfl ?_))))
  (with_reducible refine is_l ?_); refine l_t txs rfl rfl (fun h3 => ?_) (fun h3 => ?_)
  · rw [if_pos (.inr (.inl (by omega)))] at hsz
    repeat' (first | (first | (with_reducible refine p_tn ?_) | (with_reducible refine p_tr ?_) | (with_reducible refine wp_seq ?_) | (with_reducible refine w_reg ?_) | (with_reducible (refine is_if ?_; (refine w_ift rfl ?_))) | (with_reducible refine wp_ret ?_)) | (first | (with_reducible refine l_nil ?_) | ((with_reducible refine g_on ?_); (first | ((with_reducible refine g_mv ?_); refine l_p txs rfl rfl ?_) | ((with_reducible refine g_as ?_); refine l_p txs rfl rfl ?_) | ((with_reducible refine g_pk ?_); refine l_p txs rfl rfl ?_))) | ((with_reducible refine g_if ?_); (refine l_off rfl ?_))))
    refine end1 rfl rfl ?_
    exact ⟨by rw [sizI_none hsz], H.B⟩
  repeat' (first | ((with_reducible refine g_on ?_); (first | ((with_reducible refine g_mv ?_); refine l_p txs rfl rfl ?_) | ((with_reducible refine g_pk ?_); refine l_p txs rfl rfl ?_))) | ((with_reducible refine g_if ?_); ((with_reducible refine g_mv ?_); refine l_p txs rfl rfl ?_)))
  (with_reducible refine is_l ?_); refine l_callv rfl rfl (by kernel_rfl) (rvalued_c s _ hs) (fun w_ K => ?_)
  have H := H.call K
  cases hv : (bl s).all valB
  · have hz : sizeS (bl s) = none := by
      rw [hsz]
      split
      · rfl
      · rename_i hno
        cases hh : hexN 0 a with
        | none => rfl
        | some m =>
          have h4 := hexN_val a 0 m hh
          rw [hv, h4, Bool.true_and] at hall
          exact absurd (.inr (.inr hall.symm)) hno
    repeat' (first | (first | (with_reducible refine p_tn ?_) | (with_reducible refine p_tr ?_) | (with_reducible refine wp_seq ?_) | (with_reducible refine w_reg ?_) | (with_reducible (refine is_if ?_; (refine w_ift rfl ?_))) | (with_reducible refine wp_ret ?_)) | (first | (with_reducible refine l_nil ?_) | ((with_reducible refine g_on ?_); (first | ((with_reducible refine g_as ?_); refine l_p txs rfl rfl ?_) | ((with_reducible refine g_pk ?_); refine l_p txs rfl rfl ?_))) | ((with_reducible refine g_if ?_); ((with_reducible refine g_un ?_); (refine l_p txs rfl rfl ?_)))))
    refine end1 rfl rfl ?_
    exact ⟨by rw [sizI_none hz], H.B⟩
  have hbe : (behindC 59 (bl s)).all valB = true := by
    rw [hv] at hall
    cases hq : (behindC 59 (bl s)).all valB
    · rw [hq, Bool.and_false] at hall; cases hall
    · rfl
  rw [if_neg (fun q => q.elim ha0 fun q => q.elim (fun q => by omega) fun q => by rw [hbe] at q; cases q)] at hsz
  repeat' (first | (first | (with_reducible refine p_tn ?_) | (with_reducible refine wp_seq ?_) | (with_reducible refine wp_block ?_) | (with_reducible refine w_reg ?_) | (with_reducible (refine is_if ?_; (refine w_iff rfl ?_))) | (with_reducible refine wp_skip ?_)) | (first | (with_reducible refine l_nil ?_) | ((with_reducible refine g_on ?_); (first | ((with_reducible refine g_as ?_); refine l_p txs rfl rfl ?_) | ((with_reducible refine g_pk ?_); refine l_p txs rfl rfl ?_))) | ((with_reducible refine g_if ?_); ((with_reducible refine g_un ?_); (refine l_p txs rfl rfl ?_)))))
  refine w_loop (σ := Nat × Nat) (S := fun t => [(4, .string (strOfNums a)), (5, .int .i64 (t.2 : Int)), (6, .int .i64 (t.1 : Int))]) (J := fun t w' => Hp w w' [] [] ∧ t.1 ≤ a.length ∧ t.2 < 16 ^ t.1 ∧ hexN 0 a = hexN t.2 (a.drop t.1)) (μ := fun t => a.length - t.1) (0, 0) ⟨rfl, rfl, rfl, trivial⟩ ⟨H.pick [] [] (by decide) (by decide) rfl rfl, Nat.zero_le _, by decide, rfl⟩ ?_
  rintro ⟨i, n⟩ f w_ ⟨H, hi, hn, hD⟩
  simp only at H hi hn hD ⊢
  have hp16 := pow16 i (by omega)
  repeat' (first | (first | (with_reducible refine wp_seq ?_) | (with_reducible refine w_reg ?_)) | ((with_reducible refine g_on ?_); (first | ((with_reducible refine g_mv ?_); refine l_p txs rfl rfl ?_) | ((with_reducible refine g_cl ?_); refine l_p txs rfl rfl ?_))))
  (with_reducible refine is_l ?_); refine l_t txs rfl rfl (fun hlt => ?_) (fun hge => ?_)
  · obtain ⟨x, hx⟩ : ∃ x, a[i]? = some x := ⟨_, List.getElem?_eq_getElem (by omega)⟩
    have hxb := hba x (List.mem_of_getElem? hx)
    have hat : at_ (bl (strOfNums a)) (i : Int) = x := by rw [blS hba]; exact at_of hx
    have hdr := dropA (l := a) (i := i) (by omega)
    rw [at_of hx] at hdr
    rw [hdr, hexN] at hD
    repeat' (first | (first | (with_reducible refine p_tn ?_) | (with_reducible refine wp_seq ?_) | (with_reducible refine wp_block ?_) | (with_reducible refine w_reg ?_) | (with_reducible (refine is_if ?_; (refine w_ift rfl ?_))) | (with_reducible refine wp_skip ?_)) | (first | (with_reducible refine l_nil ?_) | ((with_reducible refine g_on ?_); (first | ((with_reducible refine g_mv ?_); refine l_p txs rfl rfl ?_) | ((with_reducible refine g_ix ?_); refine l_ix txs rfl rfl (by first | omega | assumption | decide) (by first | omega | assumption | decide) ?_)))))
    rw [hat]
    (with_reducible refine is_l ?_); refine l_callv rfl rfl (by kernel_rfl) (rhex_c x hxb _) (fun w_ K => ?_)
    have H := H.call K
    cases hh : hexV x with
    | none =>
      rw [hh] at hD
      have hm : hexI x = -1 := by unfold hexI; rw [hh]
      rw [hm]
      skip
      (with_reducible refine is_l ?_); refine l_t txs rfl rfl (fun _ => ?_) (fun hq => absurd (by decide) hq)
      rw [hD] at hsz
      repeat' (first | (first | (with_reducible refine p_tn ?_) | (with_reducible refine p_tr ?_) | (with_reducible refine p_br ?_) | (with_reducible refine wp_seq ?_) | (with_reducible refine w_reg ?_) | (with_reducible (refine is_if ?_; (refine w_ift rfl ?_))) | (with_reducible refine wp_ret ?_)) | (first | (with_reducible refine l_nil ?_) | ((with_reducible refine g_on ?_); ((with_reducible refine g_as ?_); refine l_p txs rfl rfl ?_))))
      refine end1 rfl rfl ?_
      exact ⟨by rw [sizI_none hsz], H.B⟩
    | some dv =>
      rw [hh] at hD
      simp only at hD
      have hd15 := (hexV_val hh).2
      have hm : hexI x = (dv : Int) := by unfold hexI; rw [hh]
      rw [hm]
      skip
      (with_reducible refine is_l ?_); refine l_t txs rfl rfl (fun hq => absurd hq (by omega)) (fun _ => ?_)
      repeat' (first | (first | (with_reducible refine p_tn ?_) | (with_reducible refine w_reg ?_) | (with_reducible (refine is_if ?_; (refine w_iff rfl ?_))) | (with_reducible refine wp_skip ?_)) | (first | (with_reducible refine l_nil ?_) | ((with_reducible refine g_on ?_); (first | ((with_reducible refine g_mv ?_); refine l_p txs rfl rfl ?_) | ((with_reducible refine g_ix ?_); refine l_ix txs rfl rfl (by first | omega | assumption | decide) (by first | omega | assumption | decide) ?_) | ((with_reducible refine g_bi ?_); (refine l_a txs rfl rfl (by first | exact in_i64 (by omega) (by omega) | exact in_u8 (by omega) (by omega) | exact in_u64 (by omega) (by omega) | exact in_i32 (by omega) (by omega)) ?_))))))
      rw [hat]
      (with_reducible refine is_l ?_); refine l_callv rfl rfl (by kernel_rfl) (rhex_c x hxb _) (fun w_ K => ?_)
      have H := H.call K
      rw [hm]
      repeat' (first | (first | (with_reducible refine p_tn ?_) | (with_reducible refine p_bn ?_) | (with_reducible refine w_reg ?_)) | (first | (with_reducible refine l_nil ?_) | ((with_reducible refine g_on ?_); (first | ((with_reducible refine g_mv ?_); refine l_p txs rfl rfl ?_) | ((with_reducible refine g_as ?_); refine l_p txs rfl rfl ?_) | ((with_reducible refine g_bi ?_); (refine l_a txs rfl rfl (by first | exact in_i64 (by omega) (by omega) | exact in_u8 (by omega) (by omega) | exact in_u64 (by omega) (by omega) | exact in_i32 (by omega) (by omega)) ?_))))))
      have hval : 16 * (n : Int) + (dv : Int) = ((16 * n + dv : Nat) : Int) := by omega
      rw [hval]
      have hpw : 16 ^ (i + 1) = 16 ^ i * 16 := Nat.pow_succ ..
      exact ⟨(i + 1, 16 * n + dv), _, rfl, ⟨rfl, rfl, rfl, trivial⟩, ⟨H, by show i + 1 ≤ _; omega, by show 16 * n + dv < 16 ^ (i + 1); omega, hD⟩, by show _ - (i + 1) < _ - i; omega⟩
  · have hnil : a.drop i = [] := List.drop_eq_nil_of_le (by omega)
    rw [hnil] at hD
    rw [hD] at hsz
    have hm : sizI s = (n : Int) := by unfold sizI; rw [hsz]; rfl
    repeat' (first | (first | (with_reducible refine p_tn ?_) | (with_reducible refine p_tx ?_) | (with_reducible refine x_hit ?_) | (with_reducible refine wp_seq ?_) | (with_reducible refine w_reg ?_) | (with_reducible (refine is_if ?_; (refine w_iff rfl ?_))) | (with_reducible refine wp_exit ?_) | (with_reducible refine wp_ret ?_)) | (first | (with_reducible refine l_nil ?_) | ((with_reducible refine g_on ?_); (first | ((with_reducible refine g_mv ?_); refine l_p txs rfl rfl ?_) | ((with_reducible refine g_as ?_); refine l_p txs rfl rfl ?_)))))
    refine end1 rfl rfl ?_
    exact ⟨by rw [hm], H.B⟩
end Go.Proofs.YthgojbdpmcccaaaGreatDoor.K.Ref
end
