/- Joined texts of mine, 4: Xm, Xo, Yb, Yd, Open, Za, Zb, Zc, QK, Zd. -/
import Derived.Lib.Builder
import Derived.Lib.FrozenHead
import Derived.Laws.Pointers
import Derived.Lib.ItoaLen
import Derived.OpenShut
import Derived.ShutString
import Derived.SliceStrings
import Derived.ChangeSlices
import Derived.Below
import Derived.Carry
import Derived.WalkKit
import Derived.ProofKit
import Derived.Deep.DeepHandedRow
import Derived.Lib.Buffer
import Derived.Laws.IdiomCopy
import Derived.Test.YthgojbdpmcccaaaGreatDoorChk3
section
namespace Go.Proofs.YthgojbdpmcccaaaGreatDoor.K
open Go.RowKit Go.Proofs.YthgojbdpmcccaaaGreatDoor.Q Go.Proofs.YthgojbdpmcccaaaGreatDoor.Wb Go.Proofs.YthgojbdpmcccaaaGreatDoorW.PrintWords
set_option linter.unusedVariables false
set_option linter.unusedSimpArgs false
/-- The bytes with x behind them. -/
def padN (pad : Int) : Nat := if pad < 1100000 then pad.toNat else 1100000
def padS (b : L) (pad : Int) : L := b ++ List.replicate (padN pad) 120
set_option maxHeartbeats 4000000 in
theorem padded_c {w : World} {B : Option Addr} {c : Nat} {b : L} (h : ReadsInt w .u8 B b.length b) (pad : Int) (hs : b.length ≤ 1000000000) :
    Calls Tryz.prog 20 #[.slice B b.length c, .int .i64 pad] w fun e w' => ∃ A1 c1, e = .returned (.slice A1 (padS b pad).length c1) ∧ Hp w w' [] [rowB (.slice A1 (padS b pad).length c1) (padS b pad)] := by
  refine enter (args := [.slice B b.length c, .int .i64 pad]) Tryz.func20 rfl Tryz.ntmps20 rfl ?_
  have H := (Hp.nil w).nilRow 5 1
  repeat' (first | (first | (with_reducible refine p_tn ?_) | (with_reducible refine wp_seq ?_) | (with_reducible refine w_reg ?_)) | (first | (with_reducible refine l_nil ?_) | ((with_reducible refine g_on ?_); (first | ((with_reducible refine g_mv ?_); refine l_p txs rfl rfl ?_) | ((with_reducible refine g_as ?_); refine l_p txs rfl rfl ?_)))))
  (with_reducible refine is_l ?_); refine h_app H 0 rfl info_u8 Tryz.underlying23 rfl rfl rfl rfl (rd_of_reads (h.below H.B)) (by simp [nums]) (by simp [nums, List.all_map]; intros; rfl) (by show (0 + b.length) * 1 ≤ _; omega) (fun v w_ hv H => ?_)
  obtain ⟨A1, c1, rfl⟩ := hv
  have H := H.pick [] [0] (by decide) (by decide) rfl rfl
  simp only [Nat.zero_add, List.nil_append] at H
  rw [Nat.zero_add]
  repeat' (first | (first | (with_reducible refine p_tn ?_) | (with_reducible refine wp_seq ?_) | (with_reducible refine wp_block ?_) | (with_reducible refine w_reg ?_)) | (first | (with_reducible refine l_nil ?_) | ((with_reducible refine g_on ?_); ((with_reducible refine g_as ?_); refine l_p txs rfl rfl ?_))))
  refine w_loop (σ := Nat × Option Addr × Nat) (S := fun s => [(1, .int .i64 pad), (5, .slice s.2.1 (b ++ List.replicate s.1 120).length s.2.2), (6, .int .i64 (s.1 : Int))])
    (J := fun s w' => Hp w w' [] [rowB (.slice s.2.1 (b ++ List.replicate s.1 120).length s.2.2) (b ++ List.replicate s.1 120)] ∧ s.1 ≤ padN pad) (μ := fun s => padN pad - s.1) (0, A1, c1) ⟨rfl, by show Value.slice A1 b.length c1 = _; simp, rfl, trivial⟩ ⟨by simpa using H, by omega⟩ ?_
  rintro ⟨k, A2, c2⟩ f w_ ⟨H, hk⟩
  simp only at H hk ⊢
  have hp : padN pad ≤ 1100000 := by unfold padN; split <;> omega
  have fin : padN pad ≤ k → ∃ A1' c1', Value.slice A2 (b ++ List.replicate k 120).length c2 = Value.slice A1' (padS b pad).length c1' ∧ Hp w w_ [] [rowB (.slice A1' (padS b pad).length c1') (padS b pad)] := by
    intro hle
    have : k = padN pad := by omega
    subst this
    exact ⟨A2, c2, rfl, H⟩
  repeat' (first | (first | (with_reducible refine wp_seq ?_) | (with_reducible refine w_reg ?_)) | ((with_reducible refine g_on ?_); ((with_reducible refine g_mv ?_); refine l_p txs rfl rfl ?_)))
  (with_reducible refine is_l ?_); refine l_t txs rfl rfl (fun h1 => ?_) (fun h1 => ?_)
  · repeat' (first | ((with_reducible refine g_on ?_); ((with_reducible refine g_mv ?_); refine l_p txs rfl rfl ?_)) | ((with_reducible refine g_if ?_); ((with_reducible refine g_mv ?_); refine l_p txs rfl rfl ?_)))
    (with_reducible refine is_l ?_); refine l_t txs rfl rfl (fun h2 => ?_) (fun h2 => ?_)
    · have hlt : k < padN pad := by unfold padN; split <;> omega
      have hlen : (b ++ List.replicate k (120 : Int)).length = b.length + k := by simp
      repeat' (first | (first | (with_reducible refine p_tn ?_) | (with_reducible refine wp_seq ?_) | (with_reducible refine wp_block ?_) | (with_reducible refine w_reg ?_) | (with_reducible (refine is_if ?_; (refine w_ift rfl ?_))) | (with_reducible refine wp_skip ?_)) | (first | (with_reducible refine l_nil ?_) | ((with_reducible refine g_on ?_); (first | ((with_reducible refine g_mv ?_); refine l_p txs rfl rfl ?_) | ((with_reducible refine g_pk ?_); refine l_p txs rfl rfl ?_)))))
      (with_reducible refine is_l ?_); refine h_bs H info_u8 Tryz.underlying23 (by decide) (by decide) rfl rfl (by kernel_rfl) (fun g_ w_ H => ?_)
      (with_reducible refine is_l ?_); refine h_app H 0 rfl info_u8 Tryz.underlying23 rfl rfl rfl rfl (H.cellRd 0 rfl) rfl rfl (by show ((b ++ List.replicate k (120 : Int)).length + 1) * 1 ≤ _; omega) (fun v w_ hv H => ?_)
      obtain ⟨A', c', rfl⟩ := hv
      have e1 : b ++ List.replicate (k + 1) (120 : Int) = (b ++ List.replicate k 120) ++ [120] := by rw [List.append_assoc, List.replicate_succ']
      have e2 : (b ++ List.replicate (k + 1) (120 : Int)).length = (b ++ List.replicate k (120 : Int)).length + 1 := by simp; omega
      have H := H.pick [] [0] (by decide) (by decide) rfl rfl
      repeat' (first | (first | (with_reducible refine p_tn ?_) | (with_reducible refine p_bn ?_) | (with_reducible refine w_reg ?_)) | (first | (with_reducible refine l_nil ?_) | ((with_reducible refine g_on ?_); (first | ((with_reducible refine g_mv ?_); refine l_p txs rfl rfl ?_) | ((with_reducible refine g_as ?_); refine l_p txs rfl rfl ?_) | ((with_reducible refine g_bi ?_); (refine l_a txs rfl rfl (by first | exact in_i64 (by omega) (by omega) | exact in_u8 (by omega) (by omega) | exact in_u64 (by omega) (by omega) | exact in_i32 (by omega) (by omega)) ?_))))))
      refine ⟨(k + 1, A', c'), _, rfl, ⟨rfl, ?_, rfl, trivial⟩, ⟨?_, by show k + 1 ≤ _; omega⟩, by show _ - (k + 1) < _ - k; omega⟩
      · show Value.slice A' ((b ++ List.replicate k (120 : Int)).length + 1) c' = Value.slice A' (b ++ List.replicate (k + 1) (120 : Int)).length c'
        rw [e2]
      · show Hp w _ [] [rowB (.slice A' (b ++ List.replicate (k + 1) (120 : Int)).length c') (b ++ List.replicate (k + 1) (120 : Int))]
        unfold rowB
        rw [e2, e1]
        have e3 : nums .u8 ((b ++ List.replicate k (120 : Int)) ++ [120]) = nums .u8 (b ++ List.replicate k 120) ++ [.int .u8 120] := by rw [nums_append]; rfl
        rw [e3]
        exact H
    · repeat' (first | (first | (with_reducible refine p_tn ?_) | (with_reducible refine p_tx ?_) | (with_reducible refine x_hit ?_) | (with_reducible refine wp_seq ?_) | (with_reducible refine w_reg ?_) | (with_reducible (refine is_if ?_; (refine w_iff rfl ?_))) | (with_reducible refine wp_exit ?_) | (with_reducible refine wp_ret ?_)) | (first | (with_reducible refine l_nil ?_) | ((with_reducible refine g_on ?_); (first | ((with_reducible refine g_mv ?_); refine l_p txs rfl rfl ?_) | ((with_reducible refine g_as ?_); refine l_p txs rfl rfl ?_) | ((with_reducible refine g_pk ?_); refine l_p txs rfl rfl ?_)))))
      refine end1 rfl rfl ?_
      obtain ⟨A', c', e1, e2⟩ := fin (by unfold padN; split <;> omega)
      exact ⟨A', c', by rw [e1], e2⟩
  · repeat' (first | (first | (with_reducible refine p_tn ?_) | (with_reducible refine p_tx ?_) | (with_reducible refine x_hit ?_) | (with_reducible refine wp_seq ?_) | (with_reducible refine w_reg ?_) | (with_reducible (refine is_if ?_; (refine w_iff rfl ?_))) | (with_reducible refine wp_exit ?_) | (with_reducible refine wp_ret ?_)) | (first | (with_reducible refine l_nil ?_) | ((with_reducible refine g_on ?_); (first | ((with_reducible refine g_mv ?_); refine l_p txs rfl rfl ?_) | ((with_reducible refine g_as ?_); refine l_p txs rfl rfl ?_) | ((with_reducible refine g_pk ?_); refine l_p txs rfl rfl ?_))) | ((with_reducible refine g_if ?_); (refine l_off rfl ?_))))
    refine end1 rfl rfl ?_
    obtain ⟨A', c', e1, e2⟩ := fin (by unfold padN; split <;> omega)
    exact ⟨A', c', by rw [e1], e2⟩
def knownB : L := [80, 85, 84, 32, 47, 97, 32, 72, 84, 84, 80, 47, 49, 46, 49, 13, 10, 72, 111, 115, 116, 58, 32, 98, 13, 10, 67, 111, 110, 116, 101, 110, 116, 45, 76, 101, 110, 103, 116, 104, 58, 32, 50, 13, 10, 13, 10, 104, 105, 33]
theorem known_parse : parseReqS knownB = .ok (⟨[80, 85, 84], [47, 97], 1, [([72, 111, 115, 116], [98]), ([67, 111, 110, 116, 101, 110, 116, 45, 76, 101, 110, 103, 116, 104], [50])], [104, 105], false⟩, 49) := by kernel_rfl
theorem info_u8a : (Tryz.prog.info? 5).map (·.size) = some 1 := by kernel_rfl
theorem info_u8b : ((Tryz.prog.info? 5).bind (·.zero)).isSome = true := by kernel_rfl
set_option maxRecDepth 100000 in
set_option maxHeartbeats 8000000 in
theorem known_c {A : Nat → Addr} {w : World} (hE : LayS A w) {mx : Int} (hM : w.cell? ⟨20, 0, none⟩ = some (.int .i64 mx)) {tM : TypeId} {frM : Nat × Nat} (hT : w.heap[17]? = some (.cells meC tM frM)) :
    Calls Tryz.prog 13 #[] w fun e w' => e = .returned (.bool true) ∧ Below w.heap.size w w' := by
  have hTb : ∀ w1, Below w.heap.size w w1 → w1.heap[17]? = some (.cells meC tM frM) := fun w1 K => (K.block _ (blk_lt hT)).trans hT
  refine enter (args := []) Tryz.func13 rfl Tryz.ntmps13 rfl ?_
  have H := Hp.nil w
  repeat' (first | (first | (with_reducible refine p_tn ?_) | (with_reducible refine wp_seq ?_) | (with_reducible refine w_reg ?_)) | (first | (with_reducible refine l_nil ?_) | ((with_reducible refine g_on ?_); ((with_reducible refine g_as ?_); refine l_p txs rfl rfl ?_))))
  refine h_bytes H knownB Tryz.underlying23 Tryz.underlying5 info_u8a info_u8b rfl (by decide) (by decide) (by kernel_rfl) rfl (fun g_ w_ H hR => ?_)
  have hcall := ParseRequest_c (hE.below H.B) (H.old hM) (hTb _ H.B) (b := knownB) (c := 50) hR (by decide) (fun e => by cases e) (by unfold Bytes; decide) (by decide)
  (with_reducible refine is_l ?_); refine l_call rfl rfl (by kernel_rfl) hcall (fun e w_ hR => ?_)
  unfold PrR at hR
  rw [known_parse] at hR
  obtain ⟨Bf, cf, Bb, cb, rfl, K⟩ := hR
  refine ⟨_, rfl, ?_⟩
  have H := H.join K
  have O1 := H.row 1 _ rfl
  repeat' (first | (first | (with_reducible refine p_tn ?_) | (with_reducible refine wp_seq ?_) | (with_reducible refine w_reg ?_)) | (first | (with_reducible refine l_nil ?_) | ((with_reducible refine g_on ?_); (first | ((with_reducible refine g_mv ?_); refine l_p txs rfl rfl ?_) | ((with_reducible refine g_as ?_); refine l_p txs rfl rfl ?_) | ((with_reducible refine g_ex ?_); refine l_p txs rfl rfl ?_) | ((with_reducible refine g_st ?_); (refine h_stR recs H 0 rfl rfl rfl rfl rfl rfl rfl rfl rfl (fun w_ H => ?_))) | ((with_reducible refine g_al ?_); refine h_alloc recs H rfl rfl (fun g_ w_ H => ?_))))))
  (with_reducible refine is_l ?_); refine l_t txs rfl rfl (fun _ => ?_) (fun hh => absurd rfl hh)
  repeat' (first | ((with_reducible refine g_on ?_); ((with_reducible refine g_mv ?_); refine l_p txs rfl rfl ?_)) | ((with_reducible refine g_if ?_); ((with_reducible refine g_mv ?_); refine l_p txs rfl rfl ?_)))
  (with_reducible refine is_l ?_); refine l_t txs rfl rfl (fun _ => ?_) (fun hh => absurd rfl hh)
  repeat' (first | ((with_reducible refine g_on ?_); (first | ((with_reducible refine g_mv ?_); refine l_p txs rfl rfl ?_) | ((with_reducible refine g_pk ?_); refine l_p txs rfl rfl ?_))) | ((with_reducible refine g_if ?_); (first | ((with_reducible refine g_fa ?_); refine h_fa flds rfl rfl ?_) | ((with_reducible refine g_ld ?_); (refine h_ld txs H 0 rfl rfl rfl rfl ?_)))))
  (with_reducible refine is_l ?_); refine l_t txs rfl rfl (fun _ => ?_) (fun hh => absurd rfl hh)
  repeat' (first | ((with_reducible refine g_on ?_); (first | ((with_reducible refine g_mv ?_); refine l_p txs rfl rfl ?_) | ((with_reducible refine g_pk ?_); refine l_p txs rfl rfl ?_))) | ((with_reducible refine g_if ?_); (first | ((with_reducible refine g_fa ?_); refine h_fa flds rfl rfl ?_) | ((with_reducible refine g_ld ?_); (refine h_ld txs H 0 rfl rfl rfl rfl ?_)))))
  (with_reducible refine is_l ?_); refine l_t txs rfl rfl (fun _ => ?_) (fun hh => absurd rfl hh)
  repeat' (first | ((with_reducible refine g_on ?_); (first | ((with_reducible refine g_mv ?_); refine l_p txs rfl rfl ?_) | ((with_reducible refine g_pk ?_); refine l_p txs rfl rfl ?_))) | ((with_reducible refine g_if ?_); (first | ((with_reducible refine g_fa ?_); refine h_fa flds rfl rfl ?_) | ((with_reducible refine g_ld ?_); (refine h_ld txs H 0 rfl rfl rfl rfl ?_)))))
  (with_reducible refine is_l ?_); refine l_t txs rfl rfl (fun _ => ?_) (fun hh => absurd rfl hh)
  repeat' (first | ((with_reducible refine g_on ?_); (first | ((with_reducible refine g_mv ?_); refine l_p txs rfl rfl ?_) | ((with_reducible refine g_pk ?_); refine l_p txs rfl rfl ?_))) | ((with_reducible refine g_if ?_); (first | ((with_reducible refine g_fa ?_); refine h_fa flds rfl rfl ?_) | ((with_reducible refine g_ld ?_); (refine h_ld txs H 0 rfl rfl rfl rfl ?_)) | ((with_reducible refine g_cl ?_); refine l_p txs rfl rfl ?_))))
  (with_reducible refine is_l ?_); refine l_t txs rfl rfl (fun _ => ?_) (fun hh => absurd rfl hh)
  repeat' (first | ((with_reducible refine g_on ?_); (first | ((with_reducible refine g_mv ?_); refine l_p txs rfl rfl ?_) | ((with_reducible refine g_pk ?_); refine l_p txs rfl rfl ?_))) | ((with_reducible refine g_if ?_); (first | ((with_reducible refine g_fa ?_); refine h_fa flds rfl rfl ?_) | ((with_reducible refine g_ld ?_); (refine h_ld txs H 0 rfl rfl rfl rfl ?_)))))
  obtain ⟨A3, c3, e3, _, R3⟩ := own_reads_of_le (enc := Value.int .u8) (d := (0 : Int)) (xs := [104, 105]) (H.row 1 _ rfl)
  cases e3
  (with_reducible refine is_l ?_); refine l_text rfl rfl Tryz.underlying23 Tryz.underlying5 Tryz.underlying9 (readsInt_of.2 R3) ?_
  skip
  (with_reducible refine is_l ?_); refine l_t txs rfl rfl (fun _ => ?_) (fun hh => absurd rfl hh)
  repeat' (first | (first | (with_reducible refine p_tn ?_) | (with_reducible refine wp_ret ?_)) | (first | (with_reducible refine l_nil ?_) | ((with_reducible refine g_on ?_); (first | ((with_reducible refine g_mv ?_); refine l_p txs rfl rfl ?_) | ((with_reducible refine g_as ?_); refine l_p txs rfl rfl ?_) | ((with_reducible refine g_pk ?_); refine l_p txs rfl rfl ?_))) | ((with_reducible refine g_if ?_); (first | ((with_reducible refine g_fa ?_); refine h_fa flds rfl rfl ?_) | ((with_reducible refine g_ld ?_); (refine h_ld txs H 0 rfl rfl rfl rfl ?_)) | ((with_reducible refine g_un ?_); (refine l_p txs rfl rfl ?_))))))
  refine end1 rfl rfl ?_
  exact ⟨rfl, H.B⟩
end Go.Proofs.YthgojbdpmcccaaaGreatDoor.K
end
section
namespace Go.Proofs.YthgojbdpmcccaaaGreatDoor.K
open Go.RowKit Go.Proofs.YthgojbdpmcccaaaGreatDoor.Q Go.Proofs.YthgojbdpmcccaaaGreatDoor.Wb Go.Proofs.YthgojbdpmcccaaaGreatDoorW.PrintWords
set_option linter.unusedVariables false
set_option linter.unusedSimpArgs false
def zR : ReqS := ⟨[], [], 0, [], [], false⟩
/-- What is answered, an error as a number. -/
def outReq (b : L) : ReqS × Nat × Nat := match parseReqS b with | .ok (r, n) => (r, n, 0) | .error k => (zR, 0, k)
abbrev rowsR (F : Option Addr) (f : Nat) (l : List Fld) (B : Option Addr) (c : Nat) (b : L) : List RowD := [rowF (.slice F l.length f) l, rowB (.slice B b.length c) b]
theorem prR_out {w : World} {b : L} {e : Ending} {w' : World} (h : PrR w b e w') : ∃ F f B c, e = .returned (.tuple #[.agg (reqA (outReq b).1 F f B c), .int .i64 ((outReq b).2.1 : Int), .int .i64 ((outReq b).2.2 : Int)]) ∧ Hp w w' [] (rowsR F f (outReq b).1.fields B c (outReq b).1.body) := by
  unfold PrR at h
  unfold outReq
  cases hp : parseReqS b with
  | error k =>
    rw [hp] at h
    obtain ⟨rfl, H⟩ := h
    exact ⟨none, 0, none, 0, rfl, ((H.nilRow 5 1).nilRow 95 2).pick [] [0, 1] (by decide) (by decide) rfl rfl⟩
  | ok z =>
    obtain ⟨r, n⟩ := z
    rw [hp] at h
    obtain ⟨F, f, B, c, rfl, H⟩ := h
    exact ⟨F, f, B, c, rfl, H⟩
theorem rowB_rd {w0 w : World} {l : List Ent} {r : List RowD} (H : Hp w0 w l r) (k : Nat) {F : Option Addr} {f : Nat} {x : L} (hk : r[k]? = some (rowB (.slice F x.length f) x)) : ReadsInt w .u8 F x.length x ∧ x.length ≤ f ∧ (F = none → f = 0 ∧ x.length = 0) := by
  obtain ⟨A0, c0, he, hle, hr, hn⟩ := H.rd k hk
  cases he
  obtain ⟨A3, c3, e3, _, R3⟩ := own_reads_of_le (enc := Value.int .u8) (d := (0 : Int)) (xs := x) (H.row k _ hk)
  cases e3
  exact ⟨readsInt_of.2 R3, hle, hn⟩
end Go.Proofs.YthgojbdpmcccaaaGreatDoor.K
end
section
namespace Go.Proofs.YthgojbdpmcccaaaGreatDoor.K
open Go.RowKit Go.Proofs.YthgojbdpmcccaaaGreatDoor.Q Go.Proofs.YthgojbdpmcccaaaGreatDoor.Wb Go.Proofs.YthgojbdpmcccaaaGreatDoorW.PrintWords
set_option linter.unusedVariables false
set_option linter.unusedSimpArgs false
abbrev TabP (w : World) : Prop := ∀ w', Below w.heap.size w w' → Lib.TabIs Tryz.prog w' "internal/strconv.uint64pow10" .u64 Lib.pow10Tab
theorem TabP.below {w w' : World} (h : TabP w) (hb : Below w.heap.size w w') : TabP w' := fun w2 K => h w2 (Bt hb K)
end Go.Proofs.YthgojbdpmcccaaaGreatDoor.K
end
section
namespace Go.Proofs.YthgojbdpmcccaaaGreatDoor.K
open Go.RowKit Go.Proofs.YthgojbdpmcccaaaGreatDoor.Q Go.Proofs.YthgojbdpmcccaaaGreatDoor.Wb Go.Proofs.YthgojbdpmcccaaaGreatDoorW.PrintWords
set_option linter.unusedVariables false
set_option linter.unusedSimpArgs false
theorem bl_cat (s t : ByteArray) : bl (s ++ t) = bl s ++ bl t := by
  unfold bl
  rw [ByteArray.data_append, Array.toList_append, List.map_append]
theorem l_cvb {P : Program} {n : Nat} {ops : Array Oper} {Q : Exit → Act → World → Prop} {rest : List Oper} {f : Fr} {w : World} {d : Option Nat} {tt : TypeId} {ps : String} {af : Array Edge} {gd : Option (Nat × Bool)} {src dst e : TypeId} {x : Operand} {s : ByteArray} {u : TypeDesc}
    (hs : P.underlying src = some u) (hd : P.underlying dst = some (.slice e)) (he : P.underlying e = some (.int .u8)) (hw : want n ops f ⟨d, .convert src dst x, tt, ps, af, gd⟩ = true) (hx : nf (X n f x) = some (.string s))
    (h : WL P ops Q rest (act n (put f d (.slice (some ⟨w.heap.size, 0, none⟩) s.size (grownCap w s.size 0 e)))) (Lib.bytesWorld w e s)) : WL P ops Q (⟨d, .convert src dst x, tt, ps, af, gd⟩ :: rest) (act n f) w := by
  have hx' := nf_eq hx
  have hr := Lib.run_convert_string_bytes (P := P) w src dst e s hs hd he
  refine h_valw hw ?_ h
  unfold execOp
  simp [← hx', hr]
end Go.Proofs.YthgojbdpmcccaaaGreatDoor.K
end
section
namespace Go.Proofs.YthgojbdpmcccaaaGreatDoor.Op
open Go.ChangeShapes Go.WideShapes Go.ChangeAt Go.RowKit
open Go.Proofs.YthgojbdpmcccaaaGreatDoor.K Go.Proofs.YthgojbdpmcccaaaGreatDoor.Q Go.Proofs.YthgojbdpmcccaaaGreatDoor.Wb Go.Proofs.YthgojbdpmcccaaaGreatDoor.LaidF Go.Proofs.YthgojbdpmcccaaaGreatDoorW.PrintWords
set_option linter.unusedVariables false
set_option linter.unusedSimpArgs false
theorem part_le {H : Type} {d : DataW H} {l : List (DataW H)} (h : d ∈ l) : Rows.uptoBulk d ≤ Rows.uptoBulkAll l := by
  induction l with
  | nil => cases h
  | cons x r ih =>
    simp only [Rows.uptoBulkAll]
    cases List.mem_cons.1 h with
    | inl e => subst e; omega
    | inr e => have := ih e; omega
theorem lits_le {H : Type} (k : IntKind) : ∀ l : List Int, l.length ≤ Rows.uptoBulkAll (lits (H := H) k l)
  | [] => by simp [lits, Rows.uptoBulkAll]
  | x :: l => by
    have h := lits_le (H := H) k l
    have e : Rows.uptoBulkAll (lits (H := H) k (x :: l)) = 1 + Rows.uptoBulkAll (lits (H := H) k l) := by simp only [lits, List.map_cons, Rows.uptoBulkAll, Rows.uptoBulk]
    rw [e]
    simp only [List.length_cons]
    omega
section
variable {H : Type} {enc : TypeId × Value → H} {W : World} {fuel : Nat} {cs : List Value} {x : DataW H × List MemPlace}
set_option maxRecDepth 100000 in
theorem bytes_in (hf : DataW.trod enc Tryz.prog W 0 (fun _ => true) true fuel 23 cs = some x) :
    ∃ (A : Option Addr) (c : Nat) (l : L), cs = [.slice A l.length c] ∧ l.length ≤ c ∧ ReadsInt W .u8 A l.length l ∧ l.length ≤ Rows.uptoBulk x.1 ∧ Bytes l ∧ (A = none → c = 0 ∧ l.length = 0) := by
  rcases open_ints Tryz.underlying23 Tryz.underlying5 (by kernel_rfl) hf with ⟨rfl, hx⟩ | ⟨a, len, cap, ss, rfl, _, hl, hm, hz, rfl, hcell, hwf⟩
  · exact ⟨none, 0, [], rfl, Nat.le_refl _, ⟨rfl, by simp, fun h => absurd h (Nat.lt_irrefl 0)⟩, by simp, (fun _ h => by cases h), fun _ => ⟨rfl, rfl⟩⟩
  · simp only [if_true] at hz
    have hlen : (ss.take len).length = len := by rw [List.length_take]; omega
    have h1 := lits_le (H := H) .u8 (ss.take len)
    have hb : Rows.uptoBulk (.slice (lits (H := H) .u8 (ss.take len)) (lits .u8 (ss.drop len))) = Rows.uptoBulkAll (lits (H := H) .u8 (ss.take len)) + Rows.uptoBulkAll (lits (H := H) .u8 (ss.drop len)) + 1 := by simp only [Rows.uptoBulk]
    refine ⟨some a, cap, ss.take len, by rw [hlen], by omega, ⟨rfl, by rw [hlen]; simp only [maxLen] at hm; omega, fun _ => ⟨a, rfl, fun j hj => ?_⟩⟩, by rw [hb]; omega, fun y hy => bounds_u8 (hwf y (List.mem_of_mem_take hy)), fun h => by cases h⟩
    rw [hcell j (by omega)]
    congr 2
    rw [List.getD_eq_getElem?_getD, List.getD_eq_getElem?_getD, List.getElem?_take_of_lt (by omega)]
theorem i64_range {n : Int} (h : (Lit.int .i64 n).wf = true) : -9223372036854775808 ≤ n ∧ n ≤ 9223372036854775807 := by
  simp only [Lit.wf, Bool.and_eq_true, decide_eq_true_eq] at h
  have e1 : IntKind.min .i64 = -9223372036854775808 := by decide +kernel
  have e2 : IntKind.max .i64 = 9223372036854775807 := by decide +kernel
  rw [e1, e2] at h
  exact h
set_option maxRecDepth 100000 in
theorem open_bytes {base : Nat} {v : Value} {d : DataW H} {ps : List MemPlace} (hval : Value.okWide Tryz.prog W .any base 23 v) (h : DataW.Trod enc Tryz.prog W 0 (fun _ => true) true 23 v d ps) :
    ∃ (A : Option Addr) (c : Nat) (l : L), v = .slice A l.length c ∧ l.length ≤ c ∧ ReadsInt W .u8 A l.length l ∧ l.length ≤ Rows.uptoBulk d ∧ Bytes l ∧ (A = none → c = 0 ∧ l.length = 0) := by
  obtain ⟨a, len, cap, rfl⟩ := okWide_slice Tryz.underlying23 hval
  obtain ⟨fuel, hf⟩ := h
  obtain ⟨A, c, l, h1, h2⟩ := bytes_in hf
  refine ⟨A, c, l, ?_, h2⟩
  have h3 : (Value.slice a len cap).cells.toList = [Value.slice a len cap] := rfl
  rw [h3] at h1
  exact (List.cons.inj h1).1
set_option maxRecDepth 100000 in
theorem open_i64 {base : Nat} {v : Value} {d : DataW H} {ps : List MemPlace} (hval : Value.okWide Tryz.prog W .any base 3 v) (h : DataW.Trod enc Tryz.prog W 0 (fun _ => true) true 3 v d ps) : ∃ n : Int, v = .int .i64 n ∧ -9223372036854775808 ≤ n ∧ n ≤ 9223372036854775807 := by
  obtain ⟨n, rfl, rfl, rfl, y⟩ := open_int Tryz.underlying3 hval h
  exact ⟨n, rfl, (i64_range y).1, (i64_range y).2⟩
/-- A request in plain data, opened. -/
structure ReqIn (W : World) (k : Nat) (v : Value) where
  m : L
  t : L
  mi : Int
  ns : List L
  vs : List L
  body : L
  pad : Int
  NB : Option Addr
  nc : Nat
  VB : Option Addr
  vc : Nat
  BB : Option Addr
  bc : Nat
  hv : v = .agg #[.string (strOfNums m), .string (strOfNums t), .int .i64 mi, .slice NB ns.length nc, .slice VB vs.length vc, .slice BB body.length bc, .int .i64 pad]
  hm : Bytes m ∧ m.length ≤ k
  ht : Bytes t ∧ t.length ≤ k
  hmi : -9223372036854775808 ≤ mi ∧ mi ≤ 9223372036854775807
  hn : Rd W NB (strC ns) ∧ ns.length ≤ k ∧ ∀ x ∈ ns, Bytes x ∧ x.length ≤ k
  hvs : Rd W VB (strC vs) ∧ vs.length ≤ k ∧ ∀ x ∈ vs, Bytes x ∧ x.length ≤ k
  hb : ReadsInt W .u8 BB body.length body ∧ body.length ≤ bc ∧ body.length ≤ k ∧ Bytes body ∧ (BB = none → bc = 0 ∧ body.length = 0)
  hp : -9223372036854775808 ≤ pad ∧ pad ≤ 9223372036854775807
end
end Go.Proofs.YthgojbdpmcccaaaGreatDoor.Op
end
section
namespace Go.Proofs.YthgojbdpmcccaaaGreatDoor.K
open Go.RowKit Go.Proofs.YthgojbdpmcccaaaGreatDoor.Q Go.Proofs.YthgojbdpmcccaaaGreatDoor.Wb Go.Proofs.YthgojbdpmcccaaaGreatDoorW.PrintWords
set_option linter.unusedVariables false
set_option linter.unusedSimpArgs false
section
variable {P : Program} {n : Nat} {ops : Array Oper} {Q : Exit → Act → World → Prop} {rest : List Oper} {f : Fr} {w w0 : World} {d : Option Nat} {op : Op} {tt : TypeId} {ps : String} {af : Array Edge} {gd : Option (Nat × Bool)} {l l' : List Ent} {r : List RowD}
theorem l_bii {b : BinOp} {t t2 : TypeId} {x y : Operand} {k1 k2 : IntKind} {a c : Int} {z : Value} (hw : want n ops f ⟨d, .binOp b t x y t2, tt, ps, af, gd⟩ = true) (hx : nf (X n f x) = some (.int k1 a)) (hy : nf (X n f y) = some (.int k2 c))
    (hr : (binOp b t (.int k1 a) (.int k2 c)).run P w = .ok z w) (h : WL P ops Q rest (act n (put f d z)) w) : WL P ops Q (⟨d, .binOp b t x y t2, tt, ps, af, gd⟩ :: rest) (act n f) w := by
  refine l_val hw ?_ h
  have hx' := nf_eq hx
  have hy' := nf_eq hy
  have hge : (eqGuard b t x y (.int k1 a) (.int k2 c)).run P w = .ok () w := by
    unfold eqGuard
    cases b <;> rfl
  unfold execOp
  simp [← hx', ← hy', hge, hr]
theorem l_cvi {src dst : TypeId} {k k2 : IntKind} {z : Int} {x : Operand} (hs : P.underlying src = some (.int k)) (hd : P.underlying dst = some (.int k2)) (hw : want n ops f ⟨d, .convert src dst x, tt, ps, af, gd⟩ = true) (hx : nf (X n f x) = some (.int k z)) (h : WL P ops Q rest (act n (put f d (.int k2 (k2.wrap z)))) w) : WL P ops Q (⟨d, .convert src dst x, tt, ps, af, gd⟩ :: rest) (act n f) w := by
  refine l_val hw ?_ h
  have hx' := nf_eq hx
  unfold execOp
  simp [go_sem, ← hx', convert, run_underlying hs, run_underlying hd]
theorem l_iaa {t e : TypeId} {m : Nat} {x y : Operand} {g : Nat} {k : IntKind} {j : Int} (ht : P.underlying t = some (.array m e)) (he : (P.info? e).map (·.size) = some 1) (hw : want n ops f ⟨d, .indexAddr t x y, tt, ps, af, gd⟩ = true) (hx : nf (X n f x) = some (.pointer (some ⟨g, 0, none⟩))) (hy : nf (X n f y) = some (.int k j)) (h0 : 0 ≤ j) (h1 : j < m)
    (h : WL P ops Q rest (act n (put f d (.pointer (some ⟨g, j.toNat, none⟩)))) w) : WL P ops Q (⟨d, .indexAddr t x y, tt, ps, af, gd⟩ :: rest) (act n f) w := by
  refine l_val hw ?_ h
  have hx' := nf_eq hx
  have hy' := nf_eq hy
  obtain ⟨i0, hi, hz⟩ := Option.map_eq_some_iff.1 he
  unfold execOp
  simp [go_sem, ← hx', ← hy', Instr.indexAt, run_underlying ht, sizeOf, typeInfo, hi, hz, h0, h1, Addr.add_lit]
theorem l_slA {t e : TypeId} {m : Nat} {x lo : Operand} {g : Nat} {j : Nat} {z : Int} (ht : P.underlying t = some (.array m e)) (he : (P.info? e).map (·.size) = some 1) (hw : want n ops f ⟨d, .slice t x (some lo) none none, tt, ps, af, gd⟩ = true) (hx : nf (X n f x) = some (.pointer (some ⟨g, 0, none⟩))) (hy : nf (X n f lo) = some (.int .i64 z)) (hz : z = (j : Int)) (h1 : j < m)
    (h : WL P ops Q rest (act n (put f d (.slice (some ⟨g, j, none⟩) (m - j) (m - j)))) w) : WL P ops Q (⟨d, .slice t x (some lo) none none, tt, ps, af, gd⟩ :: rest) (act n f) w := by
  subst hz
  refine l_val hw ?_ h
  have hx' := nf_eq hx
  have hy' := nf_eq hy
  obtain ⟨i0, hi, hz⟩ := Option.map_eq_some_iff.1 he
  unfold execOp
  have hel : P.elem t = e := by simp [Program.elem, ht]
  simp [go_sem, ← hx', ← hy', Instr.sliceAt, Instr.slice, Instr.sliceBounds, Instr.sliceBound, run_underlying ht, sizeOf, typeInfo, hi, hz, hel, Addr.add_lit]
  rw [if_pos (by omega), if_neg (by omega)]
theorem h_st1 {t : TypeId} {x y : Operand} (ho : (P.info? t).map (·.size) = some 1) (H : Hp w0 w l r) (k : Nat) {g i : Nat} {t2 : TypeId} {cs : List Value} {v : Value} (h1 : v.oneCell' = true) (hv : v.cells = #[v]) (hw : want n ops f ⟨none, .store t x y, tt, ps, af, gd⟩ = true) (hx : X n f x = .pointer (some ⟨g, i, none⟩)) (hy : X n f y = v) (hk : l[k]? = some (g, t2, cs)) (hi : i < cs.length)
    (hl : l.set k (g, t2, cs.set i v) = l') (h : ∀ w', Hp w0 w' l' r → WL P ops Q rest (act n f) w') : WL P ops Q (⟨none, .store t x y, tt, ps, af, gd⟩ :: rest) (act n f) w := by
  subst hl
  have hb := H.get k hk
  have hr := run_store_run (P := P) (o := i) t v [v] hb (by rw [hv]) ho (by simp; omega) (by intro q1 h2; simp at h2; subst h2; exact h1)
  have hh := heap_setCells (fr := (0, 0)) [v] i w cs hb (by simp; omega)
  have e3 : cs.take i ++ [v] ++ cs.drop (i + [v].length) = cs.set i v := by
    rw [List.set_eq_take_append_cons_drop, if_pos hi]; simp
  rw [e3] at hh
  refine h_skip hw ?_ (h _ (H.upd k hk (grown_setCells [v] i w) hh))
  unfold execOp
  simp [hx, hy, hr]
end
set_option maxHeartbeats 2000000 in
theorem tz64_c {w : World} (hz : w.cell? ⟨22, 15, none⟩ = some (.int .u8 4)) : Calls Tryz.prog 205 #[.int .u64 16] w fun e w' => e = .returned (.int .i64 4) ∧ w' = w := by
  refine enter (args := [.int .u64 16]) Tryz.func205 rfl Tryz.ntmps205 rfl ?_
  repeat' (first | (with_reducible refine wp_seq ?_) | (with_reducible refine w_reg ?_))
  (with_reducible refine is_l ?_); refine l_val (v := .int .i64 0) rfl (by kernel_rfl) ?_
  with_reducible refine l_nil ?_
  repeat' (first | (with_reducible refine p_tn ?_) | (with_reducible refine wp_seq ?_) | (with_reducible refine w_reg ?_))
  (with_reducible refine is_l ?_); refine l_val (v := .int .u64 16) rfl (by kernel_rfl) ?_
  (with_reducible refine is_l ?_); refine l_val (v := .bool false) rfl (by kernel_rfl) ?_
  with_reducible refine l_nil ?_
  repeat' (first | (with_reducible refine p_tn ?_) | (with_reducible refine wp_seq ?_) | (with_reducible refine w_reg ?_) | (with_reducible (refine is_if ?_; (refine w_iff rfl ?_))) | (with_reducible refine wp_skip ?_))
  (with_reducible refine is_l ?_); refine l_val (v := .int .u64 16) rfl (by kernel_rfl) ?_
  (with_reducible refine is_l ?_); refine l_val (v := .int .u64 16) rfl (by kernel_rfl) ?_
  (with_reducible refine is_l ?_); refine l_val (v := .int .u64 18446744073709551600) rfl (by kernel_rfl) ?_
  (with_reducible refine is_l ?_); refine l_val (v := .int .u64 16) rfl (by kernel_rfl) ?_
  (with_reducible refine is_l ?_); refine l_val (v := .int .u64 4573923408821661840) rfl (by kernel_rfl) ?_
  (with_reducible refine is_l ?_); refine l_val (v := .int .u64 15) rfl (by kernel_rfl) ?_
  (with_reducible refine is_l ?_); refine l_val (v := .pointer (some ⟨22, 15, none⟩)) rfl (by kernel_rfl) ?_
  (with_reducible refine is_l ?_); refine l_ld txs rfl rfl hz ?_
  (with_reducible refine is_l ?_); refine l_val (v := .int .i64 4) rfl (by kernel_rfl) ?_
  (with_reducible refine is_l ?_); refine l_val (v := .int .i64 4) rfl (by kernel_rfl) ?_
  with_reducible refine l_nil ?_
  repeat' (first | (with_reducible refine p_tn ?_) | (with_reducible refine wp_ret ?_))
  refine end1 rfl rfl ?_
  exact ⟨rfl, rfl⟩
theorem wraps_u64 (n : Int) (h0 : 0 ≤ n) (h1 : n < 2 ^ 32) : IntKind.u64.wrap n = n := by
  simp [IntKind.wrap, IntKind.bits, IntKind.signed]
  omega
theorem and15 (t : TypeId) (u : Nat) (hu : u < 4294967296) (w : World) : (binOp .and t (.int .u64 (u : Int)) (.int .u64 15)).run Tryz.prog w = .ok (.int .u64 ((u % 16 : Nat) : Int)) w := by
  have h1 : u % 2 ^ IntKind.u64.bits = u := Nat.mod_eq_of_lt (by show u < 2 ^ 64; omega)
  have h2 : 15 % 2 ^ IntKind.u64.bits = 15 := by decide
  have h3 : u &&& 15 = u % 16 := Nat.and_two_pow_sub_one_eq_mod u 4
  have h4 : IntKind.u64.wrap ((u % 16 : Nat) : Int) = ((u % 16 : Nat) : Int) := wraps_u64 _ (by omega) (by omega)
  rw [binOp_and]
  simp only [Int.natCast_emod] at h4
  simp [Op.intBits, h1, h2, h3]
  exact h4
theorem geq16 (u : Nat) (w : World) : (binOp .geq 230 (.int .u64 (u : Int)) (.int .u64 16)).run Tryz.prog w = .ok (.bool (decide (16 ≤ u))) w := by
  simp [go_sem, run_underlying Tryz.underlying230]
  omega
set_option maxHeartbeats 2000000 in
theorem tz_c {w : World} (hz : w.cell? ⟨22, 15, none⟩ = some (.int .u8 4)) : Calls Tryz.prog 192 #[.int .u64 16] w fun e w' => e = .returned (.int .i64 4) ∧ w' = w := by
  refine enter (args := [.int .u64 16]) Tryz.func192 rfl Tryz.ntmps192 rfl ?_
  repeat' (first | (first | (with_reducible refine p_tn ?_) | (with_reducible refine wp_seq ?_) | (with_reducible refine w_reg ?_) | (with_reducible (refine is_if ?_; (refine w_iff rfl ?_))) | (with_reducible refine wp_skip ?_)) | (first | (with_reducible refine l_nil ?_) | ((with_reducible refine g_on ?_); (first | ((with_reducible refine g_mv ?_); refine l_p txs rfl rfl ?_) | ((with_reducible refine g_as ?_); refine l_p txs rfl rfl ?_)))))
  (with_reducible refine is_l ?_); refine l_callp rfl rfl (by kernel_rfl) (tz64_c hz) ?_
  repeat' (first | (first | (with_reducible refine p_tn ?_) | (with_reducible refine wp_ret ?_)) | (first | (with_reducible refine l_nil ?_) | ((with_reducible refine g_on ?_); ((with_reducible refine g_as ?_); refine l_p txs rfl rfl ?_))))
  refine end1 rfl rfl ?_
  exact ⟨rfl, rfl⟩
theorem pow_c (w : World) : Calls Tryz.prog 191 #[.int .i64 16] w fun e w' => e = .returned (.bool true) ∧ w' = w := by
  refine enter (args := [.int .i64 16]) Tryz.func191 rfl Tryz.ntmps191 rfl ?_
  repeat' (first | (first | (with_reducible refine p_tn ?_) | (with_reducible refine wp_seq ?_) | (with_reducible refine w_reg ?_)) | (first | (with_reducible refine l_nil ?_) | ((with_reducible refine g_on ?_); (first | ((with_reducible refine g_mv ?_); refine l_p txs rfl rfl ?_) | ((with_reducible refine g_as ?_); refine l_p txs rfl rfl ?_) | ((with_reducible refine g_bi ?_); (refine l_a txs rfl rfl (by first | exact in_i64 (by omega) (by omega) | exact in_u8 (by omega) (by omega) | exact in_u64 (by omega) (by omega) | exact in_i32 (by omega) (by omega)) ?_))))))
  (with_reducible refine is_l ?_); refine l_val (v := .int .i64 0) rfl (by kernel_rfl) ?_
  (with_reducible refine is_l ?_); refine l_val (v := .bool true) rfl (by kernel_rfl) ?_
  repeat' (first | (first | (with_reducible refine p_tn ?_) | (with_reducible refine wp_ret ?_)) | (first | (with_reducible refine l_nil ?_) | ((with_reducible refine g_on ?_); ((with_reducible refine g_as ?_); refine l_p txs rfl rfl ?_))))
  refine end1 rfl rfl ?_
  exact ⟨rfl, rfl⟩
theorem one8 : (Tryz.prog.info? 5).map (·.size) = some 1 := by kernel_rfl
abbrev digB36 : ByteArray := ⟨#[48, 49, 50, 51, 52, 53, 54, 55, 56, 57, 97, 98, 99, 100, 101, 102, 103, 104, 105, 106, 107, 108, 109, 110, 111, 112, 113, 114, 115, 116, 117, 118, 119, 120, 121, 122]⟩
theorem dig_hex' : ∀ j : Fin 16, at_ (bl digB36) ((j.val : Nat) : Int) = hexD j.val := by decide +kernel
theorem dig_hex (j : Nat) (h : j < 16) : at_ (bl digB36) (j : Int) = hexD j := dig_hex' ⟨j, h⟩
theorem drop_set_at {cs : List Value} {i : Nat} {v : Value} (h : i < cs.length) : (cs.set i v).drop i = v :: cs.drop (i + 1) := by
  rw [List.drop_eq_getElem_cons (by simpa using h), List.getElem_set_self, List.drop_set_of_lt (by omega)]
def rt65 : Nat → Option (List Value)
  | 266 => some (List.replicate 65 (.int .u8 0))
  | _ => none
theorem rec65 : Recs Tryz.prog rt65 := by
  intro t zs h
  unfold rt65 at h
  split at h
  · cases h; exact ⟨⟨_, Tryz.underlying266, rfl⟩, by kernel_rfl⟩
  · cases h
set_option maxRecDepth 100000 in
set_option maxHeartbeats 8000000 in
theorem bits16_c {w : World} (hz : w.cell? ⟨22, 15, none⟩ = some (.int .u8 4)) (n : Nat) (hn : n < 4294967296) :
    Calls Tryz.prog 166 #[.slice none 0 0, .int .u64 (n : Int), .int .i64 16, .bool false, .bool false] w fun e w' => e = .returned (.tuple #[.slice none 0 0, .string (strOfNums (hexS n))]) ∧ Below w.heap.size w w' := by
  refine enter (args := [.slice none 0 0, .int .u64 (n : Int), .int .i64 16, .bool false, .bool false]) Tryz.func166 rfl Tryz.ntmps166 rfl ?_
  have H := Hp.nil w
  repeat' (first | (first | (with_reducible refine p_tn ?_) | (with_reducible refine wp_seq ?_) | (with_reducible refine w_reg ?_)) | (first | (with_reducible refine l_nil ?_) | ((with_reducible refine g_on ?_); (first | ((with_reducible refine g_mv ?_); refine l_p txs rfl rfl ?_) | ((with_reducible refine g_as ?_); refine l_p txs rfl rfl ?_)))))
  (with_reducible refine is_l ?_); refine l_t txs rfl rfl (fun hh => absurd hh (by decide)) (fun _ => ?_)
  repeat' (first | ((with_reducible refine g_on ?_); ((with_reducible refine g_mv ?_); refine l_p txs rfl rfl ?_)) | ((with_reducible refine g_if ?_); ((with_reducible refine g_mv ?_); refine l_p txs rfl rfl ?_)))
  (with_reducible refine is_l ?_); refine l_t txs rfl rfl (fun hh => absurd hh (by decide)) (fun _ => ?_)
  repeat' (first | ((with_reducible refine g_on ?_); (first | ((with_reducible refine g_mv ?_); refine l_p txs rfl rfl ?_) | ((with_reducible refine g_pk ?_); refine l_p txs rfl rfl ?_))) | ((with_reducible refine g_if ?_); ((with_reducible refine g_mv ?_); refine l_p txs rfl rfl ?_)))
  (with_reducible refine is_l ?_); refine l_t txs rfl rfl (fun hh => absurd hh (by decide)) (fun _ => ?_)
  repeat' (first | (first | (with_reducible refine p_tn ?_) | (with_reducible refine wp_seq ?_) | (with_reducible refine w_reg ?_) | (with_reducible (refine is_if ?_; (refine w_iff rfl ?_))) | (with_reducible refine wp_skip ?_)) | (first | (with_reducible refine l_nil ?_) | ((with_reducible refine g_on ?_); ((with_reducible refine g_pk ?_); refine l_p txs rfl rfl ?_))))
  (with_reducible refine is_l ?_); refine h_alloc rec65 H rfl rfl (fun gA w_ H => ?_)
  repeat' (first | (first | (with_reducible refine p_tn ?_) | (with_reducible refine wp_seq ?_) | (with_reducible refine w_reg ?_) | (with_reducible (refine is_if ?_; (refine w_iff rfl ?_))) | (with_reducible refine wp_skip ?_)) | (first | (with_reducible refine l_nil ?_) | ((with_reducible refine g_on ?_); (first | ((with_reducible refine g_mv ?_); refine l_p txs rfl rfl ?_) | ((with_reducible refine g_as ?_); refine l_p txs rfl rfl ?_)))))
  (with_reducible refine is_l ?_); refine l_callp rfl rfl (by kernel_rfl) (pow_c _) ?_
  repeat' (first | (first | (with_reducible refine p_tn ?_) | (with_reducible refine wp_seq ?_) | (with_reducible refine w_reg ?_) | (with_reducible (refine is_if ?_; (refine w_ift rfl ?_)))) | (first | (with_reducible refine l_nil ?_) | ((with_reducible refine g_on ?_); ((with_reducible refine g_mv ?_); refine l_p txs rfl rfl ?_))))
  (with_reducible refine is_l ?_); refine l_val (v := .int .u64 16) rfl (by kernel_rfl) ?_
  skip
  (with_reducible refine is_l ?_); refine l_callp rfl rfl (by kernel_rfl) (tz_c (H.old hz)) ?_
  skip
  (with_reducible refine is_l ?_); refine l_val (v := .int .u64 4) rfl (by kernel_rfl) ?_
  repeat' (first | (first | (with_reducible refine p_tn ?_) | (with_reducible refine wp_seq ?_) | (with_reducible refine w_reg ?_)) | (first | (with_reducible refine l_nil ?_) | ((with_reducible refine g_on ?_); (first | ((with_reducible refine g_mv ?_); refine l_p txs rfl rfl ?_) | ((with_reducible refine g_as ?_); refine l_p txs rfl rfl ?_)))))
  (with_reducible refine is_l ?_); refine l_val (v := .int .u64 16) rfl (by kernel_rfl) ?_
  repeat' (first | (first | (with_reducible refine p_tn ?_) | (with_reducible refine wp_seq ?_) | (with_reducible refine w_reg ?_)) | (first | (with_reducible refine l_nil ?_) | ((with_reducible refine g_on ?_); (first | ((with_reducible refine g_mv ?_); refine l_p txs rfl rfl ?_) | ((with_reducible refine g_as ?_); refine l_p txs rfl rfl ?_)))))
  (with_reducible refine is_l ?_); refine l_val (v := .int .u64 16) rfl (by kernel_rfl) ?_
  repeat' (first | (first | (with_reducible refine p_tn ?_) | (with_reducible refine wp_seq ?_) | (with_reducible refine wp_block ?_)) | (first | (with_reducible refine l_nil ?_) | ((with_reducible refine g_on ?_); (first | ((with_reducible refine g_as ?_); refine l_p txs rfl rfl ?_) | ((with_reducible refine g_bi ?_); (refine l_a txs rfl rfl (by first | exact in_i64 (by omega) (by omega) | exact in_u8 (by omega) (by omega) | exact in_u64 (by omega) (by omega) | exact in_i32 (by omega) (by omega)) ?_))))))
  refine w_loop (σ := Nat × L) (S := fun s => [(0, .slice none 0 0), (1, .int .u64 (s.1 : Int)), (3, .bool false), (4, .bool false), (10, .slice none 0 0), (12, .pointer (some ⟨gA, 0, none⟩)), (13, .int .i64 ((65 - s.2.length : Nat) : Int)), (14, .int .u64 4), (15, .int .u64 16), (16, .int .u64 15)])
    (J := fun s w' => s.2.length ≤ 7 ∧ s.1 < 16 ^ (8 - s.2.length) ∧ hexS n = hexS s.1 ++ s.2 ∧ ∃ cs, Hp w w' [(gA, 266, cs)] [] ∧ cs.length = 65 ∧ cs.drop (65 - s.2.length) = nums .u8 s.2) (μ := fun s => s.1) (n, []) ⟨rfl, rfl, rfl, rfl, rfl, rfl, rfl, rfl, rfl, rfl, trivial⟩ ⟨by simp, by show n < 16 ^ 8; omega, by simp, _, H, by simp, by simp [nums]⟩ ?_
  rintro ⟨u, ds⟩ f w_ ⟨hl, hu, hS, cs, H, hc, hd⟩
  simp only at hl hu hS hd ⊢
  have hu32 : u < 4294967296 := Nat.lt_of_lt_of_le hu (Nat.pow_le_pow_right (by decide) (by omega : 8 - ds.length ≤ 8))
  have hg := geq16 u w_
  repeat' (first | (first | (with_reducible refine wp_seq ?_) | (with_reducible refine w_reg ?_)) | ((with_reducible refine g_on ?_); ((with_reducible refine g_mv ?_); refine l_p txs rfl rfl ?_)))
  by_cases h16 : 16 ≤ u
  · rw [decide_eq_true h16] at hg
    (with_reducible refine is_l ?_); refine l_bii rfl rfl rfl hg ?_
    repeat' (first | (first | (with_reducible refine p_tn ?_) | (with_reducible refine wp_seq ?_) | (with_reducible refine wp_block ?_) | (with_reducible refine w_reg ?_) | (with_reducible (refine is_if ?_; (refine w_ift rfl ?_))) | (with_reducible refine wp_skip ?_)) | (first | (with_reducible refine l_nil ?_) | ((with_reducible refine g_on ?_); (first | ((with_reducible refine g_mv ?_); refine l_p txs rfl rfl ?_) | ((with_reducible refine g_as ?_); refine l_p txs rfl rfl ?_) | ((with_reducible refine g_bi ?_); (refine l_a txs rfl rfl (by first | exact in_i64 (by omega) (by omega) | exact in_u8 (by omega) (by omega) | exact in_u64 (by omega) (by omega) | exact in_i32 (by omega) (by omega)) ?_))))))
    (with_reducible refine is_l ?_); refine l_bii rfl rfl rfl (and15 _ u hu32 w_) ?_
    skip
    (with_reducible refine is_l ?_); refine l_ix txs rfl rfl (by omega) (by show ((u % 16 : Nat) : Int) < 36; omega) ?_
    rw [dig_hex (u % 16) (by omega)]
    skip
    (with_reducible refine is_l ?_); refine l_iaa Tryz.underlying266 one8 rfl rfl rfl (by omega) (by omega) ?_
    skip
    (with_reducible refine is_l ?_); refine h_st1 one8 H 0 rfl rfl rfl rfl rfl rfl (by omega) rfl (fun w_ H => ?_)
    repeat' (first | (first | (with_reducible refine p_tn ?_) | (with_reducible refine p_bn ?_) | (with_reducible refine w_reg ?_)) | (first | (with_reducible refine l_nil ?_) | ((with_reducible refine g_on ?_); (first | ((with_reducible refine g_mv ?_); refine l_p txs rfl rfl ?_) | ((with_reducible refine g_as ?_); refine l_p txs rfl rfl ?_) | ((with_reducible refine g_bi ?_); (refine l_p txs rfl rfl ?_))))))
    have hsh : (u : Int).fdiv (2 ^ min (Int.toNat 4) IntKind.u64.bits) = ((u / 16 : Nat) : Int) := by
      have e : min (Int.toNat 4) IntKind.u64.bits = 4 := by decide
      rw [e]
      show (u : Int).fdiv 16 = _
      rw [Int.fdiv_eq_ediv_of_nonneg _ (by decide)]
      omega
    have hl7 : ds.length ≤ 6 := by
      rcases Nat.lt_or_ge ds.length 7 with h | h
      · omega
      · have e : 8 - ds.length = 1 := by omega
        rw [e] at hu
        omega
    have hi : (((65 - ds.length : Nat) : Int) - 1).toNat = 65 - (ds.length + 1) := by omega
    refine ⟨(u / 16, hexD (u % 16) :: ds), _, rfl, ⟨rfl, ?_, rfl, rfl, rfl, rfl, ?_, rfl, rfl, rfl, trivial⟩, ⟨by show ds.length + 1 ≤ 7; omega, ?_, ?_, _, H, by simp [hc], ?_⟩, by show u / 16 < u; omega⟩
    · show Value.int .u64 ((u : Int).fdiv (2 ^ min (Int.toNat 4) IntKind.u64.bits)) = Value.int .u64 ((u / 16 : Nat) : Int)
      rw [hsh]
    · show Value.int .i64 _ = Value.int .i64 _
      congr 1
      show ((65 - ds.length : Nat) : Int) - 1 = ((65 - (ds.length + 1) : Nat) : Int)
      omega
    · show u / 16 < 16 ^ (8 - (ds.length + 1))
      have e : 8 - ds.length = (8 - (ds.length + 1)) + 1 := by omega
      rw [e, Nat.pow_succ] at hu
      exact Nat.div_lt_of_lt_mul (by rw [Nat.mul_comm]; exact hu)
    · show hexS n = hexS (u / 16) ++ (hexD (u % 16) :: ds)
      rw [hS, hexS_ge (by omega)]
      simp
    · show (cs.set _ _).drop (65 - (ds.length + 1)) = nums .u8 (hexD (u % 16) :: ds)
      rw [hi, drop_set_at (by omega), show 65 - (ds.length + 1) + 1 = 65 - ds.length by omega, hd]
      rfl
  · rw [decide_eq_false h16] at hg
    (with_reducible refine is_l ?_); refine l_bii rfl rfl rfl hg ?_
    repeat' (first | (first | (with_reducible refine p_tn ?_) | (with_reducible refine p_tx ?_) | (with_reducible refine x_hit ?_) | (with_reducible refine wp_seq ?_) | (with_reducible refine w_reg ?_) | (with_reducible (refine is_if ?_; (refine w_iff rfl ?_))) | (with_reducible refine wp_exit ?_)) | (first | (with_reducible refine l_nil ?_) | ((with_reducible refine g_on ?_); (first | ((with_reducible refine g_mv ?_); refine l_p txs rfl rfl ?_) | ((with_reducible refine g_as ?_); refine l_p txs rfl rfl ?_) | ((with_reducible refine g_bi ?_); (refine l_a txs rfl rfl (by first | exact in_i64 (by omega) (by omega) | exact in_u8 (by omega) (by omega) | exact in_u64 (by omega) (by omega) | exact in_i32 (by omega) (by omega)) ?_))))))
    (with_reducible refine is_l ?_); refine l_ix txs rfl rfl (by omega) (by show (u : Int) < 36; omega) ?_
    rw [dig_hex u (by omega)]
    skip
    (with_reducible refine is_l ?_); refine l_iaa Tryz.underlying266 one8 rfl rfl rfl (by omega) (by omega) ?_
    skip
    (with_reducible refine is_l ?_); refine h_st1 one8 H 0 rfl rfl rfl rfl rfl rfl (by omega) rfl (fun w_ H => ?_)
    repeat' (first | (first | (with_reducible refine p_tn ?_) | (with_reducible refine wp_seq ?_) | (with_reducible refine w_reg ?_) | (with_reducible (refine is_if ?_; (refine w_iff rfl ?_))) | (with_reducible refine wp_skip ?_)) | (first | (with_reducible refine l_nil ?_) | ((with_reducible refine g_on ?_); ((with_reducible refine g_mv ?_); refine l_p txs rfl rfl ?_))))
    have hin : ((65 - ds.length : Nat) : Int) - 1 = ((65 - (ds.length + 1) : Nat) : Int) := by omega
    (with_reducible refine is_l ?_); refine l_slA (j := 65 - (ds.length + 1)) Tryz.underlying266 one8 rfl rfl rfl hin (by omega) ?_
    skip
    have hlen2 : 65 - (65 - (ds.length + 1)) = (hexD u :: ds).length := by simp; omega
    rw [hlen2]
    have hfin : hexS n = hexD u :: ds := by rw [hS, hexS_lt (by omega)]; rfl
    have hrd : ReadsInt w_ .u8 (some ⟨gA, 65 - (ds.length + 1), none⟩) (hexD u :: ds).length (hexD u :: ds) := by
      refine reads_of_rd ⟨fun h => (by cases h), fun ad he j v hv => ?_⟩ (by simp; omega)
      injection he with he
      subst he
      rw [add_lit]
      refine H.cellAt 0 rfl ?_
      have hi2 : (((65 - ds.length : Nat) : Int) - 1).toNat = 65 - (ds.length + 1) := by omega
      have h9 : (cs.set (65 - (ds.length + 1)) (.int .u8 (hexD u))).drop (65 - (ds.length + 1)) = nums .u8 (hexD u :: ds) := by
        rw [drop_set_at (by omega), show 65 - (ds.length + 1) + 1 = 65 - ds.length by omega, hd]
        rfl
      rw [hi2]
      rw [← h9, List.getElem?_drop] at hv
      exact hv
    (with_reducible refine is_l ?_); refine l_text rfl rfl Tryz.underlying23 Tryz.underlying5 Tryz.underlying9 hrd ?_
    repeat' (first | (first | (with_reducible refine p_tn ?_) | (with_reducible refine wp_ret ?_)) | (first | (with_reducible refine l_nil ?_) | ((with_reducible refine g_on ?_); ((with_reducible refine g_as ?_); refine l_p txs rfl rfl ?_))))
    refine end2 rfl rfl rfl ?_
    rw [hfin]
    exact ⟨rfl, H.B⟩
set_option maxHeartbeats 2000000 in
theorem formatInt16_c {w : World} (hz : w.cell? ⟨22, 15, none⟩ = some (.int .u8 4)) (n : Nat) (hn : n < 4294967296) :
    Calls Tryz.prog 58 #[.int .i64 (n : Int), .int .i64 16] w fun e w' => e = .returned (.string (strOfNums (hexS n))) ∧ Below w.heap.size w w' := by
  have inner : ∀ w1 : World, Below w.heap.size w w1 → Calls Tryz.prog 116 #[.int .i64 (n : Int), .int .i64 16] w1 fun e w' => e = .returned (.string (strOfNums (hexS n))) ∧ Below w1.heap.size w1 w' := by
    intro w1 K1
    have hz1 := pw_cell_below K1 hz
    refine enter (args := [.int .i64 (n : Int), .int .i64 16]) Tryz.func116 rfl Tryz.ntmps116 rfl ?_
    have H := Hp.nil w1
    repeat' (first | (first | (with_reducible refine p_tn ?_) | (with_reducible refine wp_seq ?_) | (with_reducible refine w_reg ?_)) | (first | (with_reducible refine l_nil ?_) | ((with_reducible refine g_on ?_); (first | ((with_reducible refine g_mv ?_); refine l_p txs rfl rfl ?_) | ((with_reducible refine g_as ?_); refine l_p txs rfl rfl ?_)))))
    (with_reducible refine is_l ?_); refine l_t txs rfl rfl (fun hh => absurd hh (by decide)) (fun _ => ?_)
    repeat' (first | (first | (with_reducible refine p_tn ?_) | (with_reducible refine wp_seq ?_) | (with_reducible refine w_reg ?_) | (with_reducible (refine is_if ?_; (refine w_iff rfl ?_))) | (with_reducible refine wp_skip ?_)) | (first | (with_reducible refine l_nil ?_) | ((with_reducible refine g_on ?_); ((with_reducible refine g_mv ?_); refine l_p txs rfl rfl ?_))))
    (with_reducible refine is_l ?_); refine l_cvi Tryz.underlying2 Tryz.underlying230 rfl rfl ?_
    rw [wraps_u64 (n : Int) (by omega) (by omega)]
    repeat' ((with_reducible refine g_on ?_); ((with_reducible refine g_mv ?_); refine l_p txs rfl rfl ?_))
    (with_reducible refine is_l ?_); refine l_bii (z := .bool false) rfl rfl rfl (by simp [go_sem, run_underlying Tryz.underlying2]) ?_
    skip
    (with_reducible refine is_l ?_); refine l_callv rfl rfl (by kernel_rfl) (bits16_c hz1 n hn) (fun w_ K => ?_)
    have H := H.call K
    repeat' (first | (first | (with_reducible refine p_tn ?_) | (with_reducible refine wp_seq ?_) | (with_reducible refine w_reg ?_) | (with_reducible refine wp_ret ?_)) | (first | (with_reducible refine l_nil ?_) | ((with_reducible refine g_on ?_); (first | ((with_reducible refine g_mv ?_); refine l_p txs rfl rfl ?_) | ((with_reducible refine g_as ?_); refine l_p txs rfl rfl ?_) | ((with_reducible refine g_ex ?_); refine l_p txs rfl rfl ?_)))))
    refine end1 rfl rfl ?_
    exact ⟨rfl, H.B⟩
  refine enter (args := [.int .i64 (n : Int), .int .i64 16]) Tryz.func58 rfl Tryz.ntmps58 rfl ?_
  have H := Hp.nil w
  repeat' (first | (first | (with_reducible refine p_tn ?_) | (with_reducible refine wp_seq ?_) | (with_reducible refine w_reg ?_)) | (first | (with_reducible refine l_nil ?_) | ((with_reducible refine g_on ?_); (first | ((with_reducible refine g_mv ?_); refine l_p txs rfl rfl ?_) | ((with_reducible refine g_as ?_); refine l_p txs rfl rfl ?_)))))
  (with_reducible refine is_l ?_); refine l_callv rfl rfl (by kernel_rfl) (inner _ H.B) (fun w_ K => ?_)
  have H := H.call K
  repeat' (first | (first | (with_reducible refine p_tn ?_) | (with_reducible refine wp_ret ?_)) | (first | (with_reducible refine l_nil ?_) | ((with_reducible refine g_on ?_); ((with_reducible refine g_as ?_); refine l_p txs rfl rfl ?_))))
  refine end1 rfl rfl ?_
  exact ⟨rfl, H.B⟩
end Go.Proofs.YthgojbdpmcccaaaGreatDoor.K
end
section
namespace Go.Proofs.YthgojbdpmcccaaaGreatDoor.K
open Go.RowKit Go.Proofs.YthgojbdpmcccaaaGreatDoor.Q Go.Proofs.YthgojbdpmcccaaaGreatDoor.Wb Go.Proofs.YthgojbdpmcccaaaGreatDoorW.PrintWords
set_option linter.unusedVariables false
set_option linter.unusedSimpArgs false
abbrev bufT : TypeId := 110
def rtB : Nat → Option (List Value)
  | 110 => some [.slice none 0 0, .int .i64 0, .int .i8 0]
  | _ => none
theorem recB : Recs Tryz.prog rtB := by
  intro t zs h
  unfold rtB at h
  split at h
  · cases h; exact ⟨⟨_, Tryz.underlying110, rfl⟩, by kernel_rfl⟩
  · cases h
abbrev bufP (b : Nat) : Value := .pointer (some ⟨b, 0, none⟩)
/-- What Chunked ends in. -/
def ChR (w : World) (size : Int) (body : L) (e : Ending) (w' : World) : Prop :=
  if size < 1 ∨ 65536 < size then e = .returned (.tuple #[.slice none 0 0, .int .i64 1]) ∧ Below w.heap.size w w'
  else if 1048576 < body.length then e = .returned (.tuple #[.slice none 0 0, .int .i64 2]) ∧ Below w.heap.size w w'
  else ∃ A c, e = .returned (.tuple #[.slice A (chunkedS (body.length + 1) size.toNat body).length c, .int .i64 0]) ∧ Hp w w' [] [rowB (.slice A (chunkedS (body.length + 1) size.toNat body).length c) (chunkedS (body.length + 1) size.toNat body)]
abbrev isBuf (B b : Nat) (out : L) (w : World) : Prop := Lib.IsBuffer bufT 5 B b (nums .u8 out) w
theorem nums_one (l : L) : ∀ v ∈ nums .u8 l, v.oneCell' = true := by
  intro v hv
  obtain ⟨m, _, rfl⟩ := List.mem_map.1 hv
  rfl
theorem isBuf_below {w0 w w' : World} {b : Nat} {out : L} (h : isBuf w0.heap.size b out w) (hB : Below w0.heap.size w0 w) (K : Below w.heap.size w w') : isBuf w0.heap.size b out w' := by
  obtain ⟨h1, v, lr, h2, h3, h4⟩ := h
  have hlen : (nums .u8 out).length = out.length := by simp [nums]
  rw [hlen] at h3
  have H : Hp w0 w [(b, bufT, [v, .int .i64 0, .int .i8 lr])] [rowB v out] := by
    refine ⟨hB, ?_, ?_, ?_, ?_, ?_⟩
    · intro i p hp
      match i, hp with
      | 0, hp => simp at hp; subst hp; exact ⟨h1, h2⟩
    · intro i d hd
      match i, hd with
      | 0, hd => simp at hd; subst hd; exact h3
    · intro i j p q hp hq hne
      match i, j, hp, hq with
      | 0, 0, _, _ => exact absurd rfl hne
    · intro i j d e hd he hne
      match i, j, hd, he with
      | 0, 0, _, _ => exact absurd rfl hne
    · intro i j p d hp hd
      match i, j, hp, hd with
      | 0, 0, hp, hd => simp at hp hd; subst hp hd; exact h4
  have H2 := H.call K
  refine ⟨(H2.blk 0 _ rfl).1, v, lr, (H2.blk 0 _ rfl).2, ?_, H2.ndm 0 0 _ _ rfl rfl⟩
  rw [hlen]
  exact H2.row 0 _ rfl
theorem hexS_bytes (n : Nat) : Bytes (hexS n) := by
  intro x hx
  obtain ⟨d, hd, rfl⟩ := hexS_mem n x hx
  unfold hexD
  split <;> omega
theorem add_block (a : Addr) (k : Nat) : (a.add k).block = a.block := by unfold Addr.add; split <;> rfl
theorem cut_some (a : Addr) (c p : Nat) : ∃ a2, cutA (some a) c p 1 = some a2 ∧ a2.block = a.block := by
  unfold cutA
  split
  · exact ⟨_, rfl, rfl⟩
  · exact ⟨_, rfl, add_block _ _⟩
theorem bufS_c {w : World} {B b : Nat} {out : L} (H : isBuf B b out w) (hB : B ≤ w.heap.size) (s : ByteArray) (hl : out.length + s.size ≤ 140737488355328) :
    Calls Tryz.prog 57 #[bufP b, .string s] w fun e w' => e = .returned (.tuple #[.int .i64 s.size, .nilIface]) ∧ isBuf B b (out ++ bl s) w' ∧ Below B w w' := by
  refine (Tryz.Buffer_WriteString_k B b (nums .u8 out) s w H hB (nums_one out) (by simpa [nums] using hl)).mono fun e w' ⟨h1, h2, h3, _⟩ => ⟨h1, ?_, h3⟩
  have e1 : nums .u8 (out ++ bl s) = nums .u8 out ++ Lib.byteCells s.data.toList := by
    rw [nums_append]
    congr 1
    simp [nums, bl, Lib.byteCells]
  unfold isBuf
  rw [e1]
  exact h2
theorem bufW_c {w : World} {B b : Nat} {out : L} (H : isBuf B b out w) (hB : B ≤ w.heap.size) {a : Addr} {p : L} {c : Nat} (ha : a.block ≠ b) (hr : ReadsInt w .u8 (some a) p.length p) (hl : out.length + p.length ≤ 140737488355328) :
    Calls Tryz.prog 59 #[bufP b, .slice (some a) p.length c] w fun e w' => e = .returned (.tuple #[.int .i64 p.length, .nilIface]) ∧ isBuf B b (out ++ p) w' ∧ Below B w w' := by
  refine (Tryz.Buffer_Write_any B b (nums .u8 out) (nums .u8 p) a p.length c w H hB (nums_one out) (by simp [nums]) ha (fun j v hv => (rd_of_reads hr).2 a rfl j v hv) (nums_one p) (by simpa [nums] using hl)).mono fun e w' ⟨h1, h2, h3, _⟩ => ⟨h1, ?_, h3⟩
  unfold isBuf
  rw [nums_append]
  exact h2
set_option maxRecDepth 100000 in
set_option maxHeartbeats 8000000 in
theorem Chunked_c {w : World} (hz : w.cell? ⟨22, 15, none⟩ = some (.int .u8 4)) {B : Option Addr} {c : Nat} {body : L} (h : ReadsInt w .u8 B body.length body) (hc : body.length ≤ c) (hb : Bytes body) (hs : body.length ≤ 100000000) (size : Int) :
    Calls Tryz.prog 24 #[.slice B body.length c, .int .i64 size] w (ChR w size body) := by
  refine enter (args := [.slice B body.length c, .int .i64 size]) Tryz.func24 rfl Tryz.ntmps24 rfl ?_
  have H := Hp.nil w
  repeat' (first | (first | (with_reducible refine p_tn ?_) | (with_reducible refine wp_seq ?_) | (with_reducible refine w_reg ?_)) | (first | (with_reducible refine l_nil ?_) | ((with_reducible refine g_on ?_); (first | ((with_reducible refine g_mv ?_); refine l_p txs rfl rfl ?_) | ((with_reducible refine g_as ?_); refine l_p txs rfl rfl ?_)))))
  (with_reducible refine is_l ?_); refine l_t txs rfl rfl (fun h1 => ?_) (fun h1 => ?_)
  · repeat' (first | (first | (with_reducible refine p_tn ?_) | (with_reducible refine p_tr ?_) | (with_reducible refine wp_seq ?_) | (with_reducible refine w_reg ?_) | (with_reducible (refine is_if ?_; (refine w_ift rfl ?_))) | (with_reducible refine wp_ret ?_)) | (first | (with_reducible refine l_nil ?_) | ((with_reducible refine g_on ?_); (first | ((with_reducible refine g_mv ?_); refine l_p txs rfl rfl ?_) | ((with_reducible refine g_as ?_); refine l_p txs rfl rfl ?_) | ((with_reducible refine g_pk ?_); refine l_p txs rfl rfl ?_))) | ((with_reducible refine g_if ?_); (refine l_off rfl ?_))))
    refine end2 rfl rfl rfl ?_
    unfold ChR
    rw [if_pos (by omega)]
    exact ⟨rfl, H.B⟩
  · repeat' (first | ((with_reducible refine g_on ?_); ((with_reducible refine g_mv ?_); refine l_p txs rfl rfl ?_)) | ((with_reducible refine g_if ?_); ((with_reducible refine g_mv ?_); refine l_p txs rfl rfl ?_)))
    (with_reducible refine is_l ?_); refine l_t txs rfl rfl (fun h2 => ?_) (fun h2 => ?_)
    · repeat' (first | (first | (with_reducible refine p_tn ?_) | (with_reducible refine p_tr ?_) | (with_reducible refine wp_seq ?_) | (with_reducible refine w_reg ?_) | (with_reducible (refine is_if ?_; (refine w_ift rfl ?_))) | (with_reducible refine wp_ret ?_)) | (first | (with_reducible refine l_nil ?_) | ((with_reducible refine g_on ?_); (first | ((with_reducible refine g_as ?_); refine l_p txs rfl rfl ?_) | ((with_reducible refine g_pk ?_); refine l_p txs rfl rfl ?_)))))
      refine end2 rfl rfl rfl ?_
      unfold ChR
      rw [if_pos (by omega)]
      exact ⟨rfl, H.B⟩
    · repeat' (first | (first | (with_reducible refine p_tn ?_) | (with_reducible refine wp_seq ?_) | (with_reducible refine w_reg ?_) | (with_reducible (refine is_if ?_; (refine w_iff rfl ?_))) | (with_reducible refine wp_skip ?_)) | (first | (with_reducible refine l_nil ?_) | ((with_reducible refine g_on ?_); (first | ((with_reducible refine g_mv ?_); refine l_p txs rfl rfl ?_) | ((with_reducible refine g_pk ?_); refine l_p txs rfl rfl ?_) | ((with_reducible refine g_cl ?_); refine l_p txs rfl rfl ?_)))))
      (with_reducible refine is_l ?_); refine l_t txs rfl rfl (fun h3 => ?_) (fun h3 => ?_)
      · repeat' (first | (first | (with_reducible refine p_tn ?_) | (with_reducible refine p_tr ?_) | (with_reducible refine wp_seq ?_) | (with_reducible refine w_reg ?_) | (with_reducible (refine is_if ?_; (refine w_ift rfl ?_))) | (with_reducible refine wp_ret ?_)) | (first | (with_reducible refine l_nil ?_) | ((with_reducible refine g_on ?_); ((with_reducible refine g_as ?_); refine l_p txs rfl rfl ?_))))
        refine end2 rfl rfl rfl ?_
        unfold ChR
        rw [if_neg (by omega), if_pos (by omega)]
        exact ⟨rfl, H.B⟩
      · repeat' (first | (first | (with_reducible refine p_tn ?_) | (with_reducible refine wp_seq ?_) | (with_reducible refine w_reg ?_) | (with_reducible (refine is_if ?_; (refine w_iff rfl ?_))) | (with_reducible refine wp_skip ?_)) | (with_reducible refine l_nil ?_))
        (with_reducible refine is_l ?_); refine h_alloc recB H rfl rfl (fun gB w_ H => ?_)
        repeat' (first | (first | (with_reducible refine p_tn ?_) | (with_reducible refine wp_seq ?_) | (with_reducible refine wp_block ?_)) | (with_reducible refine l_nil ?_))
        have hI : isBuf w.heap.size gB [] w_ := by
          have h4 := H.blk 0 _ rfl
          exact ⟨h4.1, .slice none 0 0, 0, h4.2, World.ownsRow_nil _ _ _ _, by simp [Value.ownBlock]⟩
        refine w_loop (σ := (L × L) × Option Addr × Nat) (S := fun s => [(0, .slice s.2.1 s.1.1.length s.2.2), (1, .int .i64 size), (6, bufP gB)])
          (J := fun s w' => (∀ w1, Below w.heap.size w w1 → ReadsInt w1 .u8 s.2.1 s.1.1.length s.1.1) ∧ s.1.1.length ≤ s.2.2 ∧ isBuf w.heap.size gB s.1.2 w' ∧ Below w.heap.size w w' ∧ s.1.2.length + s.1.1.length * 13 ≤ 13631488 ∧ ∃ f', s.1.1.length < f' ∧ chunkedS (body.length + 1) size.toNat body = s.1.2 ++ chunkedS f' size.toNat s.1.1) (μ := fun s => s.1.1.length) ((body, []), B, c) ⟨rfl, rfl, rfl, trivial⟩ ⟨fun w1 K => h.below K, hc, hI, H.B, by simp; omega, _, Nat.lt_succ_self _, rfl⟩ ?_
        rintro ⟨⟨rest, out⟩, A, cp⟩ f w_ ⟨hr, hcp, hI, hB, hbd, f', hf, hS⟩
        simp only at hr hcp hI hbd hf hS ⊢
        have H := Hp.ofBelow hB
        repeat' (first | (first | (with_reducible refine wp_seq ?_) | (with_reducible refine w_reg ?_)) | ((with_reducible refine g_on ?_); (first | ((with_reducible refine g_mv ?_); refine l_p txs rfl rfl ?_) | ((with_reducible refine g_cl ?_); refine l_p txs rfl rfl ?_))))
        (with_reducible refine is_l ?_); refine l_t txs rfl rfl (fun h4 => ?_) (fun h4 => ?_)
        · obtain ⟨n, hnd⟩ : ∃ n, n = min size.toNat rest.length := ⟨_, rfl⟩
          have hmn : (if (rest.length : Int) < size then (rest.length : Int) else size) = (n : Int) := by split <;> omega
          repeat' (first | (first | (with_reducible refine p_tn ?_) | (with_reducible refine wp_seq ?_) | (with_reducible refine wp_block ?_) | (with_reducible refine w_reg ?_) | (with_reducible (refine is_if ?_; (refine w_ift rfl ?_))) | (with_reducible refine wp_skip ?_)) | (first | (with_reducible refine l_nil ?_) | ((with_reducible refine g_on ?_); (first | ((with_reducible refine g_mv ?_); refine l_p txs rfl rfl ?_) | ((with_reducible refine g_as ?_); refine l_p txs rfl rfl ?_) | ((with_reducible refine g_cl ?_); refine l_p txs rfl rfl ?_)))))
          rw [hmn]
          skip
          (with_reducible refine is_l ?_); refine l_callv rfl rfl (by kernel_rfl) (formatInt16_c (pw_cell_below hB hz) n (by omega)) (fun w_ K => ?_)
          have hI := isBuf_below hI hB K
          have hB := hB.trans (K.mono hB.size)
          have hx8 : (strOfNums (hexS n)).size ≤ 8 := by
            rw [← bl_length, blS (hexS_bytes n)]
            exact hexS_len (by omega)
          have e3 : (⟨#[13, 10]⟩ : ByteArray).size = 2 := rfl
          have hlr : 0 < rest.length := by omega
          skip
          (with_reducible refine is_l ?_); refine l_cat rfl rfl (by rw [e3]; omega) ?_
          skip
          (with_reducible refine is_l ?_); refine l_callv rfl rfl (by kernel_rfl) (bufS_c hI hB.size _ (by rw [ByteArray.size_append, e3]; omega)) (fun w_ K => ?_)
          obtain ⟨hI, K⟩ := K
          have hB := hB.trans K
          rw [bl_cat, blS (hexS_bytes n)] at hI
          repeat' (first | (first | (with_reducible refine p_tn ?_) | (with_reducible refine wp_seq ?_) | (with_reducible refine w_reg ?_)) | (first | (with_reducible refine l_nil ?_) | ((with_reducible refine g_on ?_); ((with_reducible refine g_mv ?_); refine l_p txs rfl rfl ?_))))
          obtain ⟨a1, rfl⟩ : ∃ a1, A = some a1 := by
            cases A with
            | none =>
              have := (rd_of_reads (hr w (Below.refl _ w))).1 rfl
              have e : rest = [] := by simpa [nums] using this
              rw [e] at hlr
              exact absurd hlr (by simp)
            | some a => exact ⟨a, rfl⟩
          have hab : a1.block ≠ gB := by
            obtain ⟨x0, hx0⟩ : ∃ x0, rest[0]? = some x0 := ⟨_, List.getElem?_eq_getElem hlr⟩
            have h5 := (rd_of_reads (hr w (Below.refl _ w))).2 a1 rfl 0 (.int .u8 x0) (by simp [nums, hx0])
            have h6 := World.block_lt_of_cell? w _ h5
            rw [add_block] at h6
            have h7 := hI.1
            omega
          obtain ⟨a2, ca, cb⟩ := cut_some a1 cp 0
          have hpl : (rest.take n).length = n := by rw [List.length_take]; omega
          have q := reads_cut (hr _ hB) (p := 0) (q := n) (Nat.zero_le _) (by omega) hcp
          rw [ca, Nat.sub_zero, List.drop_zero] at q
          (with_reducible refine is_l ?_); refine l_cutN txs 0 n rfl rfl (by omega) (by omega) ?_
          rw [ca, Nat.sub_zero]
          skip
          have hwr := bufW_c (c := cp - 0) hI hB.size (a := a2) (p := rest.take n) (by rw [cb]; exact hab) (by rw [hpl]; exact q) (by rw [hpl]; simp only [List.length_append]; have := hexS_len (n := n) (by omega); have e4 : (bl (⟨#[13, 10]⟩ : ByteArray)).length = 2 := rfl; omega)
          rw [hpl] at hwr
          (with_reducible refine is_l ?_); refine l_callv rfl rfl (by kernel_rfl) hwr (fun w_ K => ?_)
          obtain ⟨hI, K⟩ := K
          have hB := hB.trans K
          repeat' (first | (first | (with_reducible refine p_tn ?_) | (with_reducible refine wp_seq ?_) | (with_reducible refine w_reg ?_)) | (with_reducible refine l_nil ?_))
          have hxl : (hexS n).length ≤ 8 := hexS_len (by omega)
          have e4 : bl (⟨#[13, 10]⟩ : ByteArray) = [13, 10] := rfl
          rw [e4] at hI
          (with_reducible refine is_l ?_); refine l_callv rfl rfl (by kernel_rfl) (bufS_c hI hB.size _ (by rw [e3]; simp only [List.length_append, hpl, List.length_cons, List.length_nil]; omega)) (fun w_ K => ?_)
          obtain ⟨hI, K⟩ := K
          have hB := hB.trans K
          rw [e4] at hI
          repeat' (first | (first | (with_reducible refine p_tn ?_) | (with_reducible refine w_reg ?_)) | (first | (with_reducible refine l_nil ?_) | ((with_reducible refine g_on ?_); ((with_reducible refine g_mv ?_); refine l_p txs rfl rfl ?_))))
          (with_reducible refine is_l ?_); refine l_cutN txs n rest.length rfl rfl (by omega) hcp ?_
          repeat' (first | (first | (with_reducible refine p_tn ?_) | (with_reducible refine p_bn ?_)) | (first | (with_reducible refine l_nil ?_) | ((with_reducible refine g_on ?_); ((with_reducible refine g_as ?_); refine l_p txs rfl rfl ?_))))
          obtain ⟨f2, rfl⟩ : ∃ f2, f' = f2 + 1 := ⟨f' - 1, by omega⟩
          have hdl : (rest.drop n).length = rest.length - n := List.length_drop
          refine ⟨((rest.drop n, out ++ (hexS n ++ [13, 10]) ++ rest.take n ++ [13, 10]), cutA (some a1) cp n 1, cp - n), _, rfl, ⟨by show Value.slice _ _ _ = Value.slice _ (rest.drop n).length _; rw [hdl], rfl, rfl, trivial⟩, ⟨fun w1 K1 => ?_, by show (rest.drop n).length ≤ cp - n; omega, hI, hB, ?_, f2, by show (rest.drop n).length < f2; omega, ?_⟩, by show (rest.drop n).length < rest.length; omega⟩
          · have q2 := reads_cut (hr w1 K1) (p := n) (q := rest.length) (by omega) (Nat.le_refl _) hcp
            rw [List.take_length] at q2
            show ReadsInt w1 .u8 _ (rest.drop n).length (rest.drop n)
            rw [hdl]
            exact q2
          · simp only [List.length_append, hpl, hdl, List.length_cons, List.length_nil]
            omega
          · rw [hS]
            show out ++ chunkedS (f2 + 1) size.toNat rest = _
            have hne : rest ≠ [] := fun e => by rw [e] at hlr; simp at hlr
            simp only [chunkedS]
            rw [if_neg hne, ← hnd]
            simp only [chunk1, List.append_assoc]
        · have hnil : rest = [] := List.eq_nil_of_length_eq_zero (by omega)
          subst hnil
          repeat' (first | (first | (with_reducible refine p_tn ?_) | (with_reducible refine p_tx ?_) | (with_reducible refine x_hit ?_) | (with_reducible refine wp_seq ?_) | (with_reducible refine w_reg ?_) | (with_reducible (refine is_if ?_; (refine w_iff rfl ?_))) | (with_reducible refine wp_exit ?_)) | (with_reducible refine l_nil ?_))
          (with_reducible refine is_l ?_); refine l_callv rfl rfl (by kernel_rfl) (bufS_c hI hB.size _ (by show _ + 5 ≤ _; simp at hbd; omega)) (fun w_ K => ?_)
          obtain ⟨hI, K⟩ := K
          have hB := hB.trans K
          have e4 : bl (⟨#[48, 13, 10, 13, 10]⟩ : ByteArray) = [48, 13, 10, 13, 10] := rfl
          rw [e4] at hI
          obtain ⟨f2, rfl⟩ : ∃ f2, f' = f2 + 1 := ⟨f' - 1, by omega⟩
          have hfin : chunkedS (body.length + 1) size.toNat body = out ++ [48, 13, 10, 13, 10] := by
            rw [hS]
            simp [chunkedS]
          rw [← hfin] at hI
          repeat' (first | (first | (with_reducible refine p_tn ?_) | (with_reducible refine wp_seq ?_) | (with_reducible refine w_reg ?_)) | (with_reducible refine l_nil ?_))
          (with_reducible refine is_l ?_); refine l_call rfl rfl (by kernel_rfl) (Tryz.Buffer_Bytes w.heap.size gB _ _ hI) (fun e w_ hR => ?_)
          obtain ⟨v, rfl, hO, kk, hK⟩ := hR
          have hB2 : Below w.heap.size w w_ := by
            rw [hK]
            exact hB.trans ⟨rfl, rfl, rfl, by simp, fun k hk => by simp⟩
          have hlen : (nums .u8 (chunkedS (body.length + 1) size.toNat body)).length = (chunkedS (body.length + 1) size.toNat body).length := by simp [nums]
          rw [hlen] at hO
          obtain ⟨A', c', rfl⟩ := own_slice hO
          refine ⟨_, rfl, ?_⟩
          repeat' (first | (first | (with_reducible refine p_tn ?_) | (with_reducible refine wp_ret ?_)) | (first | (with_reducible refine l_nil ?_) | ((with_reducible refine g_on ?_); ((with_reducible refine g_as ?_); refine l_p txs rfl rfl ?_))))
          refine end2 rfl rfl rfl ?_
          unfold ChR
          rw [if_neg (by omega), if_neg (by omega)]
          exact ⟨A', c', rfl, Hp.ofOwn hO hB2⟩
end Go.Proofs.YthgojbdpmcccaaaGreatDoor.K
end
section
namespace Go.Proofs.YthgojbdpmcccaaaGreatDoor.K
open Go.RowKit Go.Proofs.YthgojbdpmcccaaaGreatDoor.Q Go.Proofs.YthgojbdpmcccaaaGreatDoor.Wb Go.Proofs.YthgojbdpmcccaaaGreatDoorW.PrintWords
set_option linter.unusedVariables false
set_option linter.unusedSimpArgs false
/-- What is answered, an error as a number. -/
def outUn (b : L) : L × Nat × Nat := match unchunkS b with | .ok (x, n) => (x, n, 0) | .error k => ([], 0, k)
def UcR (w : World) (b : L) (e : Ending) (w' : World) : Prop := ∃ A c, e = .returned (.tuple #[.slice A (outUn b).1.length c, .int .i64 ((outUn b).2.1 : Int), .int .i64 ((outUn b).2.2 : Int)]) ∧ Hp w w' [] [rowB (.slice A (outUn b).1.length c) (outUn b).1]
set_option maxHeartbeats 4000000 in
theorem Unchunk_c {A : Nat → Addr} {w : World} (hE : LayS A w) {mx : Int} (hM : w.cell? ⟨20, 0, none⟩ = some (.int .i64 mx)) {B : Option Addr} {c : Nat} {b : L}
    (h : ReadsInt w .u8 B b.length b) (hc : b.length ≤ c) (hn : B = none → c = 0 ∧ b.length = 0) (hb : Bytes b) (hs : b.length ≤ 100000000) :
    Calls Tryz.prog 25 #[.slice B b.length c] w (UcR w b) := by
  refine enter (args := [.slice B b.length c]) Tryz.func25 rfl Tryz.ntmps25 rfl ?_
  have H := Hp.nil w
  repeat' (first | (first | (with_reducible refine p_tn ?_) | (with_reducible refine wp_seq ?_) | (with_reducible refine w_reg ?_)) | (first | (with_reducible refine l_nil ?_) | ((with_reducible refine g_on ?_); (first | ((with_reducible refine g_mv ?_); refine l_p txs rfl rfl ?_) | ((with_reducible refine g_as ?_); refine l_p txs rfl rfl ?_)))))
  have hcu := unchunk_c (hE.below H.B) (H.old hM) (h.below H.B) hc hn hb hs
  (with_reducible refine is_l ?_); refine l_call rfl rfl (by kernel_rfl) hcu (fun e w_ hR => ?_)
  obtain ⟨K, hu⟩ := hR
  unfold UcR outUn
  cases hun : unchunkS b with
  | error k =>
    rw [hun] at hu
    simp only at hu
    subst hu
    refine ⟨_, rfl, ?_⟩
    have H := H.call K
    have hk : ∃ g, 2 ≤ g ∧ g ≤ 13 ∧ codeE g = (k : Int) ∧ errU A k = errV (A g) := by
      rcases un_errs hun with rfl | rfl | rfl
      · exact ⟨4, by decide, by decide, rfl, rfl⟩
      · exact ⟨5, by decide, by decide, rfl, rfl⟩
      · exact ⟨11, by decide, by decide, rfl, rfl⟩
    obtain ⟨g, g2, g13, hcd, hek⟩ := hk
    rw [hek]
    repeat' (first | (first | (with_reducible refine p_tn ?_) | (with_reducible refine wp_seq ?_) | (with_reducible refine w_reg ?_)) | (first | (with_reducible refine l_nil ?_) | ((with_reducible refine g_on ?_); (first | ((with_reducible refine g_mv ?_); refine l_p txs rfl rfl ?_) | ((with_reducible refine g_as ?_); refine l_p txs rfl rfl ?_) | ((with_reducible refine g_ex ?_); refine l_p txs rfl rfl ?_)))))
    (with_reducible refine is_l ?_); refine l_t txs rfl rfl (fun _ => ?_) (fun hh => absurd trivial hh)
    repeat' (first | (first | (with_reducible refine p_tn ?_) | (with_reducible refine wp_seq ?_) | (with_reducible refine w_reg ?_) | (with_reducible (refine is_if ?_; (refine w_ift rfl ?_)))) | (first | (with_reducible refine l_nil ?_) | ((with_reducible refine g_on ?_); ((with_reducible refine g_mv ?_); refine l_p txs rfl rfl ?_))))
    (with_reducible refine is_l ?_); refine l_callv rfl rfl (by kernel_rfl) (errOf_c (hE.below H.B) ⟨g, g2, g13, hcd, .inl rfl⟩) (fun w_ K => ?_)
    have H := (H.call K).nilRow 5 1
    repeat' (first | (first | (with_reducible refine p_tn ?_) | (with_reducible refine p_tr ?_) | (with_reducible refine wp_ret ?_)) | (first | (with_reducible refine l_nil ?_) | ((with_reducible refine g_on ?_); ((with_reducible refine g_as ?_); refine l_p txs rfl rfl ?_))))
    refine end3 rfl rfl rfl rfl ?_
    exact ⟨none, 0, rfl, H⟩
  | ok z =>
    obtain ⟨x, m⟩ := z
    rw [hun] at hu
    simp only at hu
    obtain ⟨A1, c1, rfl, hO, hle⟩ := hu
    refine ⟨_, rfl, ?_⟩
    repeat' (first | (first | (with_reducible refine p_tn ?_) | (with_reducible refine wp_seq ?_) | (with_reducible refine w_reg ?_)) | (first | (with_reducible refine l_nil ?_) | ((with_reducible refine g_on ?_); (first | ((with_reducible refine g_mv ?_); refine l_p txs rfl rfl ?_) | ((with_reducible refine g_as ?_); refine l_p txs rfl rfl ?_) | ((with_reducible refine g_ex ?_); refine l_p txs rfl rfl ?_)))))
    (with_reducible refine is_l ?_); refine l_t txs rfl rfl (fun hh => absurd hh (by simp)) (fun _ => ?_)
    repeat' (first | (first | (with_reducible refine p_tn ?_) | (with_reducible refine wp_seq ?_) | (with_reducible refine w_reg ?_) | (with_reducible (refine is_if ?_; (refine w_iff rfl ?_))) | (with_reducible refine wp_skip ?_) | (with_reducible refine wp_ret ?_)) | (first | (with_reducible refine l_nil ?_) | ((with_reducible refine g_on ?_); (first | ((with_reducible refine g_mv ?_); refine l_p txs rfl rfl ?_) | ((with_reducible refine g_as ?_); refine l_p txs rfl rfl ?_)))))
    refine end3 rfl rfl rfl rfl ?_
    exact ⟨A1, c1, rfl, Hp.ofOwn hO K⟩
end Go.Proofs.YthgojbdpmcccaaaGreatDoor.K
end
section
namespace Go.Proofs.YthgojbdpmcccaaaGreatDoor.Q
open Go.RowKit Go.Proofs.YthgojbdpmcccaaaGreatDoorW.PrintWords Go.Proofs.YthgojbdpmcccaaaGreatDoorW.PrintLast
set_option linter.unusedVariables false
set_option linter.unusedSimpArgs false
/-- A block that H does not hold is turned. -/
theorem Hp.other {w0 w w' : World} {l : List Ent} {r : List RowD} (H : Hp w0 w l r) {g : Nat} (hg : w.grownBy w' (some g)) (hge : w0.heap.size ≤ g) (hl : ∀ (i : Nat) (p : Ent), l[i]? = some p → p.1 ≠ g) (hr : ∀ (i : Nat) (d : RowD), r[i]? = some d → d.v.ownBlock ≠ some g) : Hp w0 w' l r := by
  refine ⟨H.B.grown hg H.B.size (fun b e => by cases e; exact hge), fun i p h => ⟨(H.blk i p h).1, blk_grown (H.blk i p h).2 hg (fun e => hl i p h (Option.some.inj e))⟩, fun i d h => ?_, H.ndl, H.ndr, H.ndm⟩
  refine own_other (H.row i d h) hg ?_
  cases e : d.v.ownBlock with
  | none => exact .inl rfl
  | some b => exact .inr (fun e2 => hr i d h (by rw [e, e2]))
section
variable {P : Program} {w : World}
theorem run_append_mark (t ty e : TypeId) (i : TypeInfo) (ht : P.underlying t = some (.slice e)) (hi : P.info? e = some i) (hs1 : i.size = 1) (g n c : Nat) (cur : Array Value) (hg : w.heap[g]? = some (.cells cur e (c, c + 1))) (hsz : cur.size = c)
    (a : Addr) (m c2 : Nat) (news : List Value) (hl : news.length = m) (hnews : ∀ j u, news[j]? = some u → w.cell? (a.add j) = some u) (h1 : ∀ u ∈ news, u.oneCell' = true) (hroom : n + m ≤ c) :
    (Builtin.append_ #[t, t] ty #[.slice (some ⟨g, 0, none⟩) n c, .slice (some a) m c2]).run P w = .ok (.slice (some ⟨g, 0, none⟩) (n + m) c) (w.setCells g n news) := by
  have hf := run_firstCells_some (P := P) w i.size m a m c2 news (by rw [hs1, hl, Nat.mul_one]) hnews
  have hst := run_storeCells_cells (P := P) g n news 0 w (fun j hj => by
    simp [World.cell?, hg]
    omega) (fun j hj => by
    simp [World.frozen?, hg]
    omega) h1
  simp only [Nat.add_zero] at hst
  rw [hs1] at hf
  simp [Builtin.append_, run_underlying ht, sizeOf, typeInfo, hi, hs1, Builtin.lenOf, hroom, hf, Addr.add_lit, hst]
theorem blk_setM {g : Nat} {t : TypeId} {fr : Nat × Nat} {cs : Array Value} (h : w.heap[g]? = some (.cells cs t fr)) (o : Nat) (v : Value) : (w.setCell ⟨g, o, none⟩ v).heap[g]? = some (.cells (cs.setIfInBounds o v) t fr) := by
  simp [World.setCell, Array.getElem?_modify, h]
theorem heap_setM {g : Nat} {t : TypeId} {fr : Nat × Nat} : ∀ (vs : List Value) (o : Nat) (w : World) (cur : List Value), w.heap[g]? = some (.cells cur.toArray t fr) → o + vs.length ≤ cur.length → (w.setCells g o vs).heap[g]? = some (.cells (cur.take o ++ vs ++ cur.drop (o + vs.length)).toArray t fr)
  | [], o, w, cur, h, _ => by simpa [World.setCells] using h
  | v :: vs, o, w, cur, h, hl => by
    have h1 : (w.setCell ⟨g, o, none⟩ v).heap[g]? = some (.cells (cur.set o v).toArray t fr) := by
      have := blk_setM h o v
      rw [this]; simp
    have h2 := heap_setM vs (o + 1) _ (cur.set o v) h1 (by simp at hl ⊢; omega)
    show ((w.setCell ⟨g, o, none⟩ v).setCells g (o + 1) vs).heap[g]? = _
    rw [h2]
    have hol : o < cur.length := by simp at hl; omega
    have e1 : (cur.set o v).take (o + 1) = cur.take o ++ [v] := by
      rw [List.take_set, List.take_succ_eq_append_getElem hol, List.set_append_right _ _ (by simp; omega)]
      simp [Nat.min_eq_left (Nat.le_of_lt hol)]
    have e2 : (cur.set o v).drop (o + 1 + vs.length) = cur.drop (o + (v :: vs).length) := by
      rw [List.drop_set_of_lt (by omega)]
      congr 1
      simp; omega
    rw [e1, e2]
    simp
theorem l_appM {n : Nat} {ops : Array Oper} {Q : Exit → Act → World → Prop} {rest : List Oper} {f : Fr} {d : Option Nat} {tt : TypeId} {ps : String} {af : Array Edge} {op : Op} {w0 : World} {l : List Ent} {r : List RowD} (H : Hp w0 w l r) {t e : TypeId} {g c m c2 : Nat} {cur : Array Value} {xs ys : List Int} {A : Option Addr}
    (hinfo : (P.info? e).map (fun i => (i.zero, i.size, i.bytes)) = some (some (.int .u8 0), 1, 1)) (hu : P.underlying t = some (.slice e)) (hg : w.heap[g]? = some (.cells cur e (c, c + 1))) (hsz : cur.size = c) (hnc : xs.length ≤ c) (htake : cur.toList.take xs.length = nums .u8 xs) (hge : w0.heap.size ≤ g) (hl : ∀ (i : Nat) (p : Ent), l[i]? = some p → p.1 ≠ g) (hr : ∀ (i : Nat) (d : RowD), r[i]? = some d → d.v.ownBlock ≠ some g)
    (he : evApp n f op = some (t, .slice (some ⟨g, 0, none⟩) xs.length c, .slice A m c2)) (HR : Rd w A (nums .u8 ys)) (hm : ys.length = m) (hb : xs.length + m ≤ 140737488355328)
    (h : ∀ A' c' w', Hp w0 w' l r → xs.length + m ≤ c' → A' ≠ none → Rd w' A' (nums .u8 (xs ++ ys)) → WL P ops Q rest (act n (put f d (.slice A' (xs.length + m) c'))) w') : WL P ops Q (⟨d, op, tt, ps, af, none⟩ :: rest) (act n f) w := by
  obtain ⟨i0, hi, hzz⟩ := Option.map_eq_some_iff.1 hinfo
  simp only [Prod.mk.injEq] at hzz
  obtain ⟨hz0, hz1, hz2⟩ := hzz
  have hone : ∀ (l : List Int), ∀ v ∈ nums .u8 l, v.oneCell' = true := fun l v hv => by
    obtain ⟨m, _, rfl⟩ := List.mem_map.1 hv
    rfl
  have hxl : (nums .u8 xs).length = xs.length := by simp [nums]
  have hyl : (nums .u8 ys).length = ys.length := by simp [nums]
  have hcell : ∀ (j : Nat) (u : Value), (nums .u8 xs)[j]? = some u → w.cell? ((⟨g, 0, none⟩ : Addr).add j) = some u := by
    intro j u hj
    have hlt : j < xs.length := by rw [← hxl]; exact (List.getElem?_eq_some_iff.1 hj).1
    rw [← htake, List.getElem?_take_of_lt hlt] at hj
    rw [add_lit, Nat.zero_add]
    simp [World.cell?, hg]
    simpa using hj
  have hrun : ∃ A' c' w1, (Builtin.append_ #[t, t] tt #[.slice (some ⟨g, 0, none⟩) xs.length c, .slice A m c2]).run P w = .ok (.slice A' (xs.length + m) c') w1 ∧ Hp w0 w1 l r ∧ xs.length + m ≤ c' ∧ A' ≠ none ∧ Rd w1 A' (nums .u8 (xs ++ ys)) := by
    rcases A with _ | ad
    · have hy0 : ys = [] := by have := HR.1 rfl; simpa [nums] using this
      subst hy0
      simp only [List.length_nil] at hm
      subst hm
      refine ⟨some ⟨g, 0, none⟩, c, w, ?_, H, by omega, by simp, fun h => (by cases h), fun a ha j v hv => ?_⟩
      · simp [Builtin.append_, run_underlying hu, sizeOf, typeInfo, hi, Builtin.lenOf, Builtin.firstCells, hnc, storeCells]
      · injection ha with ha
        subst ha
        rw [List.append_nil] at hv
        exact hcell j v hv
    · by_cases hroom : xs.length + m ≤ c
      · have hrn := run_append_mark (P := P) t tt e i0 hu hi hz1 g xs.length c cur hg hsz ad m c2 (nums .u8 ys) (by rw [hyl, hm]) (fun j u hj => HR.2 ad rfl j u hj) (hone ys) hroom
        have hh := heap_setM (nums .u8 ys) xs.length w cur.toList (by rw [Array.toArray_toList]; exact hg) (by have e := Array.length_toList (xs := cur); omega)
        refine ⟨some ⟨g, 0, none⟩, c, _, hrn, H.other (grown_setCells _ _ _) hge hl hr, hroom, by simp, fun h => (by cases h), fun a ha j v hv => ?_⟩
        injection ha with ha
        subst ha
        rw [add_lit, Nat.zero_add]
        have hlj : j < (nums .u8 (xs ++ ys)).length := (List.getElem?_eq_some_iff.1 hv).1
        have e1 : (cur.toList.take xs.length ++ nums .u8 ys ++ cur.toList.drop (xs.length + (nums .u8 ys).length))[j]? = some v := by
          rw [htake, ← nums_append, List.getElem?_append_left hlj]
          exact hv
        simp only [World.cell?, hh]
        simpa using e1
      · have hrn := run_append_grow (P := P) w t tt e i0 (.int .u8 0) hu hi hz0 ⟨g, 0, none⟩ xs.length c (nums .u8 xs) (by rw [hz1, hxl, Nat.mul_one]) hcell ad m c2 (nums .u8 ys) (by rw [hz1, hyl, hm, Nat.mul_one]) (fun j u hj => HR.2 ad rfl j u hj) (by omega) (by omega) (by rw [hz2]; exact growslice_fits (by omega) (by omega))
        have hge2 := grownCap_ge w (xs.length + m) c e
        have K := H.drew.push e ((nums .u8 xs).toArray ++ (nums .u8 ys).toArray ++ Builtin.zeroCells (Value.int .u8 0).cells (grownCap w (xs.length + m) c e - (xs.length + m))).toList
        rw [Array.toArray_toList] at K
        refine ⟨some ⟨w.heap.size, 0, none⟩, _, _, hrn, ⟨K.B, fun i q h => K.blk (i + 1) q h, K.row, fun i j p q h1 h2 hne => K.ndl (i + 1) (j + 1) p q h1 h2 (by omega), K.ndr, fun i j p d h1 h2 => K.ndm (i + 1) j p d h1 h2⟩, hge2, by simp, fun h => (by cases h), fun a ha j v hv => ?_⟩
        injection ha with ha
        subst ha
        rw [add_lit, Nat.zero_add]
        have hh := (K.blk 0 _ rfl).2
        simp only at hh
        have hlj : j < (nums .u8 (xs ++ ys)).length := (List.getElem?_eq_some_iff.1 hv).1
        rw [nums_append] at hv hlj
        have hsz2 : w.drew.heap.size = w.heap.size := rfl
        rw [hsz2] at hh
        have e1 : (nums .u8 xs ++ nums .u8 ys ++ (Builtin.zeroCells (Value.int .u8 0).cells (grownCap w (xs.length + m) c e - (xs.length + m))).toList)[j]? = some v := by
          rw [List.getElem?_append_left hlj]
          exact hv
        simp only [World.cell?, hh]
        simpa using e1
  obtain ⟨A', c', w1, hrr, H1, hle, hne, hrd⟩ := hrun
  unfold evApp at he
  split at he
  · rename_i cc
    split at he
    · rename_i x y t1 t2 h2 h3 h4
      by_cases ht : t1 = t2
      · subst ht
        simp only [Nat.beq_refl, cond_true, Option.some.injEq, Prod.mk.injEq] at he
        obtain ⟨rfl, he1, he2⟩ := he
        have hargs : cc.args = #[x, y] := by rw [← Array.toList_inj]; exact h3
        have htys : cc.argTypes = #[t1, t1] := by rw [← Array.toList_inj]; exact h4
        have ho : Op.call cc = .call { callee := .builtin .append, args := #[x, y], argTypes := #[t1, t1] } := by
          cases cc
          simp_all
        rw [ho]
        refine ⟨?_⟩
        refine wpList_plain rfl fun K hK => ?_
        unfold Oper.wp execOp
        rw [eval_act]
        simp only [resolve, invoke, builtin, Sem.run_bind, Sem.run_pure, Result.andThen_ok, List.map_toArray, List.map_cons, List.map_nil, he1, he2, hrr]
        refine hK _ _ ?_
        rw [put_act]
        exact (h A' c' w1 H1 hle hne hrd).out
      · exfalso
        have : Nat.beq t1 t2 = false := by rw [Bool.eq_false_iff]; intro hb; exact ht (Nat.eq_of_beq_eq_true hb)
        simp [this] at he
    · cases he
  · cases he
end
end Go.Proofs.YthgojbdpmcccaaaGreatDoor.Q
end
section
namespace Go.Proofs.YthgojbdpmcccaaaGreatDoor.K
open Go.RowKit Go.Proofs.YthgojbdpmcccaaaGreatDoor.Q Go.Proofs.YthgojbdpmcccaaaGreatDoor.Wb Go.Proofs.YthgojbdpmcccaaaGreatDoorW.PrintWords
set_option linter.unusedVariables false
set_option linter.unusedSimpArgs false
theorem quo2000 (k : Nat) (w : World) (hk : k ≤ 1000000000) : (binOp .quo 3 (.int .i64 (k : Int)) (.int .i64 2000)).run Tryz.prog w = .ok (.int .i64 ((k / 2000 : Nat) : Int)) w := by
  rw [binOp_quo]
  have h1 : (k : Int).tdiv 2000 = ((k / 2000 : Nat) : Int) := by rw [Int.tdiv_eq_ediv_of_nonneg (by omega)]; omega
  have h2 : IntKind.i64.wrap ((k / 2000 : Nat) : Int) = ((k / 2000 : Nat) : Int) := by rw [IntKind.wrap_i64]; omega
  simp [Op.intDiv, h1]
  exact h2
theorem chunked_le : ∀ (f size : Nat) (b : L), 0 < size → size ≤ 65536 → b.length < f → 5 ≤ (chunkedS f size b).length ∧ (chunkedS f size b).length ≤ 5 + 13 * b.length
  | 0, _, _, _, _, h => by omega
  | f + 1, size, b, h0, h1, h => by
    rw [chunkedS]
    by_cases hb : b = []
    · rw [if_pos hb]; simp
    · rw [if_neg hb]
      have hl : 0 < b.length := List.length_pos_iff.2 hb
      have hx := hexS_len (n := min size b.length) (by omega)
      have ih := chunked_le f size (b.drop (min size b.length)) h0 h1 (by rw [List.length_drop]; omega)
      rw [List.length_drop] at ih
      simp only [chunk1, List.length_append, List.length_cons, List.length_nil, List.length_take]
      omega
theorem chunked_bytes : ∀ (f size : Nat) (b : L), Bytes b → Bytes (chunkedS f size b)
  | 0, _, _, _ => by intro x hx; simp [chunkedS] at hx
  | f + 1, size, b, hb => by
    rw [chunkedS]
    split
    · intro x hx; simp at hx; omega
    · have ih := chunked_bytes f size (b.drop (min size b.length)) (fun x hx => hb x (List.mem_of_mem_drop hx))
      intro x hx
      simp only [chunk1, List.mem_append] at hx
      rcases hx with (((hx | hx) | hx) | hx) | hx
      · exact hexS_bytes _ x hx
      · simp at hx; omega
      · exact hb x (List.mem_of_mem_take hx)
      · simp at hx; omega
      · exact ih x hx
def hdB : ByteArray := ⟨#[80, 79, 83, 84, 32, 47, 32, 72, 84, 84, 80, 47, 49, 46, 49, 13, 10, 72, 111, 115, 116, 58, 32, 97, 13, 10, 84, 114, 97, 110, 115, 102, 101, 114, 45, 69, 110, 99, 111, 100, 105, 110, 103, 58, 32, 99, 104, 117, 110, 107, 101, 100, 13, 10, 13, 10]⟩
theorem hd_bl : bl hdB = chunkHead := rfl
/-- A text's bytes in a block of their own: what append asks of it. -/
theorem mark_facts (w_ : World) (s : ByteArray) (hs : s.size ≤ 1000000000) : (Lib.bytesWorld w_ 5 s).heap[w_.heap.size]? = some (.cells (Lib.bytesCells w_ 5 s) 5 (grownCap w_ s.size 0 5, grownCap w_ s.size 0 5 + 1)) ∧ (Lib.bytesCells w_ 5 s).size = grownCap w_ s.size 0 5 ∧ s.size ≤ grownCap w_ s.size 0 5 ∧ grownCap w_ s.size 0 5 ≤ maxLen ∧ (Lib.bytesCells w_ 5 s).toList.take (bl s).length = nums .u8 (bl s) := by
  have hge := grownCap_ge w_ s.size 0 5
  have hcs : (Lib.bytesCells w_ 5 s).size = grownCap w_ s.size 0 5 := by
    unfold Lib.bytesCells
    simp only [Array.size_append, Array.size_map, Array.size_replicate]
    show s.size + _ = _
    omega
  refine ⟨?_, hcs, by omega, grownCap_le_maxLen _ _ _ _ (by simp only [maxLen]; omega), ?_⟩
  · have := Lib.bytesWorld_at_new w_ 5 s
    rw [hcs] at this
    exact this
  · have hcells : nums .u8 (bl s) = Lib.byteCells s.data.toList := by simp [nums, bl, Lib.byteCells]
    have hlenC : (bl s).length = (Lib.byteCells s.data.toList).length := by simp [bl, Lib.byteCells]
    unfold Lib.bytesCells
    rw [hcells, Array.toList_append, hlenC]
    have : (Lib.byteCells s.data.toList).length = (s.data.map fun b => Value.int .u8 (b.toNat : Int)).toList.length := by simp [Lib.byteCells]
    rw [this, List.take_left]
    simp [Lib.byteCells]
set_option maxRecDepth 100000 in
set_option maxHeartbeats 16000000 in
theorem chunks_c {A : Nat → Addr} {w : World} (hE : LayS A w) {mx : Int} (hM : w.cell? ⟨20, 0, none⟩ = some (.int .i64 mx)) {tM : TypeId} {frM : Nat × Nat} (hT : w.heap[17]? = some (.cells meC tM frM)) (hz : w.cell? ⟨22, 15, none⟩ = some (.int .u8 4))
    {B1 B2 : Option Addr} {k1 k2 : Nat} {b t : L} (h1 : ReadsInt w .u8 B1 b.length b) (hc1 : b.length ≤ k1) (hb1 : Bytes b) (hs1 : b.length ≤ 10000000) (size : Int) (h2 : ReadsInt w .u8 B2 t.length t) (hb2 : Bytes t) (hs2 : t.length ≤ 10000000) :
    Calls Tryz.prog 6 #[.slice B1 b.length k1, .int .i64 size, .slice B2 t.length k2] w fun e w' => e = .returned (.bool true) ∧ Below w.heap.size w w' := by
  have hTb : ∀ w1, Below w.heap.size w w1 → w1.heap[17]? = some (.cells meC tM frM) := fun w1 K => (K.block _ (blk_lt hT)).trans hT
  refine enter (args := [.slice B1 b.length k1, .int .i64 size, .slice B2 t.length k2]) Tryz.func6 rfl Tryz.ntmps6 rfl ?_
  have H := Hp.nil w
  repeat' (first | (first | (with_reducible refine p_tn ?_) | (with_reducible refine wp_seq ?_) | (with_reducible refine w_reg ?_)) | (first | (with_reducible refine l_nil ?_) | ((with_reducible refine g_on ?_); (first | ((with_reducible refine g_mv ?_); refine l_p txs rfl rfl ?_) | ((with_reducible refine g_as ?_); refine l_p txs rfl rfl ?_) | ((with_reducible refine g_cl ?_); refine l_p txs rfl rfl ?_)))))
  (with_reducible refine is_l ?_); refine l_t txs rfl rfl (fun h3 => ?_) (fun h3 => ?_)
  · repeat' (first | (first | (with_reducible refine p_tn ?_) | (with_reducible refine wp_seq ?_) | (with_reducible refine w_reg ?_) | (with_reducible (refine is_if ?_; (refine w_ift rfl ?_)))) | (first | (with_reducible refine l_nil ?_) | ((with_reducible refine g_on ?_); (first | ((with_reducible refine g_mv ?_); refine l_p txs rfl rfl ?_) | ((with_reducible refine g_pk ?_); refine l_p txs rfl rfl ?_) | ((with_reducible refine g_cl ?_); refine l_p txs rfl rfl ?_))) | ((with_reducible refine g_if ?_); (refine l_off rfl ?_))))
    (with_reducible refine is_l ?_); refine l_t txs rfl rfl (fun _ => ?_) (fun hh => absurd h3 hh)
    repeat' (first | (first | (with_reducible refine p_tn ?_) | (with_reducible refine p_tr ?_) | (with_reducible refine wp_ret ?_)) | (first | (with_reducible refine l_nil ?_) | ((with_reducible refine g_on ?_); ((with_reducible refine g_as ?_); refine l_p txs rfl rfl ?_))))
    refine end1 rfl rfl ?_
    exact ⟨rfl, H.B⟩
  repeat' ((with_reducible refine g_on ?_); ((with_reducible refine g_mv ?_); refine l_p txs rfl rfl ?_))
  (with_reducible refine is_l ?_); refine l_callv rfl rfl (by kernel_rfl) (known_c (hE.below H.B) (H.old hM) (hTb _ H.B)) (fun w_ K => ?_)
  have H := H.call K
  repeat' (first | (first | (with_reducible refine p_tn ?_) | (with_reducible refine wp_seq ?_) | (with_reducible refine w_reg ?_) | (with_reducible (refine is_if ?_; (refine w_iff rfl ?_))) | (with_reducible refine wp_skip ?_)) | (first | (with_reducible refine l_nil ?_) | ((with_reducible refine g_on ?_); (first | ((with_reducible refine g_mv ?_); refine l_p txs rfl rfl ?_) | ((with_reducible refine g_pk ?_); refine l_p txs rfl rfl ?_))) | ((with_reducible refine g_if ?_); ((with_reducible refine g_un ?_); (refine l_p txs rfl rfl ?_)))))
  have hch := Chunked_c (H.old hz) (h1.below H.B) hc1 hb1 (by omega) size
  (with_reducible refine is_l ?_); refine l_call rfl rfl (by kernel_rfl) hch (fun e w_ hR => ?_)
  unfold ChR at hR
  by_cases hsz : size < 1 ∨ 65536 < size
  · rw [if_pos hsz] at hR
    obtain ⟨rfl, K⟩ := hR
    refine ⟨_, rfl, ?_⟩
    have H := H.call K
    repeat' (first | (first | (with_reducible refine p_tn ?_) | (with_reducible refine wp_seq ?_) | (with_reducible refine w_reg ?_)) | (first | (with_reducible refine l_nil ?_) | ((with_reducible refine g_on ?_); (first | ((with_reducible refine g_mv ?_); refine l_p txs rfl rfl ?_) | ((with_reducible refine g_as ?_); refine l_p txs rfl rfl ?_) | ((with_reducible refine g_ex ?_); refine l_p txs rfl rfl ?_)))))
    (with_reducible refine is_l ?_); refine l_t txs rfl rfl (fun h4 => ?_) (fun h4 => ?_)
    · repeat' (first | (first | (with_reducible refine p_tn ?_) | (with_reducible refine wp_seq ?_) | (with_reducible refine w_reg ?_) | (with_reducible (refine is_if ?_; (refine w_ift rfl ?_)))) | (first | (with_reducible refine l_nil ?_) | ((with_reducible refine g_on ?_); (first | ((with_reducible refine g_mv ?_); refine l_p txs rfl rfl ?_) | ((with_reducible refine g_pk ?_); refine l_p txs rfl rfl ?_))) | ((with_reducible refine g_if ?_); (refine l_off rfl ?_))))
      (with_reducible refine is_l ?_); refine l_t txs rfl rfl (fun _ => ?_) (fun hh => absurd rfl hh)
      repeat' (first | ((with_reducible refine g_on ?_); ((with_reducible refine g_mv ?_); refine l_p txs rfl rfl ?_)) | ((with_reducible refine g_if ?_); (first | ((with_reducible refine g_mv ?_); refine l_p txs rfl rfl ?_) | ((with_reducible refine g_cl ?_); refine l_p txs rfl rfl ?_))))
      (with_reducible refine is_l ?_); refine l_t txs rfl rfl (fun _ => ?_) (fun hh => absurd rfl hh)
      repeat' (first | (first | (with_reducible refine p_tn ?_) | (with_reducible refine p_tr ?_) | (with_reducible refine wp_ret ?_)) | (first | (with_reducible refine l_nil ?_) | ((with_reducible refine g_on ?_); (first | ((with_reducible refine g_as ?_); refine l_p txs rfl rfl ?_) | ((with_reducible refine g_pk ?_); refine l_p txs rfl rfl ?_)))))
      refine end1 rfl rfl ?_
      exact ⟨rfl, H.B⟩
    · repeat' (first | ((with_reducible refine g_on ?_); ((with_reducible refine g_mv ?_); refine l_p txs rfl rfl ?_)) | ((with_reducible refine g_if ?_); ((with_reducible refine g_mv ?_); refine l_p txs rfl rfl ?_)))
      (with_reducible refine is_l ?_); refine l_t txs rfl rfl (fun _ => ?_) (fun hh => absurd (by omega) hh)
      repeat' (first | (first | (with_reducible refine p_tn ?_) | (with_reducible refine wp_seq ?_) | (with_reducible refine w_reg ?_) | (with_reducible (refine is_if ?_; (refine w_ift rfl ?_)))) | (first | (with_reducible refine l_nil ?_) | ((with_reducible refine g_on ?_); (first | ((with_reducible refine g_mv ?_); refine l_p txs rfl rfl ?_) | ((with_reducible refine g_pk ?_); refine l_p txs rfl rfl ?_)))))
      (with_reducible refine is_l ?_); refine l_t txs rfl rfl (fun _ => ?_) (fun hh => absurd rfl hh)
      repeat' (first | ((with_reducible refine g_on ?_); ((with_reducible refine g_mv ?_); refine l_p txs rfl rfl ?_)) | ((with_reducible refine g_if ?_); (first | ((with_reducible refine g_mv ?_); refine l_p txs rfl rfl ?_) | ((with_reducible refine g_cl ?_); refine l_p txs rfl rfl ?_))))
      (with_reducible refine is_l ?_); refine l_t txs rfl rfl (fun _ => ?_) (fun hh => absurd rfl hh)
      repeat' (first | (first | (with_reducible refine p_tn ?_) | (with_reducible refine p_tr ?_) | (with_reducible refine wp_ret ?_)) | (first | (with_reducible refine l_nil ?_) | ((with_reducible refine g_on ?_); (first | ((with_reducible refine g_as ?_); refine l_p txs rfl rfl ?_) | ((with_reducible refine g_pk ?_); refine l_p txs rfl rfl ?_)))))
      refine end1 rfl rfl ?_
      exact ⟨rfl, H.B⟩
  · rw [if_neg hsz, if_neg (by omega)] at hR
    obtain ⟨C1, c1, rfl, K⟩ := hR
    refine ⟨_, rfl, ?_⟩
    have H := H.join K
    have hX := chunked_le (b.length + 1) size.toNat b (by omega) (by omega) (by omega)
    have hXb := chunked_bytes (b.length + 1) size.toNat b hb1
    have hXu := fun tl => unchunk_back (f := b.length + 1) (size := size.toNat) (body := b) tl (by omega) (by omega) (by omega) (by omega)
    generalize chunkedS (b.length + 1) size.toNat b = X at H hX hXb hXu ⊢
    repeat' (first | (first | (with_reducible refine p_tn ?_) | (with_reducible refine wp_seq ?_) | (with_reducible refine w_reg ?_)) | (first | (with_reducible refine l_nil ?_) | ((with_reducible refine g_on ?_); (first | ((with_reducible refine g_mv ?_); refine l_p txs rfl rfl ?_) | ((with_reducible refine g_as ?_); refine l_p txs rfl rfl ?_) | ((with_reducible refine g_ex ?_); refine l_p txs rfl rfl ?_)))))
    (with_reducible refine is_l ?_); refine l_t txs rfl rfl (fun hh => absurd (.inl (by omega)) hsz) (fun _ => ?_)
    repeat' (first | ((with_reducible refine g_on ?_); ((with_reducible refine g_mv ?_); refine l_p txs rfl rfl ?_)) | ((with_reducible refine g_if ?_); ((with_reducible refine g_mv ?_); refine l_p txs rfl rfl ?_)))
    (with_reducible refine is_l ?_); refine l_t txs rfl rfl (fun hh => absurd (.inr (by omega)) hsz) (fun _ => ?_)
    repeat' (first | (first | (with_reducible refine p_tn ?_) | (with_reducible refine wp_seq ?_) | (with_reducible refine w_reg ?_) | (with_reducible (refine is_if ?_; (refine w_iff rfl ?_))) | (with_reducible refine wp_skip ?_)) | (first | (with_reducible refine l_nil ?_) | ((with_reducible refine g_on ?_); (first | ((with_reducible refine g_mv ?_); refine l_p txs rfl rfl ?_) | ((with_reducible refine g_pk ?_); refine l_p txs rfl rfl ?_)))))
    obtain ⟨rc, rc2, rc3⟩ := rowB_rd H 0 (F := C1) (f := c1) (x := X) rfl
    (with_reducible refine is_l ?_); refine l_call rfl rfl (by kernel_rfl) (padded_c rc 0 (by omega)) (fun e w_ hR => ?_)
    obtain ⟨A0, c0, rfl, K⟩ := hR
    refine ⟨_, rfl, ?_⟩
    have hp0 : padS X 0 = X := by simp [padS, padN]
    rw [hp0] at K ⊢
    have H := (H.join K).pick [] [0, 1] (by decide) (by decide) rfl rfl
    repeat' ((with_reducible refine g_on ?_); ((with_reducible refine g_mv ?_); refine l_p txs rfl rfl ?_))
    (with_reducible refine is_l ?_); refine h_app H 0 rfl info_u8 Tryz.underlying23 rfl rfl rfl rfl (rd_of_reads (h2.below H.B)) (by simp [nums]) (by simp [nums, List.all_map]; intros; rfl) (by show (X.length + t.length) * 1 ≤ _; omega) (fun v w_ hv H => ?_)
    obtain ⟨A1, c2, rfl⟩ := hv
    have hlt : (X ++ t).length = X.length + t.length := List.length_append
    have e0 : nums .u8 X ++ nums .u8 t = nums .u8 (X ++ t) := (nums_append _ _ _).symm
    have H := H.pick [] [0, 1] (by decide) (by decide) rfl rfl
    simp only [e0] at H
    have H : Hp w w_ [] [rowB (.slice A1 (X ++ t).length c2) (X ++ t), rowB (.slice C1 X.length c1) X] := by unfold rowB; rw [hlt]; exact H
    have e9 : Value.slice A1 ((rowB (.slice A0 X.length c0) X).n + t.length) c2 = Value.slice A1 (X ++ t).length c2 := by rw [hlt]
    rw [e9]
    skip
    have hXt : Bytes (X ++ t) := fun x hx => (List.mem_append.1 hx).elim (hXb x) (hb2 x)
    obtain ⟨ra, ra2, ra3⟩ := rowB_rd H 0 (F := A1) (f := c2) (x := X ++ t) rfl
    have hun := Unchunk_c (hE.below H.B) (H.old hM) ra ra2 ra3 hXt (by omega)
    (with_reducible refine is_l ?_); refine l_call rfl rfl (by kernel_rfl) hun (fun e w_ hR => ?_)
    obtain ⟨D1, d1, rfl, K⟩ := hR
    refine ⟨_, rfl, ?_⟩
    have ho : outUn (X ++ t) = (b, X.length, 0) := by unfold outUn; rw [hXu t]
    rw [ho] at K ⊢
    simp only at K ⊢
    have H := (H.join K).pick [] [0, 2] (by decide) (by decide) rfl rfl
    repeat' (first | (first | (with_reducible refine p_tn ?_) | (with_reducible refine wp_seq ?_) | (with_reducible refine w_reg ?_)) | (first | (with_reducible refine l_nil ?_) | ((with_reducible refine g_on ?_); (first | ((with_reducible refine g_mv ?_); refine l_p txs rfl rfl ?_) | ((with_reducible refine g_as ?_); refine l_p txs rfl rfl ?_) | ((with_reducible refine g_ex ?_); refine l_p txs rfl rfl ?_)))))
    (with_reducible refine is_l ?_); refine l_t txs rfl rfl (fun hh => absurd rfl hh) (fun _ => ?_)
    repeat' (first | ((with_reducible refine g_on ?_); ((with_reducible refine g_mv ?_); refine l_p txs rfl rfl ?_)) | ((with_reducible refine g_if ?_); ((with_reducible refine g_mv ?_); refine l_p txs rfl rfl ?_)))
    (with_reducible refine is_l ?_); refine l_t txs rfl rfl (fun hh => absurd rfl hh) (fun _ => ?_)
    repeat' (first | ((with_reducible refine g_on ?_); (first | ((with_reducible refine g_mv ?_); refine l_p txs rfl rfl ?_) | ((with_reducible refine g_pk ?_); refine l_p txs rfl rfl ?_))) | ((with_reducible refine g_if ?_); (first | ((with_reducible refine g_mv ?_); refine l_p txs rfl rfl ?_) | ((with_reducible refine g_cl ?_); refine l_p txs rfl rfl ?_))))
    (with_reducible refine is_l ?_); refine l_t txs rfl rfl (fun hh => absurd rfl hh) (fun _ => ?_)
    repeat' (first | ((with_reducible refine g_on ?_); (first | ((with_reducible refine g_mv ?_); refine l_p txs rfl rfl ?_) | ((with_reducible refine g_pk ?_); refine l_p txs rfl rfl ?_))) | ((with_reducible refine g_if ?_); ((with_reducible refine g_mv ?_); refine l_p txs rfl rfl ?_)))
    (with_reducible refine is_l ?_); refine l_text rfl rfl Tryz.underlying23 Tryz.underlying5 Tryz.underlying9 (rowB_rd H 0 (F := D1) (f := d1) (x := b) rfl).1 ?_
    repeat' ((with_reducible refine g_if ?_); ((with_reducible refine g_mv ?_); refine l_p txs rfl rfl ?_))
    (with_reducible refine is_l ?_); refine l_text rfl rfl Tryz.underlying23 Tryz.underlying5 Tryz.underlying9 (h1.below H.B) ?_
    skip
    (with_reducible refine is_l ?_); refine l_t txs rfl rfl (fun hh => absurd rfl hh) (fun _ => ?_)
    repeat' (first | (first | (with_reducible refine p_tn ?_) | (with_reducible refine wp_seq ?_) | (with_reducible refine w_reg ?_) | (with_reducible (refine is_if ?_; (refine w_iff rfl ?_))) | (with_reducible refine wp_skip ?_)) | (first | (with_reducible refine l_nil ?_) | ((with_reducible refine g_on ?_); (first | ((with_reducible refine g_mv ?_); refine l_p txs rfl rfl ?_) | ((with_reducible refine g_pk ?_); refine l_p txs rfl rfl ?_) | ((with_reducible refine g_cl ?_); refine l_p txs rfl rfl ?_)))))
    (with_reducible refine is_l ?_); refine l_bii rfl rfl rfl (quo2000 X.length w_ (by omega)) ?_
    repeat' (first | (first | (with_reducible refine p_tn ?_) | (with_reducible refine wp_seq ?_) | (with_reducible refine wp_block ?_) | (with_reducible refine w_reg ?_)) | (first | (with_reducible refine l_nil ?_) | ((with_reducible refine g_on ?_); (first | ((with_reducible refine g_as ?_); refine l_p txs rfl rfl ?_) | ((with_reducible refine g_bi ?_); (refine l_a txs rfl rfl (by first | exact in_i64 (by omega) (by omega) | exact in_u8 (by omega) (by omega) | exact in_u64 (by omega) (by omega) | exact in_i32 (by omega) (by omega)) ?_))))))
    have H := H.pick [] [1] (by decide) (by decide) rfl rfl
    refine w_loop (σ := Nat) (S := fun s => [(0, .slice B1 b.length k1), (7, .slice C1 X.length c1), (12, .int .i64 (1 + ((X.length / 2000 : Nat) : Int))), (13, .int .i64 (s : Int))]) (J := fun s w' => Hp w w' [] [rowB (.slice C1 X.length c1) X] ∧ s ≤ 100000000) (μ := fun s => X.length - s) 0 ⟨rfl, rfl, rfl, rfl, trivial⟩ ⟨H, by omega⟩ ?_
    rintro i f w_ ⟨H, hi⟩
    obtain ⟨rc, rc2, rc3⟩ := rowB_rd H 0 (F := C1) (f := c1) (x := X) rfl
    repeat' (first | (first | (with_reducible refine wp_seq ?_) | (with_reducible refine w_reg ?_)) | ((with_reducible refine g_on ?_); (first | ((with_reducible refine g_mv ?_); refine l_p txs rfl rfl ?_) | ((with_reducible refine g_cl ?_); refine l_p txs rfl rfl ?_))))
    (with_reducible refine is_l ?_); refine l_t txs rfl rfl (fun hlt2 => ?_) (fun hge => ?_)
    · repeat' (first | (first | (with_reducible refine p_tn ?_) | (with_reducible refine wp_seq ?_) | (with_reducible refine wp_block ?_) | (with_reducible refine w_reg ?_) | (with_reducible (refine is_if ?_; (refine w_ift rfl ?_))) | (with_reducible refine wp_skip ?_)) | (first | (with_reducible refine l_nil ?_) | ((with_reducible refine g_on ?_); ((with_reducible refine g_mv ?_); refine l_p txs rfl rfl ?_))))
      (with_reducible refine is_l ?_); refine l_cutN txs 0 i rfl rfl (by omega) (by omega) ?_
      skip
      have hil : i < X.length := by omega
      have hpl : (X.take i).length = i := by rw [List.length_take]; omega
      have q := reads_cut rc (p := 0) (q := i) (Nat.zero_le _) (by omega) rc2
      rw [List.drop_zero] at q
      have hsh : unchunkS (X.take i) = .error 140 := by
        have h5 := hXu []
        rw [List.append_nil] at h5
        exact unchunk_short h5 ⟨X.drop i, (List.take_append_drop i X).symm, by intro e; have := congrArg List.length e; rw [List.length_drop] at this; simp at this; omega⟩
      have ho2 : outUn (X.take i) = ([], 0, 140) := by unfold outUn; rw [hsh]
      have hlen3 : i - 0 = (X.take i).length := by rw [hpl]; omega
      rw [hlen3] at q ⊢
      have hnn : cutA C1 c1 0 1 = none → c1 - 0 = 0 ∧ (X.take i).length = 0 := by
        intro e
        cases C1 with
        | none => have := rc3 rfl; omega
        | some a => obtain ⟨a2, ca, _⟩ := cut_some a c1 0; rw [ca] at e; cases e
      have hun2 := Unchunk_c (c := c1 - 0) (hE.below H.B) (H.old hM) q (by omega) hnn (fun x hx => hXb x (List.mem_of_mem_take hx)) (by omega)
      (with_reducible refine is_l ?_); refine l_call rfl rfl (by kernel_rfl) hun2 (fun e w_ hR => ?_)
      obtain ⟨D2, d2, rfl, K⟩ := hR
      refine ⟨_, rfl, ?_⟩
      rw [ho2] at K ⊢
      simp only at K ⊢
      have H := (H.join K).pick [] [1] (by decide) (by decide) rfl rfl
      repeat' (first | (first | (with_reducible refine p_tn ?_) | (with_reducible refine wp_seq ?_) | (with_reducible refine w_reg ?_)) | (first | (with_reducible refine l_nil ?_) | ((with_reducible refine g_on ?_); (first | ((with_reducible refine g_mv ?_); refine l_p txs rfl rfl ?_) | ((with_reducible refine g_as ?_); refine l_p txs rfl rfl ?_) | ((with_reducible refine g_ex ?_); refine l_p txs rfl rfl ?_)))))
      (with_reducible refine is_l ?_); refine l_t txs rfl rfl (fun hh => absurd rfl hh) (fun _ => ?_)
      repeat' (first | ((with_reducible refine g_on ?_); ((with_reducible refine g_mv ?_); refine l_p txs rfl rfl ?_)) | ((with_reducible refine g_if ?_); ((with_reducible refine g_mv ?_); refine l_p txs rfl rfl ?_)))
      (with_reducible refine is_l ?_); refine l_t txs rfl rfl (fun hh => absurd rfl hh) (fun _ => ?_)
      repeat' (first | ((with_reducible refine g_on ?_); (first | ((with_reducible refine g_mv ?_); refine l_p txs rfl rfl ?_) | ((with_reducible refine g_pk ?_); refine l_p txs rfl rfl ?_))) | ((with_reducible refine g_if ?_); (first | ((with_reducible refine g_mv ?_); refine l_p txs rfl rfl ?_) | ((with_reducible refine g_cl ?_); refine l_p txs rfl rfl ?_))))
      (with_reducible refine is_l ?_); refine l_t txs rfl rfl (fun hh => absurd rfl hh) (fun _ => ?_)
      repeat' (first | (first | (with_reducible refine p_tn ?_) | (with_reducible refine p_bn ?_) | (with_reducible refine w_reg ?_) | (with_reducible (refine is_if ?_; (refine w_iff rfl ?_))) | (with_reducible refine wp_skip ?_)) | (first | (with_reducible refine l_nil ?_) | ((with_reducible refine g_on ?_); (first | ((with_reducible refine g_mv ?_); refine l_p txs rfl rfl ?_) | ((with_reducible refine g_as ?_); refine l_p txs rfl rfl ?_) | ((with_reducible refine g_pk ?_); refine l_p txs rfl rfl ?_) | ((with_reducible refine g_bi ?_); (refine l_a txs rfl rfl (by first | exact in_i64 (by omega) (by omega) | exact in_u8 (by omega) (by omega) | exact in_u64 (by omega) (by omega) | exact in_i32 (by omega) (by omega)) ?_))))))
      refine ⟨i + (1 + X.length / 2000), _, rfl, ⟨rfl, rfl, rfl, by show Value.int .i64 _ = Value.int .i64 _; congr 1, trivial⟩, ⟨H, by omega⟩, by omega⟩
    · repeat' (first | (first | (with_reducible refine p_tn ?_) | (with_reducible refine p_tx ?_) | (with_reducible refine x_hit ?_) | (with_reducible refine wp_seq ?_) | (with_reducible refine w_reg ?_) | (with_reducible (refine is_if ?_; (refine w_iff rfl ?_))) | (with_reducible refine wp_exit ?_)) | (first | (with_reducible refine l_nil ?_) | ((with_reducible refine g_on ?_); (first | ((with_reducible refine g_mv ?_); refine l_p txs rfl rfl ?_) | ((with_reducible refine g_as ?_); refine l_p txs rfl rfl ?_)))))
      (with_reducible refine is_l ?_); refine l_cvb (s := hdB) Tryz.underlying9 Tryz.underlying23 Tryz.underlying5 rfl rfl ?_
      obtain ⟨m1, m2, m3, m4, m5⟩ := mark_facts w_ hdB (by decide)
      have hrl : ∀ (j : Nat) (d : RowD), [rowB (.slice C1 X.length c1) X][j]? = some d → d.v.ownBlock ≠ some w_.heap.size := fun j d hd hb => absurd (H.rlt hd hb) (Nat.lt_irrefl _)
      have H2 := H.call (bytes_below (Below.refl _ w_) (Nat.le_refl _) 5 hdB)
      repeat' ((with_reducible refine g_on ?_); ((with_reducible refine g_mv ?_); refine l_p txs rfl rfl ?_))
      (with_reducible refine is_l ?_); refine l_appM (xs := bl hdB) (ys := X) H2 info_u8 Tryz.underlying23 m1 m2 m3 m5 H.B.size (fun j p hp => by simp at hp) hrl rfl (rd_of_reads (rowB_rd H2 0 (F := C1) (f := c1) (x := X) rfl).1) rfl (by rw [hd_bl]; show chunkHead.length + _ ≤ _; have e58 : chunkHead.length = 56 := rfl; omega) (fun A' c' w_ H hle hne hrd => ?_)
      have hcr := chunk_req (c := X) (body := b) (by have := hXu []; rwa [List.append_nil] at this)
      rw [hd_bl] at hrd hle ⊢
      obtain ⟨rq, hpr, hrb⟩ := hcr
      have hq : outReq (chunkHead ++ X) = (rq, chunkHead.length + X.length, 0) := by unfold outReq; rw [hpr]
      have e56 : chunkHead.length = 56 := rfl
      have e7 : chunkHead.length + X.length = (chunkHead ++ X).length := List.length_append.symm
      have hcb : Bytes (chunkHead ++ X) := fun x hx => (List.mem_append.1 hx).elim (fun hx => by rw [← hd_bl] at hx; exact bl_bytes _ x hx) (hXb x)
      rw [e7] at hle ⊢
      skip
      (with_reducible refine is_l ?_); refine l_call rfl rfl (by kernel_rfl) (ParseRequest_c (hE.below H.B) (H.old hM) (hTb _ H.B) (reads_of_rd hrd (by rw [← e7]; omega)) hle (fun e => absurd e hne) hcb (by rw [← e7]; omega)) (fun e w_ hR => ?_)
      have hR := prR_out hR
      rw [hq] at hR
      simp only at hR
      obtain ⟨F1, f1, P1, p1, rfl, K⟩ := hR
      refine ⟨_, rfl, ?_⟩
      have H := H.join K
      repeat' (first | (first | (with_reducible refine p_tn ?_) | (with_reducible refine wp_seq ?_) | (with_reducible refine w_reg ?_)) | (first | (with_reducible refine l_nil ?_) | ((with_reducible refine g_on ?_); (first | ((with_reducible refine g_mv ?_); refine l_p txs rfl rfl ?_) | ((with_reducible refine g_as ?_); refine l_p txs rfl rfl ?_) | ((with_reducible refine g_ex ?_); refine l_p txs rfl rfl ?_) | ((with_reducible refine g_st ?_); (refine h_stR recs H 0 rfl rfl rfl rfl rfl rfl rfl rfl rfl (fun w_ H => ?_))) | ((with_reducible refine g_al ?_); refine h_alloc recs H rfl rfl (fun g_ w_ H => ?_))))))
      (with_reducible refine is_l ?_); refine l_t txs rfl rfl (fun _ => ?_) (fun hh => absurd rfl hh)
      iterate 6 (first | ((with_reducible refine g_on ?_); ((with_reducible refine g_mv ?_); refine l_p txs rfl rfl ?_)) | ((with_reducible refine g_if ?_); (first | ((with_reducible refine g_mv ?_); refine l_p txs rfl rfl ?_) | ((with_reducible refine g_cl ?_); refine l_p txs rfl rfl ?_))))
      (with_reducible refine is_l ?_); refine l_a txs rfl rfl (show inK .i64 ((56 : Int) + (X.length : Int)) from ⟨by omega, by omega⟩) ?_
      skip
      (with_reducible refine is_l ?_); refine l_t txs rfl rfl (fun _ => ?_) (fun hh => absurd (show ((chunkHead.length + X.length : Nat) : Int) = (56 : Int) + (X.length : Int) by rw [e56]; omega) hh)
      repeat' (first | ((with_reducible refine g_on ?_); (first | ((with_reducible refine g_mv ?_); refine l_p txs rfl rfl ?_) | ((with_reducible refine g_pk ?_); refine l_p txs rfl rfl ?_))) | ((with_reducible refine g_if ?_); (first | ((with_reducible refine g_fa ?_); refine h_fa flds rfl rfl ?_) | ((with_reducible refine g_ld ?_); (refine h_ld txs H 0 rfl rfl rfl rfl ?_)))))
      (with_reducible refine is_l ?_); refine l_text rfl rfl Tryz.underlying23 Tryz.underlying5 Tryz.underlying9 (rowB_rd H 1 (F := P1) (f := p1) (x := rq.body) rfl).1 ?_
      repeat' ((with_reducible refine g_if ?_); ((with_reducible refine g_mv ?_); refine l_p txs rfl rfl ?_))
      (with_reducible refine is_l ?_); refine l_text rfl rfl Tryz.underlying23 Tryz.underlying5 Tryz.underlying9 (h1.below H.B) ?_
      skip
      (with_reducible refine is_l ?_); refine l_t txs rfl rfl (fun _ => ?_) (fun hh => absurd (by rw [hrb]) hh)
      repeat' (first | (first | (with_reducible refine p_tn ?_) | (with_reducible refine wp_ret ?_)) | (first | (with_reducible refine l_nil ?_) | ((with_reducible refine g_on ?_); (first | ((with_reducible refine g_as ?_); refine l_p txs rfl rfl ?_) | ((with_reducible refine g_pk ?_); refine l_p txs rfl rfl ?_)))))
      refine end1 rfl rfl ?_
      exact ⟨rfl, H.B⟩
end Go.Proofs.YthgojbdpmcccaaaGreatDoor.K
end
