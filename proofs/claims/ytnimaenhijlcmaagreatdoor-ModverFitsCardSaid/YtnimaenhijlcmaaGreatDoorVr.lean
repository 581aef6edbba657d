/- Escaped paths and versions; keys read; takes. -/
import Derived.Test.YtnimaenhijlcmaaGreatDoorVq
namespace Go.Proofs.YtnimaenhijlcmaaGreatDoor.K
open Go.RowKit Go.Proofs.YtnimaenhijlcmaaGreatDoor.Q Go.Proofs.YtnimaenhijlcmaaGreatDoor.Mb Go.Proofs.YtnimaenhijlcmaaGreatDoorW.PrintWords
set_option linter.unusedVariables false
set_option linter.unusedSimpArgs false

theorem Lay.mxw {w : World} (h : Lay w) : ∃ mx, w.cell? ⟨0, 0, none⟩ = some (.int .i64 mx) := h.mxs
theorem path_low {p : L} (h : pathS p = true) : ∀ x ∈ p, x < 128 := fun x hx => path_small (List.all_eq_true.1 (path_all h) x hx)
theorem verB_small {c : Int} (h : verB c = true) : c < 128 := by
  unfold verB wordC digB smlB capB at h
  simp at h
  omega
theorem ver_low {s : L} {v : Ver} (h : parseV s = some v) : ∀ x ∈ s, x < 128 := fun x hx => verB_small (ver_all h x hx)
/-- A text, or none with an error. -/
def outE (o : Option L) (e : Int) : ByteArray × Int := match o with | some x => (strOfNums x, 0) | none => (⟨#[]⟩, e)
def escPath (p : L) : ByteArray × Int := outE (if pathS p then some (escS p) else none) 110
def escVer (s : L) : ByteArray × Int := outE (if (parseV s).isSome then some (escS s) else none) 111
def unPath (s : L) : ByteArray × Int := match unescS s with | none => (⟨#[]⟩, 112) | some x => outE (if pathS x then some x else none) 110
def unVer (s : L) : ByteArray × Int := match unescS s with | none => (⟨#[]⟩, 112) | some x => outE (if (parseV x).isSome then some x else none) 111
theorem EscapePath_c {w : World} (hL : Lay w) (t : ByteArray) :
    Calls Tryz.prog 72 #[.string t] w fun e w' => e = .returned (.tuple #[.string (escPath (bl t)).1, .int .i64 (escPath (bl t)).2]) ∧ Below w.heap.size w w' := by
  obtain ⟨⟨mx, hM⟩, ⟨t1, fr1, hT⟩, ⟨t2, fr2, hD⟩⟩ := hL
  refine enter (args := [.string t]) Tryz.func72 rfl Tryz.ntmps72 rfl ?_
  have H := Hp.nil w
  repeat' (first | (with_reducible first | refine p_tn ?_ | refine wp_seq ?_ | refine w_reg ?_ | refine l_nil ?_) | ((with_reducible refine g_on ?_); (first | ((with_reducible refine g_mv ?_); refine l_p txs rfl rfl ?_) | ((with_reducible refine g_as ?_); refine l_p txs rfl rfl ?_))))
  (with_reducible refine is_l ?_); refine l_callv rfl rfl (by kernel_rfl) (isPath_c hM hT hD t) (fun w_ K => ?_)
  have H := H.call K
  cases hp : pathS (bl t)
  · have hn : escPath (bl t) = (⟨#[]⟩, 110) := by unfold escPath; rw [hp]; rfl
    repeat' (first | (with_reducible first | refine p_tn ?_ | refine p_tr ?_ | refine wp_seq ?_ | refine w_reg ?_) | (with_reducible (refine is_if ?_; (refine w_ift rfl ?_))) | (with_reducible first | refine wp_ret ?_ | refine l_nil ?_) | ((with_reducible refine g_on ?_); (first | ((with_reducible refine g_as ?_); refine l_p txs rfl rfl ?_) | ((with_reducible refine g_un ?_); (refine l_p txs rfl rfl ?_)))))
    refine end2 rfl rfl rfl ?_
    exact ⟨by rw [hn]; first | done | rfl, H.B⟩
  · have hn : escPath (bl t) = (strOfNums (escS (bl t)), 0) := by unfold escPath; rw [hp]; rfl
    have htl : t.size ≤ 255 := by rw [← bl_length]; exact (path_ne hp).2
    repeat' (first | (with_reducible first | refine p_tn ?_ | refine wp_seq ?_ | refine w_reg ?_) | (with_reducible (refine is_if ?_; (refine w_iff rfl ?_))) | (with_reducible first | refine wp_skip ?_ | refine l_nil ?_) | ((with_reducible refine g_on ?_); (first | ((with_reducible refine g_mv ?_); refine l_p txs rfl rfl ?_) | ((with_reducible refine g_un ?_); (refine l_p txs rfl rfl ?_)))))
    (with_reducible refine is_l ?_); refine l_callv rfl rfl (by kernel_rfl) (escape_c t w_ (by omega) (path_low hp)) (fun w_ K => ?_)
    have H := H.call K
    repeat' (first | (with_reducible first | refine p_tn ?_ | refine wp_ret ?_ | refine l_nil ?_) | ((with_reducible refine g_on ?_); ((with_reducible refine g_as ?_); refine l_p txs rfl rfl ?_)))
    refine end2 rfl rfl rfl ?_
    exact ⟨by rw [hn]; first | done | rfl, H.B⟩
theorem EscapeVersion_c {w : World} (hL : Lay w) (t : ByteArray) :
    Calls Tryz.prog 76 #[.string t] w fun e w' => e = .returned (.tuple #[.string (escVer (bl t)).1, .int .i64 (escVer (bl t)).2]) ∧ Below w.heap.size w w' := by
  obtain ⟨⟨mx, hM⟩, _, _⟩ := hL
  refine enter (args := [.string t]) Tryz.func76 rfl Tryz.ntmps76 rfl ?_
  have H := Hp.nil w
  repeat' (first | (with_reducible first | refine p_tn ?_ | refine wp_seq ?_ | refine w_reg ?_ | refine l_nil ?_) | ((with_reducible refine g_on ?_); (first | ((with_reducible refine g_mv ?_); refine l_p txs rfl rfl ?_) | ((with_reducible refine g_as ?_); refine l_p txs rfl rfl ?_))))
  have hch := checkVersion_c hM t
  cases hq : parseV (bl t) with
  | none =>
    have e0 : chkV (bl t) = 111 := by unfold chkV; rw [hq]; rfl
    rw [e0] at hch
    have hn : escVer (bl t) = (⟨#[]⟩, 111) := by unfold escVer; rw [hq]; rfl
    (with_reducible refine is_l ?_); refine l_callv rfl rfl (by kernel_rfl) hch (fun w_ K => ?_)
    have H := H.call K
    repeat' (first | (with_reducible first | refine p_tn ?_ | refine wp_seq ?_ | refine w_reg ?_ | refine l_nil ?_) | ((with_reducible refine g_on ?_); (first | ((with_reducible refine g_mv ?_); refine l_p txs rfl rfl ?_) | ((with_reducible refine g_as ?_); refine l_p txs rfl rfl ?_))))
    (with_reducible refine is_l ?_); refine l_t txs rfl rfl (fun _ => ?_) (fun h => absurd (by decide) h)
    repeat' (first | (with_reducible first | refine p_tn ?_ | refine p_tr ?_ | refine wp_seq ?_ | refine w_reg ?_) | (with_reducible (refine is_if ?_; (refine w_ift rfl ?_))) | (with_reducible first | refine wp_ret ?_ | refine l_nil ?_) | ((with_reducible refine g_on ?_); (first | ((with_reducible refine g_mv ?_); refine l_p txs rfl rfl ?_) | ((with_reducible refine g_as ?_); refine l_p txs rfl rfl ?_))))
    refine end2 rfl rfl rfl ?_
    exact ⟨by rw [hn]; first | done | rfl, H.B⟩
  | some v =>
    have e0 : chkV (bl t) = 0 := by unfold chkV; rw [hq]; rfl
    rw [e0] at hch
    have hn : escVer (bl t) = (strOfNums (escS (bl t)), 0) := by unfold escVer; rw [hq]; rfl
    have htl : t.size ≤ 128 := by rw [← bl_length]; exact (ver_no hq).2.2.2.2.2.2
    (with_reducible refine is_l ?_); refine l_callv rfl rfl (by kernel_rfl) hch (fun w_ K => ?_)
    have H := H.call K
    repeat' (first | (with_reducible first | refine p_tn ?_ | refine wp_seq ?_ | refine w_reg ?_ | refine l_nil ?_) | ((with_reducible refine g_on ?_); (first | ((with_reducible refine g_mv ?_); refine l_p txs rfl rfl ?_) | ((with_reducible refine g_as ?_); refine l_p txs rfl rfl ?_))))
    (with_reducible refine is_l ?_); refine l_t txs rfl rfl (fun h => absurd rfl h) (fun _ => ?_)
    repeat' (first | (with_reducible first | refine p_tn ?_ | refine wp_seq ?_ | refine w_reg ?_) | (with_reducible (refine is_if ?_; (refine w_iff rfl ?_))) | (with_reducible first | refine wp_skip ?_ | refine l_nil ?_) | ((with_reducible refine g_on ?_); ((with_reducible refine g_mv ?_); refine l_p txs rfl rfl ?_)))
    (with_reducible refine is_l ?_); refine l_callv rfl rfl (by kernel_rfl) (escape_c t w_ (by omega) (ver_low hq)) (fun w_ K => ?_)
    have H := H.call K
    repeat' (first | (with_reducible first | refine p_tn ?_ | refine wp_ret ?_ | refine l_nil ?_) | ((with_reducible refine g_on ?_); ((with_reducible refine g_as ?_); refine l_p txs rfl rfl ?_)))
    refine end2 rfl rfl rfl ?_
    exact ⟨by rw [hn]; first | done | rfl, H.B⟩
theorem un_bytes : ∀ {s x : L}, unescS s = some x → Bytes s → Bytes x
  | [], x, h, hb => by
    simp only [unescS, Option.some.injEq] at h
    subst h
    exact hb
  | [c], x, h, hb => by
    simp only [unescS] at h
    split at h
    · cases h
    · cases h; exact hb
  | c :: d :: r, x, h, hb => by
    have hbr : Bytes r := fun y hy => hb y (List.mem_cons_of_mem _ (List.mem_cons_of_mem _ hy))
    have hbd : Bytes (d :: r) := fun y hy => hb y (List.mem_cons_of_mem _ hy)
    by_cases h1 : capB c = true
    · rw [unesc_cap _ h1] at h; cases h
    · rw [Bool.not_eq_true] at h1
      by_cases h2 : c = 33
      · subst h2
        by_cases h3 : smlB d = true
        · rw [unesc_sml _ h3] at h
          obtain ⟨q, hq, rfl⟩ := Option.map_eq_some_iff.1 h
          have := un_bytes hq hbr
          intro y hy
          rcases List.mem_cons.1 hy with rfl | hy
          · have h4 := hbd d (List.mem_cons_self ..)
            unfold smlB at h3
            simp at h3
            omega
          · exact this y hy
        · rw [Bool.not_eq_true] at h3
          rw [unesc_bad _ h3] at h; cases h
      · rw [unesc_pl _ h1 h2] at h
        obtain ⟨q, hq, rfl⟩ := Option.map_eq_some_iff.1 h
        have := un_bytes hq hbd
        intro y hy
        rcases List.mem_cons.1 hy with rfl | hy
        · exact hb y (List.mem_cons_self ..)
        · exact this y hy
theorem UnescapePath_c {w : World} (hL : Lay w) (t : ByteArray) (ht : t.size ≤ 100000000000) :
    Calls Tryz.prog 74 #[.string t] w fun e w' => e = .returned (.tuple #[.string (unPath (bl t)).1, .int .i64 (unPath (bl t)).2]) ∧ Below w.heap.size w w' := by
  refine enter (args := [.string t]) Tryz.func74 rfl Tryz.ntmps74 rfl ?_
  have H := Hp.nil w
  have hnone : unescS (bl t) = none → unPath (bl t) = (⟨#[]⟩, 112) := fun h => by unfold unPath; rw [h]
  repeat' (first | (with_reducible first | refine p_tn ?_ | refine wp_seq ?_ | refine w_reg ?_ | refine l_nil ?_) | ((with_reducible refine g_on ?_); (first | ((with_reducible refine g_mv ?_); refine l_p txs rfl rfl ?_) | ((with_reducible refine g_as ?_); refine l_p txs rfl rfl ?_))))
  have hun := unescape_c t w ht
  cases hu : unescS (bl t) with
  | none =>
    rw [un_none hu] at hun
    (with_reducible refine is_l ?_); refine l_callv rfl rfl (by kernel_rfl) hun (fun w_ K => ?_)
    have H := H.call K
    have hn := hnone hu
    repeat' (first | (with_reducible first | refine p_tn ?_ | refine p_tr ?_ | refine wp_seq ?_ | refine w_reg ?_) | (with_reducible (refine is_if ?_; (refine w_ift rfl ?_))) | (with_reducible first | refine wp_ret ?_ | refine l_nil ?_) | ((with_reducible refine g_on ?_); (first | ((with_reducible refine g_mv ?_); refine l_p txs rfl rfl ?_) | ((with_reducible refine g_as ?_); refine l_p txs rfl rfl ?_) | ((with_reducible refine g_ex ?_); refine l_p txs rfl rfl ?_) | ((with_reducible refine g_un ?_); (refine l_p txs rfl rfl ?_)))))
    refine end2 rfl rfl rfl ?_
    exact ⟨by rw [hn]; first | done | rfl, H.B⟩
  | some x =>
    rw [un_some hu] at hun
    have bx := un_bytes hu (bl_bytes t)
    (with_reducible refine is_l ?_); refine l_callv rfl rfl (by kernel_rfl) hun (fun w_ K => ?_)
    have H := H.call K
    obtain ⟨⟨mx, hM⟩, ⟨t1, fr1, hT⟩, ⟨t2, fr2, hD⟩⟩ := hL.below H.B
    repeat' (first | (with_reducible first | refine p_tn ?_ | refine wp_seq ?_ | refine w_reg ?_) | (with_reducible (refine is_if ?_; (refine w_iff rfl ?_))) | (with_reducible first | refine wp_skip ?_ | refine l_nil ?_) | ((with_reducible refine g_on ?_); (first | ((with_reducible refine g_mv ?_); refine l_p txs rfl rfl ?_) | ((with_reducible refine g_as ?_); refine l_p txs rfl rfl ?_) | ((with_reducible refine g_ex ?_); refine l_p txs rfl rfl ?_) | ((with_reducible refine g_un ?_); (refine l_p txs rfl rfl ?_)))))
    have hip := isPath_c hM hT hD (strOfNums x)
    rw [blS bx] at hip
    (with_reducible refine is_l ?_); refine l_callv rfl rfl (by kernel_rfl) hip (fun w_ K => ?_)
    have H := H.call K
    cases hp : pathS x
    · have hn : unPath (bl t) = (⟨#[]⟩, 110) := by unfold unPath; rw [hu]; simp only; rw [hp]; rfl
      repeat' (first | (with_reducible first | refine p_tn ?_ | refine p_tr ?_ | refine wp_seq ?_ | refine w_reg ?_) | (with_reducible (refine is_if ?_; (refine w_ift rfl ?_))) | (with_reducible first | refine wp_ret ?_ | refine l_nil ?_) | ((with_reducible refine g_on ?_); (first | ((with_reducible refine g_as ?_); refine l_p txs rfl rfl ?_) | ((with_reducible refine g_un ?_); (refine l_p txs rfl rfl ?_)))))
      refine end2 rfl rfl rfl ?_
      exact ⟨by rw [hn]; first | done | rfl, H.B⟩
    · have hn : unPath (bl t) = (strOfNums x, 0) := by unfold unPath; rw [hu]; simp only; rw [hp]; rfl
      repeat' (first | (with_reducible first | refine p_tn ?_ | refine wp_seq ?_ | refine w_reg ?_) | (with_reducible (refine is_if ?_; (refine w_iff rfl ?_))) | (with_reducible first | refine wp_skip ?_ | refine wp_ret ?_ | refine l_nil ?_) | ((with_reducible refine g_on ?_); (first | ((with_reducible refine g_mv ?_); refine l_p txs rfl rfl ?_) | ((with_reducible refine g_as ?_); refine l_p txs rfl rfl ?_) | ((with_reducible refine g_un ?_); (refine l_p txs rfl rfl ?_)))))
      refine end2 rfl rfl rfl ?_
      exact ⟨by rw [hn]; first | done | rfl, H.B⟩
theorem UnescapeVersion_c {w : World} (hL : Lay w) (t : ByteArray) (ht : t.size ≤ 100000000000) :
    Calls Tryz.prog 78 #[.string t] w fun e w' => e = .returned (.tuple #[.string (unVer (bl t)).1, .int .i64 (unVer (bl t)).2]) ∧ Below w.heap.size w w' := by
  refine enter (args := [.string t]) Tryz.func78 rfl Tryz.ntmps78 rfl ?_
  have H := Hp.nil w
  have hnone : unescS (bl t) = none → unVer (bl t) = (⟨#[]⟩, 112) := fun h => by unfold unVer; rw [h]
  repeat' (first | (with_reducible first | refine p_tn ?_ | refine wp_seq ?_ | refine w_reg ?_ | refine l_nil ?_) | ((with_reducible refine g_on ?_); (first | ((with_reducible refine g_mv ?_); refine l_p txs rfl rfl ?_) | ((with_reducible refine g_as ?_); refine l_p txs rfl rfl ?_))))
  have hun := unescape_c t w ht
  cases hu : unescS (bl t) with
  | none =>
    rw [un_none hu] at hun
    (with_reducible refine is_l ?_); refine l_callv rfl rfl (by kernel_rfl) hun (fun w_ K => ?_)
    have H := H.call K
    have hn := hnone hu
    repeat' (first | (with_reducible first | refine p_tn ?_ | refine p_tr ?_ | refine wp_seq ?_ | refine w_reg ?_) | (with_reducible (refine is_if ?_; (refine w_ift rfl ?_))) | (with_reducible first | refine wp_ret ?_ | refine l_nil ?_) | ((with_reducible refine g_on ?_); (first | ((with_reducible refine g_mv ?_); refine l_p txs rfl rfl ?_) | ((with_reducible refine g_as ?_); refine l_p txs rfl rfl ?_) | ((with_reducible refine g_ex ?_); refine l_p txs rfl rfl ?_) | ((with_reducible refine g_un ?_); (refine l_p txs rfl rfl ?_)))))
    refine end2 rfl rfl rfl ?_
    exact ⟨by rw [hn]; first | done | rfl, H.B⟩
  | some x =>
    rw [un_some hu] at hun
    have bx := un_bytes hu (bl_bytes t)
    (with_reducible refine is_l ?_); refine l_callv rfl rfl (by kernel_rfl) hun (fun w_ K => ?_)
    have H := H.call K
    obtain ⟨⟨mx, hM⟩, _, _⟩ := hL.below H.B
    repeat' (first | (with_reducible first | refine p_tn ?_ | refine wp_seq ?_ | refine w_reg ?_) | (with_reducible (refine is_if ?_; (refine w_iff rfl ?_))) | (with_reducible first | refine wp_skip ?_ | refine l_nil ?_) | ((with_reducible refine g_on ?_); (first | ((with_reducible refine g_mv ?_); refine l_p txs rfl rfl ?_) | ((with_reducible refine g_as ?_); refine l_p txs rfl rfl ?_) | ((with_reducible refine g_ex ?_); refine l_p txs rfl rfl ?_) | ((with_reducible refine g_un ?_); (refine l_p txs rfl rfl ?_)))))
    have hch := checkVersion_c hM (strOfNums x)
    rw [blS bx] at hch
    cases hq : parseV x with
    | none =>
      have e0 : chkV x = 111 := by unfold chkV; rw [hq]; rfl
      rw [e0] at hch
      (with_reducible refine is_l ?_); refine l_callv rfl rfl (by kernel_rfl) hch (fun w_ K => ?_)
      have H := H.call K
      have hn : unVer (bl t) = (⟨#[]⟩, 111) := by unfold unVer; rw [hu]; simp only; rw [hq]; rfl
      repeat' (first | (with_reducible first | refine p_tn ?_ | refine wp_seq ?_ | refine w_reg ?_ | refine l_nil ?_) | ((with_reducible refine g_on ?_); (first | ((with_reducible refine g_mv ?_); refine l_p txs rfl rfl ?_) | ((with_reducible refine g_as ?_); refine l_p txs rfl rfl ?_))))
      (with_reducible refine is_l ?_); refine l_t txs rfl rfl (fun _ => ?_) (fun h => absurd (by decide) h)
      repeat' (first | (with_reducible first | refine p_tn ?_ | refine p_tr ?_ | refine wp_seq ?_ | refine w_reg ?_) | (with_reducible (refine is_if ?_; (refine w_ift rfl ?_))) | (with_reducible first | refine wp_ret ?_ | refine l_nil ?_) | ((with_reducible refine g_on ?_); (first | ((with_reducible refine g_mv ?_); refine l_p txs rfl rfl ?_) | ((with_reducible refine g_as ?_); refine l_p txs rfl rfl ?_))))
      refine end2 rfl rfl rfl ?_
      exact ⟨by rw [hn]; first | done | rfl, H.B⟩
    | some v =>
      have e0 : chkV x = 0 := by unfold chkV; rw [hq]; rfl
      rw [e0] at hch
      (with_reducible refine is_l ?_); refine l_callv rfl rfl (by kernel_rfl) hch (fun w_ K => ?_)
      have H := H.call K
      have hn : unVer (bl t) = (strOfNums x, 0) := by unfold unVer; rw [hu]; simp only; rw [hq]; rfl
      repeat' (first | (with_reducible first | refine p_tn ?_ | refine wp_seq ?_ | refine w_reg ?_ | refine l_nil ?_) | ((with_reducible refine g_on ?_); (first | ((with_reducible refine g_mv ?_); refine l_p txs rfl rfl ?_) | ((with_reducible refine g_as ?_); refine l_p txs rfl rfl ?_))))
      (with_reducible refine is_l ?_); refine l_t txs rfl rfl (fun h => absurd rfl h) (fun _ => ?_)
      repeat' (first | (with_reducible first | refine p_tn ?_ | refine wp_seq ?_ | refine w_reg ?_) | (with_reducible (refine is_if ?_; (refine w_iff rfl ?_))) | (with_reducible first | refine wp_skip ?_ | refine wp_ret ?_ | refine l_nil ?_) | ((with_reducible refine g_on ?_); (first | ((with_reducible refine g_mv ?_); refine l_p txs rfl rfl ?_) | ((with_reducible refine g_as ?_); refine l_p txs rfl rfl ?_))))
      refine end2 rfl rfl rfl ?_
      exact ⟨by rw [hn]; first | done | rfl, H.B⟩
theorem count_split (t : ByteArray) (c : UInt8) : Lib.countB t ⟨#[c]⟩ + 1 = (splitC (c.toNat : Int) (bl t)).length := by
  rw [← split_eq c _ t rfl, List.length_map, Lib.splitB_all ⟨#[c]⟩ (Nat.le_refl 1) _ _ _ rfl]
theorem split_one {c : Int} {v : L} : (splitC c v).length = 1 ↔ c ∉ v := by
  constructor
  · intro h hc
    cases hk : cutC c v with
    | none => exact cutC_none hk hc
    | some p =>
      obtain ⟨a, b⟩ := p
      obtain ⟨rfl, hn⟩ := cutC_some hk
      rw [splitC_cut _ hn, List.length_cons] at h
      have := List.length_pos_iff.2 (splitC_ne (c := c) b)
      omega
  · intro h; rw [splitC_none h]; rfl
theorem key_split (s : L) : (keyS s).isSome = decide ((splitC 64 s).length = 2) := by
  unfold keyS
  cases hk : cutC 64 s with
  | none =>
    rw [splitC_none (cutC_none hk)]; rfl
  | some p =>
    obtain ⟨a, b⟩ := p
    obtain ⟨rfl, hn⟩ := cutC_some hk
    rw [splitC_cut _ hn, List.length_cons]
    simp only
    by_cases hb : (64 : Int) ∈ b
    · rw [if_pos (by simpa using hb), decide_eq_false (fun h => (split_one.1 (by omega)) hb)]; rfl
    · rw [if_neg (by simpa using hb), decide_eq_true (by rw [split_one.2 hb])]; rfl
/-- What ParseKey says. -/
def parK (s : L) : ByteArray × ByteArray × Int := match keyS s with
  | none => (⟨#[]⟩, ⟨#[]⟩, 113)
  | some (p, v) => if checkS p v = 0 then (strOfNums p, strOfNums v, 0) else (⟨#[]⟩, ⟨#[]⟩, (checkS p v : Int))
set_option maxHeartbeats 4000000 in
theorem ParseKey_c {w : World} (hL : Lay w) (t : ByteArray) (ht : t.size ≤ 100000000) :
    Calls Tryz.prog 15 #[.string t] w fun e w' => e = .returned (.tuple #[.string (parK (bl t)).1, .string (parK (bl t)).2.1, .int .i64 (parK (bl t)).2.2]) ∧ Below w.heap.size w w' := by
  obtain ⟨mx, hM⟩ := hL.mxs
  have e64 : ((64 : UInt8).toNat : Int) = 64 := rfl
  refine enter (args := [.string t]) Tryz.func15 rfl Tryz.ntmps15 rfl ?_
  have H := Hp.nil w
  have hks := key_split (bl t)
  have hcs := count_split t 64
  rw [e64] at hcs
  repeat' (first | (with_reducible first | refine p_tn ?_ | refine wp_seq ?_ | refine w_reg ?_ | refine l_nil ?_) | ((with_reducible refine g_on ?_); (first | ((with_reducible refine g_mv ?_); refine l_p txs rfl rfl ?_) | ((with_reducible refine g_as ?_); refine l_p txs rfl rfl ?_))))
  (with_reducible refine is_l ?_); refine l_callp rfl rfl (by kernel_rfl) (Tryz.strings_Count_any t ⟨#[64]⟩ mx w (by omega) hM (by decide)) ?_
  skip
  generalize Lib.countB t ⟨#[64]⟩ = k at hcs ⊢
  (with_reducible refine is_l ?_); refine l_t txs rfl rfl (fun h1 => ?_) (fun h1 => ?_)
  · have hno : keyS (bl t) = none := by
      cases hk : keyS (bl t) with
      | none => rfl
      | some p => rw [hk] at hks; exact absurd (of_decide_eq_true hks.symm) (by omega)
    have hn : parK (bl t) = (⟨#[]⟩, ⟨#[]⟩, 113) := by unfold parK; rw [hno]
    repeat' (first | (with_reducible first | refine p_tn ?_ | refine p_tr ?_ | refine wp_seq ?_ | refine w_reg ?_) | (with_reducible (refine is_if ?_; (refine w_ift rfl ?_))) | (with_reducible first | refine wp_ret ?_ | refine l_nil ?_) | ((with_reducible refine g_on ?_); ((with_reducible refine g_as ?_); refine l_p txs rfl rfl ?_)))
    refine end3 rfl rfl rfl rfl ?_
    exact ⟨by rw [hn]; first | done | rfl, H.B⟩
  obtain ⟨⟨p, v⟩, hk⟩ : ∃ q, keyS (bl t) = some q := by
    cases hk : keyS (bl t) with
    | some p => exact ⟨p, rfl⟩
    | none => rw [hk] at hks; exact absurd (of_decide_eq_false hks.symm) (by omega)
  obtain ⟨hpv, hn1, hn2⟩ := keyS_some hk
  have hcut : cutC 64 (bl t) = some (p, v) := by rw [hpv, cutC_mk _ hn1]
  have bp : Bytes p := fun y hy => bl_bytes t y (by rw [hpv]; exact List.mem_append_left _ hy)
  have bv : Bytes v := fun y hy => bl_bytes t y (by rw [hpv]; exact List.mem_append_right _ (List.mem_cons_of_mem _ hy))
  repeat' (first | (with_reducible first | refine p_tn ?_ | refine wp_seq ?_ | refine w_reg ?_) | (with_reducible (refine is_if ?_; (refine w_iff rfl ?_))) | (with_reducible first | refine wp_skip ?_ | refine l_nil ?_) | ((with_reducible refine g_on ?_); ((with_reducible refine g_mv ?_); refine l_p txs rfl rfl ?_)))
  have hcu := cutb_c t 64 (by omega) w mx hM
  rw [e64] at hcu
  unfold aheadC behindC at hcu
  rw [hcut] at hcu
  (with_reducible refine is_l ?_); refine l_callv rfl rfl (by kernel_rfl) hcu (fun w_ K => ?_)
  have H := H.call K
  repeat' (first | (with_reducible first | refine p_tn ?_ | refine wp_seq ?_ | refine w_reg ?_ | refine l_nil ?_) | ((with_reducible refine g_on ?_); (first | ((with_reducible refine g_mv ?_); refine l_p txs rfl rfl ?_) | ((with_reducible refine g_as ?_); refine l_p txs rfl rfl ?_) | ((with_reducible refine g_ex ?_); refine l_p txs rfl rfl ?_))))
  have hch := check_c (hL.below H.B) (strOfNums p) (strOfNums v)
  rw [blS bp, blS bv] at hch
  have hK : parK (bl t) = if checkS p v = 0 then (strOfNums p, strOfNums v, 0) else (⟨#[]⟩, ⟨#[]⟩, (checkS p v : Int)) := by unfold parK; rw [hk]
  generalize checkS p v = j at hch hK
  (with_reducible refine is_l ?_); refine l_callv rfl rfl (by kernel_rfl) hch (fun w_ K => ?_)
  have H := H.call K
  repeat' (first | (with_reducible first | refine p_tn ?_ | refine wp_seq ?_ | refine w_reg ?_ | refine l_nil ?_) | ((with_reducible refine g_on ?_); (first | ((with_reducible refine g_mv ?_); refine l_p txs rfl rfl ?_) | ((with_reducible refine g_as ?_); refine l_p txs rfl rfl ?_))))
  (with_reducible refine is_l ?_); refine l_t txs rfl rfl (fun h2 => ?_) (fun h2 => ?_)
  · have hn : parK (bl t) = (⟨#[]⟩, ⟨#[]⟩, (j : Int)) := by rw [hK, if_neg (by omega)]
    repeat' (first | (with_reducible first | refine p_tn ?_ | refine p_tr ?_ | refine wp_seq ?_ | refine w_reg ?_) | (with_reducible (refine is_if ?_; (refine w_ift rfl ?_))) | (with_reducible first | refine wp_ret ?_ | refine l_nil ?_) | ((with_reducible refine g_on ?_); (first | ((with_reducible refine g_mv ?_); refine l_p txs rfl rfl ?_) | ((with_reducible refine g_as ?_); refine l_p txs rfl rfl ?_))))
    refine end3 rfl rfl rfl rfl ?_
    exact ⟨by rw [hn]; first | done | rfl, H.B⟩
  · have hn : parK (bl t) = (strOfNums p, strOfNums v, 0) := by rw [hK, if_pos (by omega)]
    repeat' (first | (with_reducible first | refine p_tn ?_ | refine wp_seq ?_ | refine w_reg ?_) | (with_reducible (refine is_if ?_; (refine w_iff rfl ?_))) | (with_reducible first | refine wp_skip ?_ | refine wp_ret ?_ | refine l_nil ?_) | ((with_reducible refine g_on ?_); (first | ((with_reducible refine g_mv ?_); refine l_p txs rfl rfl ?_) | ((with_reducible refine g_as ?_); refine l_p txs rfl rfl ?_))))
    refine end3 rfl rfl rfl rfl ?_
    exact ⟨by rw [hn]; first | done | rfl, H.B⟩
end Go.Proofs.YtnimaenhijlcmaaGreatDoor.K
