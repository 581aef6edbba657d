/- parse. -/
import Derived.Test.YtnimaenhijlcmaaGreatDoorVf
namespace Go.Proofs.YtnimaenhijlcmaaGreatDoor.K
open Go.RowKit Go.Proofs.YtnimaenhijlcmaaGreatDoor.Q Go.Proofs.YtnimaenhijlcmaaGreatDoor.Mb Go.Proofs.YtnimaenhijlcmaaGreatDoorW.PrintWords
set_option linter.unusedVariables false
set_option linter.unusedSimpArgs false

theorem split_mem (c : Int) : ∀ (l : L) (x : L), x ∈ splitC c l → (∀ y ∈ x, y ∈ l) ∧ x.length ≤ l.length
  | [], x, h => by simp [splitC] at h; subst h; simp
  | a :: r, x, h => by
    have ih := split_mem c r
    unfold splitC at h
    split at h
    · rcases List.mem_cons.1 h with rfl | h
      · simp
      · have := ih x h
        exact ⟨fun y hy => List.mem_cons_of_mem _ (this.1 y hy), by simp; omega⟩
    · split at h
      · simp only [List.mem_singleton] at h
        subst h
        exact ⟨fun y hy => by simp_all, by simp⟩
      · rename_i p q hs
        rcases List.mem_cons.1 h with rfl | h
        · have := ih p (by rw [hs]; simp)
          exact ⟨fun y hy => by
            rcases List.mem_cons.1 hy with rfl | hy
            · simp
            · exact List.mem_cons_of_mem _ (this.1 y hy), by simp; omega⟩
        · have := ih x (by rw [hs]; simp [h])
          exact ⟨fun y hy => List.mem_cons_of_mem _ (this.1 y hy), by simp; omega⟩
theorem split_len (c : Int) (l : L) : (splitC c l).length ≤ l.length + 1 := by
  induction l with
  | nil => simp [splitC]
  | cons x r ih =>
    unfold splitC
    split
    · simp; omega
    · split
      · simp
      · rename_i h
        rw [h] at ih
        simp at ih ⊢
        omega
/-- What parse ends in. -/
def PaR (w : World) (s : L) (e : Ending) (w' : World) : Prop := match parseV s with
  | none => ∃ (x y z : ByteArray) (A : Option Addr) (n c : Nat) (b : Bool), e = .returned (.tuple #[.agg #[.string x, .string y, .string z, .slice A n c, .bool b], .bool false]) ∧ Below w.heap.size w w'
  | some v => ∃ A c, e = .returned (.tuple #[.agg (verA v A c), .bool true]) ∧ Hp w w' [] [rowT (.slice A v.words.length c) v.words]
theorem pa_none {w w' : World} {s : L} (h : parseV s = none) (x y z : ByteArray) (A : Option Addr) (n c : Nat) (b : Bool) (K : Below w.heap.size w w') : PaR w s (.returned (.tuple #[.agg #[.string x, .string y, .string z, .slice A n c, .bool b], .bool false])) w' := by
  unfold PaR; rw [h]; exact ⟨x, y, z, A, n, c, b, rfl, K⟩
theorem pa_some {w w' : World} {s : L} {v : Ver} (h : parseV s = some v) (A : Option Addr) (c : Nat) (K : Hp w w' [] [rowT (.slice A v.words.length c) v.words]) : PaR w s (.returned (.tuple #[.agg (verA v A c), .bool true])) w' := by
  unfold PaR; rw [h]; exact ⟨A, c, rfl, K⟩
theorem endCut_sub {r e : L} : (∀ y ∈ (endCut r e).getD r, y ∈ r) ∧ ((endCut r e).getD r).length ≤ r.length := by
  unfold endCut
  split
  · exact ⟨fun y hy => List.mem_of_mem_take hy, by simp⟩
  · exact ⟨fun y hy => hy, Nat.le_refl _⟩
abbrev zV : List Value := [.string ⟨#[]⟩, .string ⟨#[]⟩, .string ⟨#[]⟩, .slice none 0 0, .bool false]
abbrev eVer (g : Nat) (x y z : ByteArray) (A : Option Addr) (n c : Nat) (b : Bool) : Ent := (g, 91, [.string x, .string y, .string z, .slice A n c, .bool b])
def tailV (N ws : List L) (odd : Bool) : Option Ver := match N with
  | [a, b, c] => if numB a && numB b && numB c && (!odd || (decide (a ≠ [48]) && decide (a ≠ [49]))) then some ⟨a, b, c, ws, odd⟩ else none
  | _ => none
theorem parseV_v {s r : L} (hs : ¬ 128 < s.length) (hr : s = 118 :: r) : parseV s = if (wordsOf (cutC 45 ((endCut r incompat).getD r))).all wordB = false then none else tailV (splitC 46 (aheadC 45 ((endCut r incompat).getD r))) (wordsOf (cutC 45 ((endCut r incompat).getD r))) (endCut r incompat).isSome := by
  subst hr
  unfold parseV tailV
  rw [if_neg hs]
  rfl
theorem parseV_o {s : L} (hh : ¬ s.head? = some 118) : parseV s = none := by
  unfold parseV
  split
  · rfl
  · split
    · exact absurd rfl hh
    · rfl
set_option maxRecDepth 100000 in
set_option maxHeartbeats 16000000 in
theorem parse_c {w : World} {mx : Int} (hM : w.cell? ⟨0, 0, none⟩ = some (.int .i64 mx)) (t : ByteArray) :
    Calls Tryz.prog 58 #[.string t] w (PaR w (bl t)) := by
  have hlen := bl_length t
  have hbt := bl_bytes t
  have e45 : ((45 : UInt8).toNat : Int) = 45 := rfl
  have e46 : ((46 : UInt8).toNat : Int) = 46 := rfl
  refine enter (args := [.string t]) Tryz.func58 rfl Tryz.ntmps58 rfl ?_
  have H := Hp.nil w
  repeat' (with_reducible first | refine wp_seq ?_ | refine w_reg ?_)
  (with_reducible refine is_l ?_); refine h_alloc recs H rfl rfl (fun g2 w_ H => ?_)
  refine g_on ?_; ((with_reducible refine g_as ?_); refine l_p txs rfl rfl ?_)
  with_reducible refine l_nil ?_
  repeat' (with_reducible first | refine p_tn ?_ | refine wp_seq ?_ | refine w_reg ?_)
  (with_reducible refine is_l ?_); refine h_alloc recs H rfl rfl (fun g4 w_ H => ?_)
  repeat' (first | (with_reducible first | refine p_tn ?_ | refine wp_seq ?_ | refine w_reg ?_ | refine l_nil ?_) | ((with_reducible refine g_on ?_); (first | ((with_reducible refine g_mv ?_); refine l_p txs rfl rfl ?_) | ((with_reducible refine g_cl ?_); refine l_p txs rfl rfl ?_))))
  (with_reducible refine is_l ?_); refine l_t txs rfl rfl (fun h1 => ?_) (fun h1 => ?_)
  · have hres : parseV (bl t) = none := by unfold parseV; rw [if_pos (by omega)]
    repeat' (first | (with_reducible first | refine p_tn ?_ | refine p_tr ?_ | refine wp_seq ?_ | refine w_reg ?_) | (with_reducible (refine is_if ?_; (refine w_ift rfl ?_))) | (with_reducible first | refine wp_ret ?_ | refine l_nil ?_) | ((with_reducible refine g_on ?_); (first | ((with_reducible refine g_mv ?_); refine l_p txs rfl rfl ?_) | ((with_reducible refine g_as ?_); refine l_p txs rfl rfl ?_) | ((with_reducible refine g_pk ?_); refine l_p txs rfl rfl ?_) | ((with_reducible refine g_ld ?_); (refine h_ldR recs H 0 rfl rfl rfl rfl rfl ?_)) | ((with_reducible refine g_st ?_); (refine h_stR recs H 1 rfl rfl rfl rfl rfl rfl rfl rfl rfl (fun w_ H => ?_))))) | ((with_reducible refine g_if ?_); (refine l_off rfl ?_)))
    refine end_ct recs H 1 rfl rfl rfl rfl rfl rfl ?_
    exact pa_none hres _ _ _ _ _ _ _ H.B
  have ht : t.size ≤ 128 := by omega
  repeat' (first | ((with_reducible refine g_on ?_); ((with_reducible refine g_mv ?_); refine l_p txs rfl rfl ?_)) | ((with_reducible refine g_if ?_); ((with_reducible refine g_mv ?_); refine l_p txs rfl rfl ?_)))
  have hpre := hasV_c t
  by_cases hh : (bl t).head? = some 118
  rotate_left
  · have hres := parseV_o hh
    rw [decide_eq_false hh] at hpre
    (with_reducible refine is_l ?_); refine l_callp rfl rfl (by kernel_rfl) (hpre _) ?_
    repeat' (first | (with_reducible first | refine p_tn ?_ | refine p_tr ?_ | refine wp_seq ?_ | refine w_reg ?_) | (with_reducible (refine is_if ?_; (refine w_ift rfl ?_))) | (with_reducible first | refine wp_ret ?_ | refine l_nil ?_) | ((with_reducible refine g_on ?_); (first | ((with_reducible refine g_as ?_); refine l_p txs rfl rfl ?_) | ((with_reducible refine g_pk ?_); refine l_p txs rfl rfl ?_) | ((with_reducible refine g_ld ?_); (refine h_ldR recs H 0 rfl rfl rfl rfl rfl ?_)) | ((with_reducible refine g_st ?_); (refine h_stR recs H 1 rfl rfl rfl rfl rfl rfl rfl rfl rfl (fun w_ H => ?_))))) | ((with_reducible refine g_if ?_); ((with_reducible refine g_un ?_); (refine l_p txs rfl rfl ?_))))
    refine end_ct recs H 1 rfl rfl rfl rfl rfl rfl ?_
    exact pa_none hres _ _ _ _ _ _ _ H.B
  obtain ⟨r, hr⟩ : ∃ r, bl t = 118 :: r := by
    cases hb : bl t with
    | nil => rw [hb] at hh; cases hh
    | cons x r => rw [hb] at hh; injection hh with hh; subst hh; exact ⟨r, rfl⟩
  have hV := parseV_v (by omega) hr
  rw [decide_eq_true hh] at hpre
  have hrl : r.length + 1 = t.size := by rw [← hlen, hr]; rfl
  (with_reducible refine is_l ?_); refine l_callp rfl rfl (by kernel_rfl) (hpre _) ?_
  repeat' (first | (with_reducible first | refine p_tn ?_ | refine wp_seq ?_ | refine w_reg ?_) | (with_reducible (refine is_if ?_; (refine w_iff rfl ?_))) | (with_reducible first | refine wp_skip ?_ | refine l_nil ?_) | ((with_reducible refine g_on ?_); (first | ((with_reducible refine g_mv ?_); refine l_p txs rfl rfl ?_) | ((with_reducible refine g_pk ?_); refine l_p txs rfl rfl ?_) | ((with_reducible refine g_sl ?_); refine l_sl txs rfl rfl (by first | omega | assumption | decide) (by first | omega | assumption | decide) (by first | omega | assumption | decide) ?_))) | ((with_reducible refine g_if ?_); ((with_reducible refine g_un ?_); (refine l_p txs rfl rfl ?_))))
  have hx : bl (t.extract (1 : Int).toNat ((t.size : Int)).toNat) = r := by
    rw [blE, hr, Int.toNat_natCast]
    show (r.take (t.size - 1)) = r
    exact List.take_of_length_le (by omega)
  have hxs : (t.extract (1 : Int).toNat ((t.size : Int)).toNat).size = r.length := by rw [← bl_length, hx]
  have hcs := fun w1 => cutSuf_c (t.extract (1 : Int).toNat ((t.size : Int)).toNat) ⟨#[43, 105, 110, 99, 111, 109, 112, 97, 116, 105, 98, 108, 101]⟩ w1 (by omega)
  rw [hx, show bl (⟨#[43, 105, 110, 99, 111, 109, 112, 97, 116, 105, 98, 108, 101]⟩ : ByteArray) = incompat from rfl] at hcs
  (with_reducible refine is_l ?_); refine l_callp rfl rfl (by kernel_rfl) (hcs _) ?_
  obtain ⟨hs1, hs2⟩ := endCut_sub (r := r) (e := incompat)
  generalize (endCut r incompat).getD r = body at hs1 hs2 hV ⊢
  generalize (endCut r incompat).isSome = odd at hV ⊢
  have bbo : Bytes body := fun y hy => hbt y (by rw [hr]; exact List.mem_cons_of_mem _ (hs1 y hy))
  have zbo := sizeS' bbo
  repeat' (first | (with_reducible first | refine p_tn ?_ | refine wp_seq ?_ | refine w_reg ?_ | refine l_nil ?_) | ((with_reducible refine g_on ?_); (first | ((with_reducible refine g_mv ?_); refine l_p txs rfl rfl ?_) | ((with_reducible refine g_as ?_); refine l_p txs rfl rfl ?_) | ((with_reducible refine g_ex ?_); refine l_p txs rfl rfl ?_) | ((with_reducible refine g_fa ?_); refine h_fa flds rfl rfl ?_) | ((with_reducible refine g_st ?_); (refine h_st txs ones H 0 rfl rfl rfl rfl rfl rfl rfl rfl rfl (fun w_ H => ?_))))))
  have hcu := cutb_c (strOfNums body) 45 (by omega) w_ mx (H.old hM)
  rw [blS bbo, e45] at hcu
  (with_reducible refine is_l ?_); refine l_callv rfl rfl (by kernel_rfl) hcu (fun w_ K => ?_)
  have H := H.call K
  cases hc : cutC 45 body with
  | none =>
    rw [hc] at hV
    have hV : parseV (bl t) = tailV (splitC 46 (aheadC 45 body)) [] odd := by rw [hV]; rfl
    have haa : aheadC 45 body = body := by unfold aheadC; rw [hc]
    rw [haa] at hV ⊢
    rw [show (none : Option (L × L)).isSome = false from rfl]
    obtain ⟨core, hco⟩ : ∃ x, x = body := ⟨_, rfl⟩
    rw [← hco] at hV ⊢
    have bco : Bytes core := hco ▸ bbo
    have zco := sizeS' bco
    have hcl : core.length ≤ t.size := by rw [hco]; omega
    obtain ⟨ws, hws⟩ : ∃ x : List L, x = [] := ⟨_, rfl⟩
    obtain ⟨A, hA⟩ : ∃ x : Option Addr, x = none := ⟨_, rfl⟩
    obtain ⟨c, hcc⟩ : ∃ x : Nat, x = 0 := ⟨_, rfl⟩
    rw [← hws] at hV
    have H := H.nilRow 9 1
    repeat' (first | (with_reducible first | refine p_tn ?_ | refine wp_seq ?_ | refine w_reg ?_) | (with_reducible (refine is_if ?_; (refine w_iff rfl ?_))) | (with_reducible first | refine wp_skip ?_ | refine l_nil ?_) | ((with_reducible refine g_on ?_); (first | ((with_reducible refine g_mv ?_); refine l_p txs rfl rfl ?_) | ((with_reducible refine g_as ?_); refine l_p txs rfl rfl ?_) | ((with_reducible refine g_ex ?_); refine l_p txs rfl rfl ?_))))
    have H : Hp w w_ [eVer g4 ⟨#[]⟩ ⟨#[]⟩ ⟨#[]⟩ A ws.length c odd, (g2, 91, zV)] [rowT (.slice A ws.length c) ws] := by rw [hws, hA, hcc]; exact H
    have hq : ∀ q : Nat, (.slice none 0 0 : Value) = .slice A ws.length c := fun _ => by rw [hws, hA, hcc]; rfl
    clear hws hA hcc
    skip
    have hsp := split_c (strOfNums core) 46 (by omega) w_ mx (H.old hM)
    rw [blS bco, e46] at hsp
    (with_reducible refine is_l ?_); refine l_call rfl rfl (by kernel_rfl) hsp (fun e w_ hR => ?_)
    obtain ⟨gN, rfl, K⟩ := hR
    refine ⟨_, rfl, ?_⟩
    have hsm := split_mem 46 core
    have hsl := split_len 46 core
    generalize splitC 46 core = N at K hsm hsl hV ⊢
    have hNl : (strC N).length = N.length := List.length_map _
    have H := (H.join K).entRow (by rw [hNl]; simp only [maxLen]; omega)
    rw [hNl] at H
    have H : Hp w w_ _ [rowT (.slice (some ⟨gN, 0, none⟩) N.length N.length) N, rowT (.slice A ws.length c) ws] := H
    repeat' (first | (with_reducible first | refine p_tn ?_ | refine wp_seq ?_ | refine w_reg ?_ | refine l_nil ?_) | ((with_reducible refine g_on ?_); (first | ((with_reducible refine g_mv ?_); refine l_p txs rfl rfl ?_) | ((with_reducible refine g_as ?_); refine l_p txs rfl rfl ?_) | ((with_reducible refine g_cl ?_); refine l_p txs rfl rfl ?_))))
    (with_reducible refine is_l ?_); refine l_t txs rfl rfl (fun hne => ?_) (fun heq => ?_)
    · have hres : parseV (bl t) = none := by
        rw [hV]
        unfold tailV
        split
        · exact absurd (by simp) hne
        · rfl
      repeat' (first | (with_reducible first | refine p_tn ?_ | refine p_tr ?_ | refine wp_seq ?_ | refine w_reg ?_) | (with_reducible (refine is_if ?_; (refine w_ift rfl ?_))) | (with_reducible first | refine wp_ret ?_ | refine l_nil ?_) | ((with_reducible refine g_on ?_); (first | ((with_reducible refine g_as ?_); refine l_p txs rfl rfl ?_) | ((with_reducible refine g_ld ?_); (refine h_ldR recs H 0 rfl rfl rfl rfl rfl ?_)) | ((with_reducible refine g_st ?_); (refine h_stR recs H 1 rfl rfl rfl rfl rfl rfl rfl rfl rfl (fun w_ H => ?_))))))
      refine end_ct recs H 1 rfl rfl rfl rfl rfl rfl ?_
      exact pa_none hres _ _ _ _ _ _ _ H.B
    obtain ⟨a, b, d, hN⟩ : ∃ a b d, N = [a, b, d] := by
      match N, heq with
      | [a, b, d], _ => exact ⟨a, b, d, rfl⟩
      | [], h1 => exact absurd (by simp) h1
      | [_], h1 => exact absurd (by simp) h1
      | [_, _], h1 => exact absurd (by simp) h1
      | _ :: _ :: _ :: _ :: _, h1 => exact absurd (by simp; omega) h1
    subst hN
    obtain ⟨ma1, ma2⟩ := hsm a (by simp)
    obtain ⟨mb1, mb2⟩ := hsm b (by simp)
    obtain ⟨md1, md2⟩ := hsm d (by simp)
    have ba : Bytes a := fun y hy => bco y (ma1 y hy)
    have bb : Bytes b := fun y hy => bco y (mb1 y hy)
    have bd : Bytes d := fun y hy => bco y (md1 y hy)
    have za := sizeS' ba
    have zb := sizeS' bb
    have zd := sizeS' bd
    repeat' (first | (with_reducible first | refine p_tn ?_ | refine wp_seq ?_ | refine wp_block ?_ | refine w_reg ?_) | (with_reducible (refine is_if ?_; (refine w_iff rfl ?_))) | (with_reducible first | refine wp_skip ?_ | refine l_nil ?_) | ((with_reducible refine g_on ?_); (first | ((with_reducible refine g_mv ?_); refine l_p txs rfl rfl ?_) | ((with_reducible refine g_cl ?_); refine l_p txs rfl rfl ?_))))
    refine w_loop (σ := Nat) (S := fun s => [(2, .pointer (some ⟨g2, 0, none⟩)), (4, .pointer (some ⟨g4, 0, none⟩)), (6, .bool odd), (60, .slice (some ⟨gN, 0, none⟩) [a, b, d].length [a, b, d].length), (61, .int .i64 ([a, b, d].length : Int)), (62, .int .i64 (s : Int))])
      (J := fun s w' => Hp w w' [eVer g4 (if 1 ≤ s then strOfNums a else ⟨#[]⟩) (if 2 ≤ s then strOfNums b else ⟨#[]⟩) (if 3 ≤ s then strOfNums d else ⟨#[]⟩) A ws.length c odd, (g2, 91, zV)] [rowT (.slice (some ⟨gN, 0, none⟩) [a, b, d].length [a, b, d].length) [a, b, d], rowT (.slice A ws.length c) ws] ∧ s ≤ 3 ∧ (1 ≤ s → numB a = true) ∧ (2 ≤ s → numB b = true) ∧ (3 ≤ s → numB d = true)) (μ := fun s => 3 - s) 0 ⟨rfl, rfl, rfl, rfl, rfl, rfl, trivial⟩ ⟨H, by omega, fun h => by omega, fun h => by omega, fun h => by omega⟩ ?_
    clear H
    rintro s f w_ ⟨H, hs, k1, k2, k3⟩
    by_cases hs3 : s = 3
    · subst hs3
      have k1 := k1 (by omega)
      have k2 := k2 (by omega)
      have k3 := k3 (by omega)
      have H : Hp w w_ [eVer g4 (strOfNums a) (strOfNums b) (strOfNums d) A ws.length c odd, (g2, 91, zV)] [rowT (.slice (some ⟨gN, 0, none⟩) [a, b, d].length [a, b, d].length) [a, b, d], rowT (.slice A ws.length c) ws] := H
      have hV2 : parseV (bl t) = if (!odd || (decide (a ≠ [48]) && decide (a ≠ [49]))) then some ⟨a, b, d, ws, odd⟩ else none := by
        rw [hV]
        unfold tailV
        simp only [k1, k2, k3, Bool.true_and]
      have e48 : bl (⟨#[48]⟩ : ByteArray) = [48] := rfl
      have e49 : bl (⟨#[49]⟩ : ByteArray) = [49] := rfl
      repeat' (with_reducible first | refine wp_seq ?_ | refine w_reg ?_)
      (with_reducible refine is_l ?_); refine l_t txs rfl rfl (fun hh => absurd hh (show ¬ ((3 : Nat) : Int) < ((3 : Nat) : Int) by decide)) (fun _ => ?_)
      have fin : ∀ q : Bool, q = (!odd || (decide (a ≠ [48]) && decide (a ≠ [49]))) → ∀ w', Hp w w' [eVer g4 (strOfNums a) (strOfNums b) (strOfNums d) A ws.length c odd, eVer g2 (strOfNums a) (strOfNums b) (strOfNums d) A ws.length c odd] [rowT (.slice (some ⟨gN, 0, none⟩) [a, b, d].length [a, b, d].length) [a, b, d], rowT (.slice A ws.length c) ws] → PaR w (bl t) (.returned (.tuple #[.agg #[.string (strOfNums a), .string (strOfNums b), .string (strOfNums d), .slice A ws.length c, .bool odd], .bool q])) w' := fun q hq w' H => by
        rw [← hq] at hV2
        cases q
        · rw [if_neg (by simp)] at hV2
          exact pa_none hV2 _ _ _ _ _ _ _ H.B
        · rw [if_pos rfl] at hV2
          exact pa_some hV2 A c (H.pick [] [1] (by decide) (by decide) rfl rfl)
      have hq : (odd = false) ∨ (odd = true ∧ a = [48]) ∨ (odd = true ∧ a ≠ [48] ∧ a = [49]) ∨ (odd = true ∧ a ≠ [48] ∧ a ≠ [49]) := by
        cases odd
        · exact .inl rfl
        · by_cases h1 : a = [48]
          · exact .inr (.inl ⟨rfl, h1⟩)
          · by_cases h2 : a = [49]
            · exact .inr (.inr (.inl ⟨rfl, h1, h2⟩))
            · exact .inr (.inr (.inr ⟨rfl, h1, h2⟩))
      rcases hq with rfl | ⟨rfl, hA⟩ | ⟨rfl, hA, hB⟩ | ⟨rfl, hA, hB⟩
      all_goals
        repeat' (first | (with_reducible first | refine p_tn ?_ | refine p_tx ?_ | refine x_hit ?_ | refine wp_seq ?_) | (with_reducible (refine is_if ?_; (refine w_iff rfl ?_))) | (with_reducible first | refine wp_exit ?_ | refine l_nil ?_))
        have HS := H.pick [0] [0, 1] (by decide) (by decide) rfl rfl
        refine d_start (fun w_ => Hp w w_ _ _) #[false, false, false, false, false, false, false, false, false, false, false, false, false, false, false, false, false] (by kernel_rfl) rfl rfl HS.drew ?_
        have H := H.drew
        have HS := HS.drew
        first | (refine d_take (i := 0) #[true, false, false, false, false, false, false, false, false, false, false, false, false, false, false, false, false] rfl (by kernel_rfl) (fun _ _ _ h => h) rfl (fun w_ K => evLR_run (o := ⟨_, _, _, _, _, _⟩) recs rfl rfl (K.range 0 rfl) rfl) HS ?_)
        first | (refine d_pure (i := 1) #[true, true, false, false, false, false, false, false, false, false, false, false, false, false, false, false, false] rfl (by kernel_rfl) (fun _ _ _ h => h) rfl (fun w_ => evP_run (o := ⟨_, _, _, _, _, _⟩) txs rfl) ?_)
        first | (refine d_pure (i := 2) #[true, true, true, false, false, false, false, false, false, false, false, false, false, false, false, false, false] rfl (by kernel_rfl) (fun _ _ _ h => h) rfl (fun w_ => evP_run (o := ⟨_, _, _, _, _, _⟩) txs rfl) ?_)
        first | (refine d_pure (i := 3) #[true, true, true, true, false, false, false, false, false, false, false, false, false, false, false, false, false] rfl (by kernel_rfl) (fun _ _ _ h => h) rfl (fun w_ => evP_run (o := ⟨_, _, _, _, _, _⟩) txs rfl) ?_)
        first | (refine d_off (i := 4) #[true, true, true, true, true, false, false, false, false, false, false, false, false, false, false, false, false] rfl (by kernel_rfl) (fun _ _ _ h => h) rfl ?_) | (first | (refine d_pure (i := 4) #[true, true, true, true, true, false, false, false, false, false, false, false, false, false, false, false, false] rfl (by kernel_rfl) (fun _ _ _ h => h) rfl (fun w_ => evF_run (o := ⟨_, _, _, _, _, _⟩) flds rfl) ?_) | (refine d_pure (i := 4) #[true, true, true, true, true, false, false, false, false, false, false, false, false, false, false, false, false] rfl (by kernel_rfl) (fun _ _ _ h => h) rfl (fun w_ => evG_run (o := ⟨_, _, _, _, _, _⟩) flds rfl) ?_))
        first | (refine d_off (i := 5) #[true, true, true, true, true, true, false, false, false, false, false, false, false, false, false, false, false] rfl (by kernel_rfl) (fun _ _ _ h => h) rfl ?_) | (first | (refine d_pure (i := 5) #[true, true, true, true, true, true, false, false, false, false, false, false, false, false, false, false, false] rfl (by kernel_rfl) (fun _ _ _ h => h) rfl (fun w_ => evIaa_run (o := ⟨_, _, _, _, _, _⟩) Tryz.underlying87 info_str1 rfl rfl rfl (by decide) (by decide)) ?_))
        first | (refine d_off (i := 6) #[true, true, true, true, true, true, true, false, false, false, false, false, false, false, false, false, false] rfl (by kernel_rfl) (fun _ _ _ h => h) rfl ?_) | (first | (refine d_take (i := 6) #[true, true, true, true, true, true, true, false, false, false, false, false, false, false, false, false, false] rfl (by kernel_rfl) (fun _ _ _ h => h) rfl (fun w_ K => evL_run (o := ⟨_, _, _, _, _, _⟩) txs rfl (K.cellAt 0 rfl rfl)) HS ?_))
        first | (refine d_off (i := 7) #[true, true, true, true, true, true, true, true, false, false, false, false, false, false, false, false, false] rfl (by kernel_rfl) (fun _ _ _ h => h) rfl ?_) | (first | (refine d_pure (i := 7) #[true, true, true, true, true, true, true, true, false, false, false, false, false, false, false, false, false] rfl (by kernel_rfl) (fun _ _ _ h => h) rfl (fun w_ => (by first | exact evT_yes (o := ⟨_, _, _, _, _, _⟩) txs rfl (by rw [blS ba, e48]; exact hA) | exact evT_no (o := ⟨_, _, _, _, _, _⟩) txs rfl (by rw [blS ba, e48, hA]; exact fun h => h rfl))) ?_))
        first | (refine d_off (i := 8) #[true, true, true, true, true, true, true, true, true, false, false, false, false, false, false, false, false] rfl (by kernel_rfl) (fun _ _ _ h => h) rfl ?_) | (first | (refine d_pure (i := 8) #[true, true, true, true, true, true, true, true, true, false, false, false, false, false, false, false, false] rfl (by kernel_rfl) (fun _ _ _ h => h) rfl (fun w_ => evP_run (o := ⟨_, _, _, _, _, _⟩) txs rfl) ?_))
        first | (refine d_off (i := 9) #[true, true, true, true, true, true, true, true, true, true, false, false, false, false, false, false, false] rfl (by kernel_rfl) (fun _ _ _ h => h) rfl ?_) | (first | (refine d_pure (i := 9) #[true, true, true, true, true, true, true, true, true, true, false, false, false, false, false, false, false] rfl (by kernel_rfl) (fun _ _ _ h => h) rfl (fun w_ => evF_run (o := ⟨_, _, _, _, _, _⟩) flds rfl) ?_) | (refine d_pure (i := 9) #[true, true, true, true, true, true, true, true, true, true, false, false, false, false, false, false, false] rfl (by kernel_rfl) (fun _ _ _ h => h) rfl (fun w_ => evG_run (o := ⟨_, _, _, _, _, _⟩) flds rfl) ?_))
        first | (refine d_off (i := 10) #[true, true, true, true, true, true, true, true, true, true, true, false, false, false, false, false, false] rfl (by kernel_rfl) (fun _ _ _ h => h) rfl ?_) | (first | (refine d_pure (i := 10) #[true, true, true, true, true, true, true, true, true, true, true, false, false, false, false, false, false] rfl (by kernel_rfl) (fun _ _ _ h => h) rfl (fun w_ => evIaa_run (o := ⟨_, _, _, _, _, _⟩) Tryz.underlying87 info_str1 rfl rfl rfl (by decide) (by decide)) ?_))
        first | (refine d_off (i := 11) #[true, true, true, true, true, true, true, true, true, true, true, true, false, false, false, false, false] rfl (by kernel_rfl) (fun _ _ _ h => h) rfl ?_) | (first | (refine d_take (i := 11) #[true, true, true, true, true, true, true, true, true, true, true, true, false, false, false, false, false] rfl (by kernel_rfl) (fun _ _ _ h => h) rfl (fun w_ K => evL_run (o := ⟨_, _, _, _, _, _⟩) txs rfl (K.cellAt 0 rfl rfl)) HS ?_))
        first | (refine d_off (i := 12) #[true, true, true, true, true, true, true, true, true, true, true, true, true, false, false, false, false] rfl (by kernel_rfl) (fun _ _ _ h => h) rfl ?_) | (first | (refine d_pure (i := 12) #[true, true, true, true, true, true, true, true, true, true, true, true, true, false, false, false, false] rfl (by kernel_rfl) (fun _ _ _ h => h) rfl (fun w_ => (by first | exact evT_yes (o := ⟨_, _, _, _, _, _⟩) txs rfl (by rw [blS ba, e49]; exact hB) | exact evT_no (o := ⟨_, _, _, _, _, _⟩) txs rfl (by rw [blS ba, e49, hB]; exact fun h => h rfl))) ?_))
        first | (refine d_off (i := 13) #[true, true, true, true, true, true, true, true, true, true, true, true, true, true, false, false, false] rfl (by kernel_rfl) (fun _ _ _ h => h) rfl ?_) | (first | (refine d_pure (i := 13) #[true, true, true, true, true, true, true, true, true, true, true, true, true, true, false, false, false] rfl (by kernel_rfl) (fun _ _ _ h => h) rfl (fun w_ => evP_run (o := ⟨_, _, _, _, _, _⟩) txs rfl) ?_))
        first | (refine d_pure (i := 14) #[true, true, true, true, true, true, true, true, true, true, true, true, true, true, true, false, false] rfl (by kernel_rfl) (fun _ _ _ h => h) rfl (fun w_ => evP_run (o := ⟨_, _, _, _, _, _⟩) txs rfl) ?_)
        refine d_one (i := 15) #[true, true, true, true, true, true, true, true, true, true, true, true, true, true, true, true, false] rfl (by kernel_rfl) rfl ?_
        refine g_on ?_; ((with_reducible refine g_st ?_); (refine h_stR recs H 1 rfl rfl rfl rfl rfl rfl rfl rfl rfl (fun w_ H => ?_)))
        refine l_nil ?_
        have HS := H.pick [0] [0, 1] (by decide) (by decide) rfl rfl
        refine ⟨rfl, HS, ?_⟩
        first | (refine d_pure (i := 16) #[true, true, true, true, true, true, true, true, true, true, true, true, true, true, true, true, true] rfl (by kernel_rfl) (fun _ _ _ h => h) rfl (fun w_ => evP_run (o := ⟨_, _, _, _, _, _⟩) txs rfl) ?_)
        refine d_done rfl ?_
        repeat' (with_reducible first | refine p_tn ?_ | refine wp_ret ?_)
        refine end_ct recs H 1 rfl rfl rfl rfl rfl rfl ?_
        refine fin _ ?_ _ H
        first
        | rfl
        | (rw [hA]; rfl)
        | (rw [hB]; rfl)
        | (rw [decide_eq_true hA, decide_eq_true hB]; rfl)
    · have h012 : s = 0 ∨ s = 1 ∨ s = 2 := by omega
      rcases h012 with rfl | rfl | rfl
      have ny := isNumber_c (strOfNums a)
      rw [blS ba] at ny
      have hcell := rdT_cell (rowT_at H 0 rfl) (y := a) (i := 0) rfl
      obtain ⟨y, hy⟩ : ∃ y, y = a := ⟨_, rfl⟩
      rw [← hy] at ny hcell
      rotate_left
      have ny := isNumber_c (strOfNums b)
      rw [blS bb] at ny
      have hcell := rdT_cell (rowT_at H 0 rfl) (y := b) (i := 1) rfl
      obtain ⟨y, hy⟩ : ∃ y, y = b := ⟨_, rfl⟩
      rw [← hy] at ny hcell
      rotate_left
      have ny := isNumber_c (strOfNums d)
      rw [blS bd] at ny
      have hcell := rdT_cell (rowT_at H 0 rfl) (y := d) (i := 2) rfl
      obtain ⟨y, hy⟩ : ∃ y, y = d := ⟨_, rfl⟩
      rw [← hy] at ny hcell
      rotate_left
      all_goals
        repeat' (with_reducible first | refine wp_seq ?_ | refine w_reg ?_)
        (with_reducible refine is_l ?_); refine l_t txs rfl rfl (fun _ => ?_) (fun hh => absurd (by show ((_ : Nat) : Int) < ((3 : Nat) : Int); decide) hh)
        repeat' (first | (with_reducible first | refine p_tn ?_ | refine wp_seq ?_ | refine wp_block ?_ | refine w_reg ?_) | (with_reducible (refine is_if ?_; (refine w_ift rfl ?_))) | (with_reducible first | refine wp_skip ?_ | refine l_nil ?_) | ((with_reducible refine g_on ?_); (first | ((with_reducible refine g_mv ?_); refine l_p txs rfl rfl ?_) | ((with_reducible refine g_ia ?_); refine l_ia txs rfl rfl (by first | omega | assumption | decide) (by first | omega | assumption | decide) ?_))))
        (with_reducible refine is_l ?_); refine l_ld txs rfl rfl hcell ?_
        repeat' (first | (with_reducible first | refine p_tn ?_ | refine wp_seq ?_ | refine w_reg ?_ | refine l_nil ?_) | ((with_reducible refine g_on ?_); (first | ((with_reducible refine g_mv ?_); refine l_p txs rfl rfl ?_) | ((with_reducible refine g_as ?_); refine l_p txs rfl rfl ?_))))
        (with_reducible refine is_l ?_); refine l_callv rfl rfl (by kernel_rfl) (ny _ (by rw [hy]; omega)) (fun w_ K => ?_)
        have H := H.call K
        cases hnb : numB y
        · have hres : parseV (bl t) = none := by
            rw [hV]
            unfold tailV
            rw [hy] at hnb
            simp [hnb]
          repeat' (first | (with_reducible first | refine p_tn ?_ | refine p_tr ?_ | refine p_br ?_ | refine wp_seq ?_ | refine w_reg ?_) | (with_reducible (refine is_if ?_; (refine w_ift rfl ?_))) | (with_reducible first | refine wp_ret ?_ | refine l_nil ?_) | ((with_reducible refine g_on ?_); (first | ((with_reducible refine g_as ?_); refine l_p txs rfl rfl ?_) | ((with_reducible refine g_ld ?_); (refine h_ldR recs H 0 rfl rfl rfl rfl rfl ?_)) | ((with_reducible refine g_st ?_); (refine h_stR recs H 1 rfl rfl rfl rfl rfl rfl rfl rfl rfl (fun w_ H => ?_))) | ((with_reducible refine g_un ?_); (refine l_p txs rfl rfl ?_)))))
          refine end_ct recs H 1 rfl rfl rfl rfl rfl rfl ?_
          exact pa_none hres _ _ _ _ _ _ _ H.B
        · repeat' (first | (with_reducible first | refine p_tn ?_ | refine w_reg ?_) | (with_reducible (refine is_if ?_; (refine w_iff rfl ?_))) | (with_reducible first | refine wp_skip ?_ | refine l_nil ?_) | ((with_reducible refine g_on ?_); (first | ((with_reducible refine g_mv ?_); refine l_p txs rfl rfl ?_) | ((with_reducible refine g_fa ?_); refine h_fa flds rfl rfl ?_) | ((with_reducible refine g_un ?_); (refine l_p txs rfl rfl ?_)))))
          (with_reducible refine is_l ?_); refine l_iaa Tryz.underlying87 info_str1 rfl rfl rfl (by decide) (by decide) ?_
          repeat' (first | (with_reducible first | refine p_tn ?_ | refine p_bn ?_ | refine w_reg ?_ | refine l_nil ?_) | ((with_reducible refine g_on ?_); (first | ((with_reducible refine g_mv ?_); refine l_p txs rfl rfl ?_) | ((with_reducible refine g_st ?_); (refine h_st txs ones H 0 rfl rfl rfl rfl rfl rfl rfl rfl rfl (fun w_ H => ?_))) | ((with_reducible refine g_bi ?_); (refine l_a txs rfl rfl (by first | exact in_i64 (by omega) (by omega) | exact in_u8 (by omega) (by omega) | exact in_u64 (by omega) (by omega) | exact in_i32 (by omega) (by omega)) ?_)))))
          subst hy
          exact ⟨_ + 1, _, rfl, ⟨rfl, rfl, rfl, rfl, rfl, rfl, trivial⟩, ⟨H.pick [0, 1] [0, 1] (by decide) (by decide) rfl rfl, by decide, fun _ => by first | exact hnb | exact k1 (by decide), fun h => by first | exact hnb | exact k2 (by decide) | omega, fun h => by first | exact hnb | omega⟩, by decide⟩
  | some pr =>
    obtain ⟨core, pre⟩ := pr
    rw [hc] at hV
    obtain ⟨hsp1, _⟩ := cutC_some hc
    have haa : aheadC 45 body = core := by unfold aheadC; rw [hc]
    have hbe : behindC 45 body = pre := by unfold behindC; rw [hc]
    rw [haa] at hV ⊢
    rw [hbe, show (some (core, pre)).isSome = true from rfl]
    have hV : parseV (bl t) = if (splitC 46 pre).all wordB = false then none else tailV (splitC 46 core) (splitC 46 pre) odd := by rw [hV]; rfl
    have bco : Bytes core := fun y hy => bbo y (by rw [hsp1]; exact List.mem_append_left _ hy)
    have bpr : Bytes pre := fun y hy => bbo y (by rw [hsp1]; exact List.mem_append_right _ (List.mem_cons_of_mem _ hy))
    have hll : body.length = core.length + pre.length + 1 := by rw [hsp1]; simp; omega
    have zco := sizeS' bco
    have zpr := sizeS' bpr
    have hcl : core.length ≤ t.size := by omega
    repeat' (first | (with_reducible first | refine p_tn ?_ | refine wp_seq ?_ | refine w_reg ?_) | (with_reducible (refine is_if ?_; (refine w_ift rfl ?_))) | (with_reducible refine l_nil ?_) | ((with_reducible refine g_on ?_); (first | ((with_reducible refine g_mv ?_); refine l_p txs rfl rfl ?_) | ((with_reducible refine g_as ?_); refine l_p txs rfl rfl ?_) | ((with_reducible refine g_ex ?_); refine l_p txs rfl rfl ?_))))
    have hsp := split_c (strOfNums pre) 46 (by omega) w_ mx (H.old hM)
    rw [blS bpr, e46] at hsp
    (with_reducible refine is_l ?_); refine l_call rfl rfl (by kernel_rfl) hsp (fun e w_ hR => ?_)
    obtain ⟨gS, rfl, K⟩ := hR
    refine ⟨_, rfl, ?_⟩
    have hsm := split_mem 46 pre
    have hsl := split_len 46 pre
    generalize splitC 46 pre = W at K hsm hsl hV ⊢
    have hWl : (strC W).length = W.length := List.length_map _
    have H := (H.join K).entRow (by rw [hWl]; simp only [maxLen]; omega)
    rw [hWl] at H
    have H : Hp w w_ _ [rowT (.slice (some ⟨gS, 0, none⟩) W.length W.length) W] := H
    repeat' (first | (with_reducible first | refine p_tn ?_ | refine wp_seq ?_ | refine wp_block ?_ | refine w_reg ?_ | refine l_nil ?_) | ((with_reducible refine g_on ?_); (first | ((with_reducible refine g_mv ?_); refine l_p txs rfl rfl ?_) | ((with_reducible refine g_fa ?_); refine h_fa flds rfl rfl ?_) | ((with_reducible refine g_ld ?_); (refine h_ld txs H 0 rfl rfl rfl rfl ?_)) | ((with_reducible refine g_st ?_); (refine h_st txs ones H 0 rfl rfl rfl rfl rfl rfl rfl rfl rfl (fun w_ H => ?_))) | ((with_reducible refine g_cl ?_); refine l_p txs rfl rfl ?_))))
    refine w_loop (σ := Nat) (S := fun s => [(2, .pointer (some ⟨g2, 0, none⟩)), (4, .pointer (some ⟨g4, 0, none⟩)), (6, .bool odd), (7, .string (strOfNums core)), (43, .slice (some ⟨gS, 0, none⟩) W.length W.length), (44, .int .i64 (W.length : Int)), (45, .int .i64 (s : Int))])
      (J := fun s w' => Hp w w' [eVer g4 ⟨#[]⟩ ⟨#[]⟩ ⟨#[]⟩ (some ⟨gS, 0, none⟩) W.length W.length odd, (g2, 91, zV)] [rowT (.slice (some ⟨gS, 0, none⟩) W.length W.length) W] ∧ s ≤ W.length ∧ (W.take s).all wordB = true) (μ := fun s => W.length - s) 0 ⟨rfl, rfl, rfl, rfl, rfl, rfl, rfl, trivial⟩ ⟨H, Nat.zero_le _, rfl⟩ ?_
    clear H
    rintro i f w_ ⟨H, hi, ha⟩
    repeat' (with_reducible first | refine wp_seq ?_ | refine w_reg ?_)
    (with_reducible refine is_l ?_); refine l_t txs rfl rfl (fun hlt => ?_) (fun hge => ?_)
    · obtain ⟨y, hy⟩ : ∃ y, W[i]? = some y := ⟨_, List.getElem?_eq_getElem (by omega)⟩
      obtain ⟨m1, m2⟩ := hsm y (List.mem_of_getElem? hy)
      have by' : Bytes y := fun z hz => bpr z (m1 z hz)
      have zy := sizeS' by'
      have hcell := rdT_cell (rowT_at H 0 rfl) hy
      repeat' (first | (with_reducible first | refine p_tn ?_ | refine wp_seq ?_ | refine wp_block ?_ | refine w_reg ?_) | (with_reducible (refine is_if ?_; (refine w_ift rfl ?_))) | (with_reducible first | refine wp_skip ?_ | refine l_nil ?_) | ((with_reducible refine g_on ?_); ((with_reducible refine g_ia ?_); refine l_ia txs rfl rfl (by first | omega | assumption | decide) (by first | omega | assumption | decide) ?_)))
      (with_reducible refine is_l ?_); refine l_ld txs rfl rfl (by rw [Int.toNat_natCast]; exact hcell) ?_
      repeat' (first | (with_reducible first | refine p_tn ?_ | refine wp_seq ?_ | refine w_reg ?_ | refine l_nil ?_) | ((with_reducible refine g_on ?_); (first | ((with_reducible refine g_mv ?_); refine l_p txs rfl rfl ?_) | ((with_reducible refine g_as ?_); refine l_p txs rfl rfl ?_))))
      have hw := isWord_c (strOfNums y) w_ (by omega)
      rw [blS by'] at hw
      (with_reducible refine is_l ?_); refine l_callv rfl rfl (by kernel_rfl) hw (fun w_ K => ?_)
      have H := H.call K
      cases hwy : wordB y
      · have hres : parseV (bl t) = none := by
          rw [hV, if_pos]
          rw [List.all_eq_false]
          exact ⟨y, List.mem_of_getElem? hy, by rw [hwy]; simp⟩
        repeat' (first | (with_reducible first | refine p_tn ?_ | refine p_tr ?_ | refine p_br ?_ | refine wp_seq ?_ | refine w_reg ?_) | (with_reducible (refine is_if ?_; (refine w_ift rfl ?_))) | (with_reducible first | refine wp_ret ?_ | refine l_nil ?_) | ((with_reducible refine g_on ?_); (first | ((with_reducible refine g_as ?_); refine l_p txs rfl rfl ?_) | ((with_reducible refine g_ld ?_); (refine h_ldR recs H 0 rfl rfl rfl rfl rfl ?_)) | ((with_reducible refine g_st ?_); (refine h_stR recs H 1 rfl rfl rfl rfl rfl rfl rfl rfl rfl (fun w_ H => ?_))) | ((with_reducible refine g_un ?_); (refine l_p txs rfl rfl ?_)))))
        refine end_ct recs H 1 rfl rfl rfl rfl rfl rfl ?_
        exact pa_none hres _ _ _ _ _ _ _ H.B
      · have ha2 : (W.take (i + 1)).all wordB = true := by
          rw [List.take_succ_eq_append_getElem (by omega), List.all_append, ha, (List.getElem?_eq_some_iff.1 hy).2]
          simp [hwy]
        repeat' (first | (with_reducible first | refine p_tn ?_ | refine p_bn ?_ | refine w_reg ?_) | (with_reducible (refine is_if ?_; (refine w_iff rfl ?_))) | (with_reducible first | refine wp_skip ?_ | refine l_nil ?_) | ((with_reducible refine g_on ?_); (first | ((with_reducible refine g_mv ?_); refine l_p txs rfl rfl ?_) | ((with_reducible refine g_un ?_); (refine l_p txs rfl rfl ?_)) | ((with_reducible refine g_bi ?_); (refine l_a txs rfl rfl (by first | exact in_i64 (by omega) (by omega) | exact in_u8 (by omega) (by omega) | exact in_u64 (by omega) (by omega) | exact in_i32 (by omega) (by omega)) ?_)))))
        exact ⟨i + 1, _, rfl, ⟨rfl, rfl, rfl, rfl, rfl, rfl, rfl, trivial⟩, ⟨H.pick [0, 1] [0] (by decide) (by decide) rfl rfl, by omega, ha2⟩, by omega⟩
    · have hall : W.all wordB = true := by rw [← List.take_of_length_le (l := W) (i := i) (by omega)]; exact ha
      rw [if_neg (by rw [hall]; simp)] at hV
      obtain ⟨A, hA⟩ : ∃ x : Option Addr, x = some ⟨gS, 0, none⟩ := ⟨_, rfl⟩
      obtain ⟨c, hcc⟩ : ∃ x : Nat, x = W.length := ⟨_, rfl⟩
      obtain ⟨ws, hws⟩ : ∃ x : List L, x = W := ⟨_, rfl⟩
      rw [← hws] at hV
      have H : Hp w w_ [eVer g4 ⟨#[]⟩ ⟨#[]⟩ ⟨#[]⟩ A ws.length c odd, (g2, 91, zV)] [rowT (.slice A ws.length c) ws] := by rw [hws, hA, hcc]; exact H
      repeat' (first | (with_reducible first | refine p_tn ?_ | refine p_tx ?_ | refine x_hit ?_ | refine wp_seq ?_ | refine w_reg ?_) | (with_reducible (refine is_if ?_; (refine w_iff rfl ?_))) | (with_reducible first | refine wp_exit ?_ | refine l_nil ?_) | ((with_reducible refine g_on ?_); ((with_reducible refine g_mv ?_); refine l_p txs rfl rfl ?_)))
      have hsp := split_c (strOfNums core) 46 (by omega) w_ mx (H.old hM)
      rw [blS bco, e46] at hsp
      (with_reducible refine is_l ?_); refine l_call rfl rfl (by kernel_rfl) hsp (fun e w_ hR => ?_)
      obtain ⟨gN, rfl, K⟩ := hR
      refine ⟨_, rfl, ?_⟩
      have hsm := split_mem 46 core
      have hsl := split_len 46 core
      generalize splitC 46 core = N at K hsm hsl hV ⊢
      have hNl : (strC N).length = N.length := List.length_map _
      have H := (H.join K).entRow (by rw [hNl]; simp only [maxLen]; omega)
      rw [hNl] at H
      have H : Hp w w_ _ [rowT (.slice (some ⟨gN, 0, none⟩) N.length N.length) N, rowT (.slice A ws.length c) ws] := H
      repeat' (first | (with_reducible first | refine p_tn ?_ | refine wp_seq ?_ | refine w_reg ?_ | refine l_nil ?_) | ((with_reducible refine g_on ?_); (first | ((with_reducible refine g_mv ?_); refine l_p txs rfl rfl ?_) | ((with_reducible refine g_as ?_); refine l_p txs rfl rfl ?_) | ((with_reducible refine g_cl ?_); refine l_p txs rfl rfl ?_))))
      (with_reducible refine is_l ?_); refine l_t txs rfl rfl (fun hne => ?_) (fun heq => ?_)
      · have hres : parseV (bl t) = none := by
          rw [hV]
          unfold tailV
          split
          · exact absurd (by simp) hne
          · rfl
        repeat' (first | (with_reducible first | refine p_tn ?_ | refine p_tr ?_ | refine wp_seq ?_ | refine w_reg ?_) | (with_reducible (refine is_if ?_; (refine w_ift rfl ?_))) | (with_reducible first | refine wp_ret ?_ | refine l_nil ?_) | ((with_reducible refine g_on ?_); (first | ((with_reducible refine g_as ?_); refine l_p txs rfl rfl ?_) | ((with_reducible refine g_ld ?_); (refine h_ldR recs H 0 rfl rfl rfl rfl rfl ?_)) | ((with_reducible refine g_st ?_); (refine h_stR recs H 1 rfl rfl rfl rfl rfl rfl rfl rfl rfl (fun w_ H => ?_))))))
        refine end_ct recs H 1 rfl rfl rfl rfl rfl rfl ?_
        exact pa_none hres _ _ _ _ _ _ _ H.B
      obtain ⟨a, b, d, hN⟩ : ∃ a b d, N = [a, b, d] := by
        match N, heq with
        | [a, b, d], _ => exact ⟨a, b, d, rfl⟩
        | [], h1 => exact absurd (by simp) h1
        | [_], h1 => exact absurd (by simp) h1
        | [_, _], h1 => exact absurd (by simp) h1
        | _ :: _ :: _ :: _ :: _, h1 => exact absurd (by simp; omega) h1
      subst hN
      obtain ⟨ma1, ma2⟩ := hsm a (by simp)
      obtain ⟨mb1, mb2⟩ := hsm b (by simp)
      obtain ⟨md1, md2⟩ := hsm d (by simp)
      have ba : Bytes a := fun y hy => bco y (ma1 y hy)
      have bb : Bytes b := fun y hy => bco y (mb1 y hy)
      have bd : Bytes d := fun y hy => bco y (md1 y hy)
      have za := sizeS' ba
      have zb := sizeS' bb
      have zd := sizeS' bd
      repeat' (first | (with_reducible first | refine p_tn ?_ | refine wp_seq ?_ | refine wp_block ?_ | refine w_reg ?_) | (with_reducible (refine is_if ?_; (refine w_iff rfl ?_))) | (with_reducible first | refine wp_skip ?_ | refine l_nil ?_) | ((with_reducible refine g_on ?_); (first | ((with_reducible refine g_mv ?_); refine l_p txs rfl rfl ?_) | ((with_reducible refine g_cl ?_); refine l_p txs rfl rfl ?_))))
      refine w_loop (σ := Nat) (S := fun s => [(2, .pointer (some ⟨g2, 0, none⟩)), (4, .pointer (some ⟨g4, 0, none⟩)), (6, .bool odd), (60, .slice (some ⟨gN, 0, none⟩) [a, b, d].length [a, b, d].length), (61, .int .i64 ([a, b, d].length : Int)), (62, .int .i64 (s : Int))])
        (J := fun s w' => Hp w w' [eVer g4 (if 1 ≤ s then strOfNums a else ⟨#[]⟩) (if 2 ≤ s then strOfNums b else ⟨#[]⟩) (if 3 ≤ s then strOfNums d else ⟨#[]⟩) A ws.length c odd, (g2, 91, zV)] [rowT (.slice (some ⟨gN, 0, none⟩) [a, b, d].length [a, b, d].length) [a, b, d], rowT (.slice A ws.length c) ws] ∧ s ≤ 3 ∧ (1 ≤ s → numB a = true) ∧ (2 ≤ s → numB b = true) ∧ (3 ≤ s → numB d = true)) (μ := fun s => 3 - s) 0 ⟨rfl, rfl, rfl, rfl, rfl, rfl, trivial⟩ ⟨H, by omega, fun h => by omega, fun h => by omega, fun h => by omega⟩ ?_
      clear H
      rintro s f w_ ⟨H, hs, k1, k2, k3⟩
      by_cases hs3 : s = 3
      · subst hs3
        have k1 := k1 (by omega)
        have k2 := k2 (by omega)
        have k3 := k3 (by omega)
        have H : Hp w w_ [eVer g4 (strOfNums a) (strOfNums b) (strOfNums d) A ws.length c odd, (g2, 91, zV)] [rowT (.slice (some ⟨gN, 0, none⟩) [a, b, d].length [a, b, d].length) [a, b, d], rowT (.slice A ws.length c) ws] := H
        have hV2 : parseV (bl t) = if (!odd || (decide (a ≠ [48]) && decide (a ≠ [49]))) then some ⟨a, b, d, ws, odd⟩ else none := by
          rw [hV]
          unfold tailV
          simp only [k1, k2, k3, Bool.true_and]
        have e48 : bl (⟨#[48]⟩ : ByteArray) = [48] := rfl
        have e49 : bl (⟨#[49]⟩ : ByteArray) = [49] := rfl
        repeat' (with_reducible first | refine wp_seq ?_ | refine w_reg ?_)
        (with_reducible refine is_l ?_); refine l_t txs rfl rfl (fun hh => absurd hh (show ¬ ((3 : Nat) : Int) < ((3 : Nat) : Int) by decide)) (fun _ => ?_)
        have fin : ∀ q : Bool, q = (!odd || (decide (a ≠ [48]) && decide (a ≠ [49]))) → ∀ w', Hp w w' [eVer g4 (strOfNums a) (strOfNums b) (strOfNums d) A ws.length c odd, eVer g2 (strOfNums a) (strOfNums b) (strOfNums d) A ws.length c odd] [rowT (.slice (some ⟨gN, 0, none⟩) [a, b, d].length [a, b, d].length) [a, b, d], rowT (.slice A ws.length c) ws] → PaR w (bl t) (.returned (.tuple #[.agg #[.string (strOfNums a), .string (strOfNums b), .string (strOfNums d), .slice A ws.length c, .bool odd], .bool q])) w' := fun q hq w' H => by
          rw [← hq] at hV2
          cases q
          · rw [if_neg (by simp)] at hV2
            exact pa_none hV2 _ _ _ _ _ _ _ H.B
          · rw [if_pos rfl] at hV2
            exact pa_some hV2 A c (H.pick [] [1] (by decide) (by decide) rfl rfl)
        have hq : (odd = false) ∨ (odd = true ∧ a = [48]) ∨ (odd = true ∧ a ≠ [48] ∧ a = [49]) ∨ (odd = true ∧ a ≠ [48] ∧ a ≠ [49]) := by
          cases odd
          · exact .inl rfl
          · by_cases h1 : a = [48]
            · exact .inr (.inl ⟨rfl, h1⟩)
            · by_cases h2 : a = [49]
              · exact .inr (.inr (.inl ⟨rfl, h1, h2⟩))
              · exact .inr (.inr (.inr ⟨rfl, h1, h2⟩))
        rcases hq with rfl | ⟨rfl, hA⟩ | ⟨rfl, hA, hB⟩ | ⟨rfl, hA, hB⟩
        all_goals
          repeat' (first | (with_reducible first | refine p_tn ?_ | refine p_tx ?_ | refine x_hit ?_ | refine wp_seq ?_) | (with_reducible (refine is_if ?_; (refine w_iff rfl ?_))) | (with_reducible first | refine wp_exit ?_ | refine l_nil ?_))
          have HS := H.pick [0] [0, 1] (by decide) (by decide) rfl rfl
          refine d_start (fun w_ => Hp w w_ _ _) #[false, false, false, false, false, false, false, false, false, false, false, false, false, false, false, false, false] (by kernel_rfl) rfl rfl HS.drew ?_
          have H := H.drew
          have HS := HS.drew
          first | (refine d_take (i := 0) #[true, false, false, false, false, false, false, false, false, false, false, false, false, false, false, false, false] rfl (by kernel_rfl) (fun _ _ _ h => h) rfl (fun w_ K => evLR_run (o := ⟨_, _, _, _, _, _⟩) recs rfl rfl (K.range 0 rfl) rfl) HS ?_)
          first | (refine d_pure (i := 1) #[true, true, false, false, false, false, false, false, false, false, false, false, false, false, false, false, false] rfl (by kernel_rfl) (fun _ _ _ h => h) rfl (fun w_ => evP_run (o := ⟨_, _, _, _, _, _⟩) txs rfl) ?_)
          first | (refine d_pure (i := 2) #[true, true, true, false, false, false, false, false, false, false, false, false, false, false, false, false, false] rfl (by kernel_rfl) (fun _ _ _ h => h) rfl (fun w_ => evP_run (o := ⟨_, _, _, _, _, _⟩) txs rfl) ?_)
          first | (refine d_pure (i := 3) #[true, true, true, true, false, false, false, false, false, false, false, false, false, false, false, false, false] rfl (by kernel_rfl) (fun _ _ _ h => h) rfl (fun w_ => evP_run (o := ⟨_, _, _, _, _, _⟩) txs rfl) ?_)
          first | (refine d_off (i := 4) #[true, true, true, true, true, false, false, false, false, false, false, false, false, false, false, false, false] rfl (by kernel_rfl) (fun _ _ _ h => h) rfl ?_) | (first | (refine d_pure (i := 4) #[true, true, true, true, true, false, false, false, false, false, false, false, false, false, false, false, false] rfl (by kernel_rfl) (fun _ _ _ h => h) rfl (fun w_ => evF_run (o := ⟨_, _, _, _, _, _⟩) flds rfl) ?_) | (refine d_pure (i := 4) #[true, true, true, true, true, false, false, false, false, false, false, false, false, false, false, false, false] rfl (by kernel_rfl) (fun _ _ _ h => h) rfl (fun w_ => evG_run (o := ⟨_, _, _, _, _, _⟩) flds rfl) ?_))
          first | (refine d_off (i := 5) #[true, true, true, true, true, true, false, false, false, false, false, false, false, false, false, false, false] rfl (by kernel_rfl) (fun _ _ _ h => h) rfl ?_) | (first | (refine d_pure (i := 5) #[true, true, true, true, true, true, false, false, false, false, false, false, false, false, false, false, false] rfl (by kernel_rfl) (fun _ _ _ h => h) rfl (fun w_ => evIaa_run (o := ⟨_, _, _, _, _, _⟩) Tryz.underlying87 info_str1 rfl rfl rfl (by decide) (by decide)) ?_))
          first | (refine d_off (i := 6) #[true, true, true, true, true, true, true, false, false, false, false, false, false, false, false, false, false] rfl (by kernel_rfl) (fun _ _ _ h => h) rfl ?_) | (first | (refine d_take (i := 6) #[true, true, true, true, true, true, true, false, false, false, false, false, false, false, false, false, false] rfl (by kernel_rfl) (fun _ _ _ h => h) rfl (fun w_ K => evL_run (o := ⟨_, _, _, _, _, _⟩) txs rfl (K.cellAt 0 rfl rfl)) HS ?_))
          first | (refine d_off (i := 7) #[true, true, true, true, true, true, true, true, false, false, false, false, false, false, false, false, false] rfl (by kernel_rfl) (fun _ _ _ h => h) rfl ?_) | (first | (refine d_pure (i := 7) #[true, true, true, true, true, true, true, true, false, false, false, false, false, false, false, false, false] rfl (by kernel_rfl) (fun _ _ _ h => h) rfl (fun w_ => (by first | exact evT_yes (o := ⟨_, _, _, _, _, _⟩) txs rfl (by rw [blS ba, e48]; exact hA) | exact evT_no (o := ⟨_, _, _, _, _, _⟩) txs rfl (by rw [blS ba, e48, hA]; exact fun h => h rfl))) ?_))
          first | (refine d_off (i := 8) #[true, true, true, true, true, true, true, true, true, false, false, false, false, false, false, false, false] rfl (by kernel_rfl) (fun _ _ _ h => h) rfl ?_) | (first | (refine d_pure (i := 8) #[true, true, true, true, true, true, true, true, true, false, false, false, false, false, false, false, false] rfl (by kernel_rfl) (fun _ _ _ h => h) rfl (fun w_ => evP_run (o := ⟨_, _, _, _, _, _⟩) txs rfl) ?_))
          first | (refine d_off (i := 9) #[true, true, true, true, true, true, true, true, true, true, false, false, false, false, false, false, false] rfl (by kernel_rfl) (fun _ _ _ h => h) rfl ?_) | (first | (refine d_pure (i := 9) #[true, true, true, true, true, true, true, true, true, true, false, false, false, false, false, false, false] rfl (by kernel_rfl) (fun _ _ _ h => h) rfl (fun w_ => evF_run (o := ⟨_, _, _, _, _, _⟩) flds rfl) ?_) | (refine d_pure (i := 9) #[true, true, true, true, true, true, true, true, true, true, false, false, false, false, false, false, false] rfl (by kernel_rfl) (fun _ _ _ h => h) rfl (fun w_ => evG_run (o := ⟨_, _, _, _, _, _⟩) flds rfl) ?_))
          first | (refine d_off (i := 10) #[true, true, true, true, true, true, true, true, true, true, true, false, false, false, false, false, false] rfl (by kernel_rfl) (fun _ _ _ h => h) rfl ?_) | (first | (refine d_pure (i := 10) #[true, true, true, true, true, true, true, true, true, true, true, false, false, false, false, false, false] rfl (by kernel_rfl) (fun _ _ _ h => h) rfl (fun w_ => evIaa_run (o := ⟨_, _, _, _, _, _⟩) Tryz.underlying87 info_str1 rfl rfl rfl (by decide) (by decide)) ?_))
          first | (refine d_off (i := 11) #[true, true, true, true, true, true, true, true, true, true, true, true, false, false, false, false, false] rfl (by kernel_rfl) (fun _ _ _ h => h) rfl ?_) | (first | (refine d_take (i := 11) #[true, true, true, true, true, true, true, true, true, true, true, true, false, false, false, false, false] rfl (by kernel_rfl) (fun _ _ _ h => h) rfl (fun w_ K => evL_run (o := ⟨_, _, _, _, _, _⟩) txs rfl (K.cellAt 0 rfl rfl)) HS ?_))
          first | (refine d_off (i := 12) #[true, true, true, true, true, true, true, true, true, true, true, true, true, false, false, false, false] rfl (by kernel_rfl) (fun _ _ _ h => h) rfl ?_) | (first | (refine d_pure (i := 12) #[true, true, true, true, true, true, true, true, true, true, true, true, true, false, false, false, false] rfl (by kernel_rfl) (fun _ _ _ h => h) rfl (fun w_ => (by first | exact evT_yes (o := ⟨_, _, _, _, _, _⟩) txs rfl (by rw [blS ba, e49]; exact hB) | exact evT_no (o := ⟨_, _, _, _, _, _⟩) txs rfl (by rw [blS ba, e49, hB]; exact fun h => h rfl))) ?_))
          first | (refine d_off (i := 13) #[true, true, true, true, true, true, true, true, true, true, true, true, true, true, false, false, false] rfl (by kernel_rfl) (fun _ _ _ h => h) rfl ?_) | (first | (refine d_pure (i := 13) #[true, true, true, true, true, true, true, true, true, true, true, true, true, true, false, false, false] rfl (by kernel_rfl) (fun _ _ _ h => h) rfl (fun w_ => evP_run (o := ⟨_, _, _, _, _, _⟩) txs rfl) ?_))
          first | (refine d_pure (i := 14) #[true, true, true, true, true, true, true, true, true, true, true, true, true, true, true, false, false] rfl (by kernel_rfl) (fun _ _ _ h => h) rfl (fun w_ => evP_run (o := ⟨_, _, _, _, _, _⟩) txs rfl) ?_)
          refine d_one (i := 15) #[true, true, true, true, true, true, true, true, true, true, true, true, true, true, true, true, false] rfl (by kernel_rfl) rfl ?_
          refine g_on ?_; ((with_reducible refine g_st ?_); (refine h_stR recs H 1 rfl rfl rfl rfl rfl rfl rfl rfl rfl (fun w_ H => ?_)))
          refine l_nil ?_
          have HS := H.pick [0] [0, 1] (by decide) (by decide) rfl rfl
          refine ⟨rfl, HS, ?_⟩
          first | (refine d_pure (i := 16) #[true, true, true, true, true, true, true, true, true, true, true, true, true, true, true, true, true] rfl (by kernel_rfl) (fun _ _ _ h => h) rfl (fun w_ => evP_run (o := ⟨_, _, _, _, _, _⟩) txs rfl) ?_)
          refine d_done rfl ?_
          repeat' (with_reducible first | refine p_tn ?_ | refine wp_ret ?_)
          refine end_ct recs H 1 rfl rfl rfl rfl rfl rfl ?_
          refine fin _ ?_ _ H
          first
          | rfl
          | (rw [hA]; rfl)
          | (rw [hB]; rfl)
          | (rw [decide_eq_true hA, decide_eq_true hB]; rfl)
      · have h012 : s = 0 ∨ s = 1 ∨ s = 2 := by omega
        rcases h012 with rfl | rfl | rfl
        have ny := isNumber_c (strOfNums a)
        rw [blS ba] at ny
        have hcell := rdT_cell (rowT_at H 0 rfl) (y := a) (i := 0) rfl
        obtain ⟨y, hy⟩ : ∃ y, y = a := ⟨_, rfl⟩
        rw [← hy] at ny hcell
        rotate_left
        have ny := isNumber_c (strOfNums b)
        rw [blS bb] at ny
        have hcell := rdT_cell (rowT_at H 0 rfl) (y := b) (i := 1) rfl
        obtain ⟨y, hy⟩ : ∃ y, y = b := ⟨_, rfl⟩
        rw [← hy] at ny hcell
        rotate_left
        have ny := isNumber_c (strOfNums d)
        rw [blS bd] at ny
        have hcell := rdT_cell (rowT_at H 0 rfl) (y := d) (i := 2) rfl
        obtain ⟨y, hy⟩ : ∃ y, y = d := ⟨_, rfl⟩
        rw [← hy] at ny hcell
        rotate_left
        all_goals
          repeat' (with_reducible first | refine wp_seq ?_ | refine w_reg ?_)
          (with_reducible refine is_l ?_); refine l_t txs rfl rfl (fun _ => ?_) (fun hh => absurd (by show ((_ : Nat) : Int) < ((3 : Nat) : Int); decide) hh)
          repeat' (first | (with_reducible first | refine p_tn ?_ | refine wp_seq ?_ | refine wp_block ?_ | refine w_reg ?_) | (with_reducible (refine is_if ?_; (refine w_ift rfl ?_))) | (with_reducible first | refine wp_skip ?_ | refine l_nil ?_) | ((with_reducible refine g_on ?_); (first | ((with_reducible refine g_mv ?_); refine l_p txs rfl rfl ?_) | ((with_reducible refine g_ia ?_); refine l_ia txs rfl rfl (by first | omega | assumption | decide) (by first | omega | assumption | decide) ?_))))
          (with_reducible refine is_l ?_); refine l_ld txs rfl rfl hcell ?_
          repeat' (first | (with_reducible first | refine p_tn ?_ | refine wp_seq ?_ | refine w_reg ?_ | refine l_nil ?_) | ((with_reducible refine g_on ?_); (first | ((with_reducible refine g_mv ?_); refine l_p txs rfl rfl ?_) | ((with_reducible refine g_as ?_); refine l_p txs rfl rfl ?_))))
          (with_reducible refine is_l ?_); refine l_callv rfl rfl (by kernel_rfl) (ny _ (by rw [hy]; omega)) (fun w_ K => ?_)
          have H := H.call K
          cases hnb : numB y
          · have hres : parseV (bl t) = none := by
              rw [hV]
              unfold tailV
              rw [hy] at hnb
              simp [hnb]
            repeat' (first | (with_reducible first | refine p_tn ?_ | refine p_tr ?_ | refine p_br ?_ | refine wp_seq ?_ | refine w_reg ?_) | (with_reducible (refine is_if ?_; (refine w_ift rfl ?_))) | (with_reducible first | refine wp_ret ?_ | refine l_nil ?_) | ((with_reducible refine g_on ?_); (first | ((with_reducible refine g_as ?_); refine l_p txs rfl rfl ?_) | ((with_reducible refine g_ld ?_); (refine h_ldR recs H 0 rfl rfl rfl rfl rfl ?_)) | ((with_reducible refine g_st ?_); (refine h_stR recs H 1 rfl rfl rfl rfl rfl rfl rfl rfl rfl (fun w_ H => ?_))) | ((with_reducible refine g_un ?_); (refine l_p txs rfl rfl ?_)))))
            refine end_ct recs H 1 rfl rfl rfl rfl rfl rfl ?_
            exact pa_none hres _ _ _ _ _ _ _ H.B
          · repeat' (first | (with_reducible first | refine p_tn ?_ | refine w_reg ?_) | (with_reducible (refine is_if ?_; (refine w_iff rfl ?_))) | (with_reducible first | refine wp_skip ?_ | refine l_nil ?_) | ((with_reducible refine g_on ?_); (first | ((with_reducible refine g_mv ?_); refine l_p txs rfl rfl ?_) | ((with_reducible refine g_fa ?_); refine h_fa flds rfl rfl ?_) | ((with_reducible refine g_un ?_); (refine l_p txs rfl rfl ?_)))))
            (with_reducible refine is_l ?_); refine l_iaa Tryz.underlying87 info_str1 rfl rfl rfl (by decide) (by decide) ?_
            repeat' (first | (with_reducible first | refine p_tn ?_ | refine p_bn ?_ | refine w_reg ?_ | refine l_nil ?_) | ((with_reducible refine g_on ?_); (first | ((with_reducible refine g_mv ?_); refine l_p txs rfl rfl ?_) | ((with_reducible refine g_st ?_); (refine h_st txs ones H 0 rfl rfl rfl rfl rfl rfl rfl rfl rfl (fun w_ H => ?_))) | ((with_reducible refine g_bi ?_); (refine l_a txs rfl rfl (by first | exact in_i64 (by omega) (by omega) | exact in_u8 (by omega) (by omega) | exact in_u64 (by omega) (by omega) | exact in_i32 (by omega) (by omega)) ?_)))))
            subst hy
            exact ⟨_ + 1, _, rfl, ⟨rfl, rfl, rfl, rfl, rfl, rfl, trivial⟩, ⟨H.pick [0, 1] [0, 1] (by decide) (by decide) rfl rfl, by decide, fun _ => by first | exact hnb | exact k1 (by decide), fun h => by first | exact hnb | exact k2 (by decide) | omega, fun h => by first | exact hnb | omega⟩, by decide⟩
end Go.Proofs.YtnimaenhijlcmaaGreatDoor.K
