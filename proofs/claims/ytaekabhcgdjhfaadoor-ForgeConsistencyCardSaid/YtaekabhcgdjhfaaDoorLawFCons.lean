import Derived.Test.YtaekabhcgdjhfaaDoorForgePart
import Derived.Test.YtaekabhcgdjhfaaDoorVerifyCons2
import Derived.Test.YtaekabhcgdjhfaaDoorConsPlain
import Derived.Test.YtaekabhcgdjhfaaDoorForgeLives
/- What a claim says: lengths, agreement of leaves. Plain. -/
namespace Go.Proofs.YtaekabhcgdjhfaaDoor
open Go.ChangeShapes Go.WideShapes Go.ChangeAt Go.RowKit
set_option linter.unusedVariables false
theorem fSays_congr (said : Int × Int → Option (List UInt8)) (lv lv' : Int → List UInt8) : ∀ (f : Nat) (b e : Int), (∀ i, fBare said f b e i → lv i = lv' i) → fSays said lv f b e = fSays said lv' f b e
  | 0, b, e, h => by
    rw [fSays, fSays]
    cases q : said (b, e) with
    | some x => rfl
    | none => exact h b ⟨q, rfl⟩
  | f + 1, b, e, h => by
    rw [fSays, fSays]
    cases q : said (b, e) with
    | some x => rfl
    | none =>
      simp only
      by_cases h2 : e - b < 2
      · rw [if_pos h2, if_pos h2]; exact h b ⟨q, by rw [if_pos h2]⟩
      · rw [if_neg h2, if_neg h2, fSays_congr said lv lv' f b _ (fun i hi => h i ⟨q, by rw [if_neg h2]; exact .inl hi⟩), fSays_congr said lv lv' f _ e (fun i hi => h i ⟨q, by rw [if_neg h2]; exact .inr hi⟩)]
theorem fWalk_len (said : Int × Int → Option (List UInt8)) (lv : Int → List UInt8) (L : List ByteArray) (xt yt : Int → List UInt8) (M : Nat) (h64 : 64 ≤ M) (hx : ∀ i, (xt i).length ≤ M) (hy : ∀ i, (yt i).length ≤ M) (hll : ∀ i, (lv i).length = 32) (hs : ∀ p h, said p = some h → h.length = 32) :
    ∀ (f : Nat) (b e : Int) (r : List UInt8 × List UInt8), fWalk said lv L xt yt f b e = some r → r.1.length ≤ M + 1 ∧ r.2.length ≤ M + 1
  | 0, b, e, r, h => by
    rw [fWalk] at h
    cases q : said (b, e) with
    | some x => rw [q] at h; cases h
    | none =>
      rw [q] at h
      simp only at h
      split at h
      · cases h
      · cases h
        exact ⟨Nat.succ_le_succ (hx b), Nat.succ_le_succ (hy b)⟩
  | f + 1, b, e, r, h => by
    rw [fWalk] at h
    cases q : said (b, e) with
    | some x => rw [q] at h; cases h
    | none =>
      rw [q] at h
      simp only at h
      by_cases h2 : e - b < 2
      · rw [if_pos h2] at h
        split at h
        · cases h
        · cases h
          exact ⟨Nat.succ_le_succ (hx b), Nat.succ_le_succ (hy b)⟩
      · rw [if_neg h2] at h
        split at h
        · cases q1 : fWalk said lv L xt yt f b (b + blwI (e - b)) with
          | some r1 =>
            rw [q1] at h
            cases h
            exact fWalk_len said lv L xt yt M h64 hx hy hll hs f _ _ _ q1
          | none =>
            rw [q1] at h
            exact fWalk_len said lv L xt yt M h64 hx hy hll hs f _ _ _ h
        · cases h
          have l1 := treeB_len L b (b + blwI (e - b))
          have l2 := treeB_len L (b + blwI (e - b)) e
          have l3 := fSays_len said lv hs hll f b (b + blwI (e - b))
          have l4 := fSays_len said lv hs hll f (b + blwI (e - b)) e
          refine ⟨?_, ?_⟩ <;> (rw [List.length_cons, List.length_append]; omega)
theorem zip_32 {l : List (Int × Int)} {P : List (List UInt8)} (h : H32 P) : ∀ p h', saidL (l.zip P) p = some h' → h'.length = 32 := fun p h' q => by
  obtain ⟨x, hx, rfl⟩ := saidL_mem q
  exact h _ (List.of_mem_zip hx).2
theorem leafG_text (L : List ByteArray) (i : Int) : leafG L i = shaB (0 :: logText L i) := by unfold leafG logText; exact leafH_eq _
theorem claim_text (D : List ByteArray) (x i : Int) : claimLeaf D x i = shaB (0 :: claimText D x i) := by unfold claimLeaf claimText; exact leafH_eq _
theorem getD_size {L : List ByteArray} {M : Nat} (h : ∀ s ∈ L, s.size ≤ M) (i : Nat) : (L.getD i ByteArray.empty).size ≤ M := by
  rw [List.getD_eq_getElem?_getD]
  cases q : L[i]? with
  | none => exact Nat.zero_le _
  | some s => exact h s (List.mem_of_getElem? q)
end Go.Proofs.YtaekabhcgdjhfaaDoor

/- What a path that verifies says, where its leaf is another than the log's. Plain. -/
namespace Go.Proofs.YtaekabhcgdjhfaaDoor
open Go.ChangeShapes Go.WideShapes Go.ChangeAt Go.RowKit
set_option linter.unusedVariables false
theorem fSays_said {said : Int × Int → Option (List UInt8)} {lv : Int → List UInt8} {f : Nat} {b e : Int} {h : List UInt8} (q : said (b, e) = some h) : fSays said lv f b e = h := by
  cases f <;> (rw [fSays, q])
theorem fBare_said {said : Int × Int → Option (List UInt8)} {f : Nat} {b e i : Int} {h : List UInt8} (q : said (b, e) = some h) : ¬ fBare said f b e i := by
  cases f <;> (rw [fBare, q]; simp)
theorem snoc_of {α : Type} {P : List α} {n : Nat} (h : P.length = n + 1) : ∃ P' q, P = P' ++ [q] ∧ P'.length = n := by
  rcases List.eq_nil_or_concat P with e | ⟨P', q, e⟩
  · rw [e] at h; simp at h
  · refine ⟨P', q, by simpa using e, ?_⟩
    rw [e] at h; simpa using h
theorem path_fold (said : Int × Int → Option (List UInt8)) (lv : Int → List UInt8) : ∀ (f : Nat) (ix b e : Int) (P : List (List UInt8)), b ≤ ix → ix < e → e - b ≤ pow2 f → f ≤ 64 → P.length = (pathL f ix b e).length →
    (∀ p : Int × Int, b ≤ p.1 → p.1 < p.2 → p.2 ≤ e → said p = saidL ((pathL f ix b e).zip P) p) →
    bot nodeH (f + 1) (ix - b).toNat (e - b).toNat (lv ix) P = some (fSays said lv f b e) ∧ ∀ i, fBare said f b e i ↔ i = ix
  | 0, ix, b, e, P, h1, h2, hp, h64, hl, hs => by
    rw [pow2_zero] at hp
    obtain rfl : ix = b := by omega
    have hsb := hs (ix, e) (by simp) (by simpa using h2) (by simp)
    obtain rfl : P = [] := by simpa [pathL] using hl
    have hq : said (ix, e) = none := by rw [hsb]; rfl
    rw [bot_one nodeH (by omega), fSays, hq]
    refine ⟨rfl, fun i => ?_⟩
    rw [fBare, hq]; simp
  | f + 1, ix, b, e, P, h1, h2, hp, h64, hl, hs => by
    have hsb := hs (b, e) (by simp) (by simp; omega) (by simp)
    by_cases h3 : e - b < 2
    · obtain rfl : ix = b := by omega
      have e0 : pathL (f + 1) ix ix e = [] := by rw [pathL, if_pos h3]
      rw [e0] at hl hsb
      obtain rfl : P = [] := by simpa using hl
      have hq : said (ix, e) = none := by rw [hsb]; rfl
      rw [bot_one nodeH (by omega), fSays, hq]
      refine ⟨by simp only [if_pos h3], fun i => ?_⟩
      rw [fBare, hq, if_pos h3]; simp
    · have hb := blwI_bd (n := e - b) (by omega)
      have hk := blwI_le_pow (n := e - b) (f := f) (by omega) hp
      have hps := pow2_succ f
      have hp64 := pow2_le (show f + 1 ≤ 64 by omega)
      have hn := pow2_nat hp (by omega)
      have e1 : blw (e - b).toNat = (blwI (e - b)).toNat := (blwI_toNat (by omega)).symm
      obtain ⟨k, hk'⟩ : ∃ k, blwI (e - b) = k := ⟨_, rfl⟩
      rw [hk'] at hb hk e1
      have hnk : k.toNat ≤ 2 ^ f := pow2_nat (by omega) (by omega)
      by_cases hx : ix < b + k
      · have ep : pathL (f + 1) ix b e = pathL f ix b (b + k) ++ [(b + k, e)] := by rw [pathL, if_neg h3, hk', if_pos hx]
        rw [ep, List.length_append] at hl
        obtain ⟨P', q, rfl, hl'⟩ := snoc_of (n := (pathL f ix b (b + k)).length) hl
        have hz : (pathL (f + 1) ix b e).zip (P' ++ [q]) = (pathL f ix b (b + k)).zip P' ++ [((b + k, e), q)] := by
          rw [ep, List.zip_append hl'.symm]; rfl
        have inA : ∀ s ∈ pathL f ix b (b + k), b ≤ s.1 ∧ s.1 < s.2 ∧ s.2 ≤ b + k := fun s h => by
          have := pathL_in f ix b (b + k) s h1 hx (by omega) h; omega
        have hq : said (b, e) = none := by
          rw [hsb, hz, saidL_snoc, if_neg (by simp; omega)]
          exact zip_ne (fun s h e' => by have := inA s h; rw [e'] at this; simp at this; omega)
        have hr : said (b + k, e) = some q := by
          rw [hs (b + k, e) (by simp; omega) (by simp; omega) (by simp), hz, saidL_snoc, if_pos rfl]
        obtain ⟨ih, ib⟩ := path_fold said lv f ix b (b + k) P' h1 hx (by omega) (by omega) hl' (fun p p1 p2 p3 => by
          rw [hs p p1 p2 (by omega), hz, saidL_snoc, if_neg (fun e' => by rw [← e'] at p3; simp at p3; omega)])
        rw [show b + k - b = k by omega] at ih
        refine ⟨?_, fun i => ?_⟩
        · rw [fSays, hq]
          simp only [if_neg h3, hk']
          rw [fSays_said (f := f) (lv := lv) hr]
          refine bot_left nodeH (f + 1) (ix - b).toNat (e - b).toNat (lv ix) _ _ _ (by omega) hn (by rw [e1]; omega) ?_
          rw [e1, ← bot_fuel nodeH f (f + 1) _ _ _ _ (by omega) (by have := Nat.pow_succ 2 f; omega)]; exact ih
        · rw [fBare, hq, if_neg h3, hk', ib i]
          have := fBare_said (f := f) (i := i) hr
          simp [this]
      · have ep : pathL (f + 1) ix b e = pathL f ix (b + k) e ++ [(b, b + k)] := by rw [pathL, if_neg h3, hk', if_neg hx]
        rw [ep, List.length_append] at hl
        obtain ⟨P', q, rfl, hl'⟩ := snoc_of (n := (pathL f ix (b + k) e).length) hl
        have hz : (pathL (f + 1) ix b e).zip (P' ++ [q]) = (pathL f ix (b + k) e).zip P' ++ [((b, b + k), q)] := by
          rw [ep, List.zip_append hl'.symm]; rfl
        have inA : ∀ s ∈ pathL f ix (b + k) e, b + k ≤ s.1 ∧ s.1 < s.2 ∧ s.2 ≤ e := fun s h => by
          have := pathL_in f ix (b + k) e s (by omega) h2 (by omega) h; omega
        have hq : said (b, e) = none := by
          rw [hsb, hz, saidL_snoc, if_neg (by simp; omega)]
          exact zip_ne (fun s h e' => by have := inA s h; rw [e'] at this; simp at this; omega)
        have hr : said (b, b + k) = some q := by
          rw [hs (b, b + k) (by simp) (by simp; omega) (by simp; omega), hz, saidL_snoc, if_pos rfl]
        obtain ⟨ih, ib⟩ := path_fold said lv f ix (b + k) e P' (by omega) h2 (by omega) (by omega) hl' (fun p p1 p2 p3 => by
          rw [hs p (by omega) p2 p3, hz, saidL_snoc, if_neg (fun e' => by rw [← e'] at p1; simp at p1; omega)])
        rw [show e - (b + k) = e - b - k by omega, show ix - (b + k) = ix - b - k by omega] at ih
        refine ⟨?_, fun i => ?_⟩
        · rw [fSays, hq]
          simp only [if_neg h3, hk']
          rw [fSays_said (f := f) (lv := lv) hr]
          refine bot_right nodeH (f + 1) (ix - b).toNat (e - b).toNat (lv ix) _ _ _ (by omega) hn (by rw [e1]; omega) (by omega) ?_
          have hnk2 : (e - b - k).toNat ≤ 2 ^ f := pow2_nat (by omega) (by omega)
          rw [e1, show (e - b).toNat - k.toNat = (e - b - k).toNat by omega, show (ix - b).toNat - k.toNat = (ix - b - k).toNat by omega, ← bot_fuel nodeH f (f + 1) _ _ _ _ hnk2 (by have := Nat.pow_succ 2 f; omega)]; exact ih
        · rw [fBare, hq, if_neg h3, hk', ib i]
          have := fBare_said (f := f) (i := i) hr
          simp [this]
theorem bot_len {α β : Type} (n1 : α → α → α) (n2 : β → β → β) : ∀ (f n size : Nat) (h : α) (ps : List α) (r : α) (h' : β) (ps' : List β) (r' : β), bot n1 f n size h ps = some r → bot n2 f n size h' ps' = some r' → ps.length = ps'.length
  | 0, n, size, h, ps, r, h', ps', r', q1, q2 => by
    rw [bot] at q1 q2
    split at q1
    · split at q2
      · rename_i e1 e2; rw [e1, e2]; rfl
      · cases q2
    · cases q1
  | f + 1, n, size, h, ps, r, h', ps', r', q1, q2 => by
    by_cases h1 : size ≤ 1
    · rw [bot_one _ h1] at q1 q2
      cases ps with
      | cons a b => cases q1
      | nil => cases ps' with
        | cons a b => cases q2
        | nil => rfl
    · by_cases he : n % 2 = 0 ∧ n = size - 1
      · rw [bot_last _ (by omega) he] at q1 q2
        exact bot_len n1 n2 f _ _ _ _ _ _ _ _ q1 q2
      · cases ps with
        | nil => rw [bot_nil _ (by omega) he] at q1; cases q1
        | cons p ps =>
          cases ps' with
          | nil => rw [bot_nil _ (by omega) he] at q2; cases q2
          | cons p' ps' =>
            by_cases ho : n % 2 = 1
            · rw [bot_odd _ (by omega) ho] at q1 q2
              have := bot_len n1 n2 f _ _ _ _ _ _ _ _ q1 q2
              simp [this]
            · rw [bot_even _ (by omega) (by omega) (by omega)] at q1 q2
              have := bot_len n1 n2 f _ _ _ _ _ _ _ _ q1 q2
              simp [this]
/-- what a path says that the root is -/
def pathR (ix sz : Nat) (lf : List UInt8) (P : List (List UInt8)) : List UInt8 := fSays (saidL ((pathL 64 ix 0 sz).zip P)) (fun _ => lf) 64 0 sz
theorem path_bot {ix sz : Nat} (lf : List UInt8) {P : List (List UInt8)} (h1 : ix < sz) (h2 : sz ≤ 9223372036854775808) (hl : P.length = (pathL 64 ix 0 sz).length) : bot nodeH 65 ix (sz - 1 + 1) lf P = some (pathR ix sz lf P) := by
  have := (path_fold (saidL ((pathL 64 ix 0 sz).zip P)) (fun _ => lf) 64 ix 0 sz P (by omega) (by omega) (by rw [pow2_64]; omega) (by omega) hl (fun p _ _ _ => rfl)).1
  rw [show ((ix : Int) - 0).toNat = ix by omega, show ((sz : Int) - 0).toNat = sz - 1 + 1 by omega] at this
  exact this
theorem path_says {ix sz : Nat} (lf : List UInt8) {P : List (List UInt8)} (h1 : ix < sz) (h2 : sz ≤ 9223372036854775808) (hl : P.length = (pathL 64 ix 0 sz).length) : Says nodeH ix (sz - 1) lf P (pathR ix sz lf P) :=
  ⟨64, by omega, path_bot lf h1 h2 hl⟩
theorem path_not {ix sz : Nat} (lf : List UInt8) {P : List (List UInt8)} (h1 : ix < sz) (h2 : sz ≤ 9223372036854775808) (hl : P.length ≠ (pathL 64 ix 0 sz).length) : SaysN nodeH ix (sz - 1) lf P := by
  refine ⟨64, by omega, ?_⟩
  cases q : bot nodeH 65 ix (sz - 1 + 1) lf P with
  | none => rfl
  | some r =>
    have := path_bot (P := List.replicate (pathL 64 ix 0 sz).length zeroH) lf h1 h2 (by simp)
    have := bot_len nodeH nodeH 65 ix (sz - 1 + 1) lf P r lf _ _ q this
    rw [List.length_replicate] at this
    exact absurd this hl
theorem pathR_len {ix sz : Nat} {lf : List UInt8} {P : List (List UInt8)} (h32 : H32 P) (hl : lf.length = 32) : (pathR ix sz lf P).length = 32 := fSays_len _ _ (zip_32 h32) (fun _ => hl) _ _ _
/-- does the path lead to the log's root? -/
def verP (ix sz : Nat) (L : List ByteArray) (d : ByteArray) (P : List (List UInt8)) : Prop := P.length = (pathL 64 ix 0 sz).length ∧ pathR ix sz (leafH d) P = treeB L 0 sz
theorem claim_incl {L : List ByteArray} {d : ByteArray} {P : List (List UInt8)} {ix sz : Nat} (hL : LogOk L) (h1 : ix < sz) (hs : sz ≤ L.length) (hv : verP ix sz L d P) (hne : L[ix]? ≠ some d) (h32 : H32 P) (hM : d.size ≤ 10000000) :
    (∃ r, fWalk (saidL ((pathL 64 ix 0 sz).zip P)) (claimLeaf [d] ix) L (logText L) (claimText [d] ix) 64 0 sz = some r ∧ r.1 ≠ r.2 ∧ shaB r.1 = shaB r.2 ∧ r.1.length ≤ 10000001 ∧ r.2.length ≤ 10000001) ∧
    ∀ i, fBare (saidL ((pathL 64 ix 0 sz).zip P)) 64 0 sz i → i = ix := by
  have hL1 := hL.1
  have h64 : (sz : Int) - 0 ≤ pow2 64 := by rw [pow2_64]; omega
  have hv2 := hv.2
  unfold pathR at hv2
  have hf := path_fold (saidL ((pathL 64 ix 0 sz).zip P)) (fun _ => leafH d) 64 ix 0 sz P (by omega) (by omega) h64 (by omega) hv.1 (fun p _ _ _ => rfl)
  have hs32 := zip_32 (l := pathL 64 ix 0 sz) h32
  obtain ⟨said, hsd⟩ : ∃ f, saidL ((pathL 64 ix 0 sz).zip P) = f := ⟨_, rfl⟩
  rw [hsd] at hf hv2 hs32 ⊢
  have hb : ∀ i, fBare said 64 0 sz i ↔ i = ix := hf.2
  have hn0 : said (0, (sz : Int)) = none := ((hb ix).2 rfl).1
  have hcl : claimLeaf [d] ix ix = leafH d := by unfold claimLeaf; rw [Int.sub_self]; rfl
  have hroot : fSays said (claimLeaf [d] ix) 64 0 sz = treeB L 0 sz := by
    rw [fSays_congr said (claimLeaf [d] ix) (fun _ => leafH d) 64 0 sz (fun i hi => by rw [(hb i).1 hi]; exact hcl)]
    exact hv2
  refine ⟨?_, fun i hi => (hb i).1 hi⟩
  cases q : fWalk said (claimLeaf [d] ix) L (logText L) (claimText [d] ix) 64 0 sz with
  | some r =>
    have ht := fWalk_two said (claimLeaf [d] ix) L (logText L) (claimText [d] ix) (leafG_text L) (claim_text [d] ix) hs32 64 0 sz (by omega) h64 (by omega) hn0 hroot r q
    have hl := fWalk_len said (claimLeaf [d] ix) L (logText L) (claimText [d] ix) 10000000 (by omega) (fun i => by unfold logText; rw [bOf_length]; have := getD_size hL.2 i.toNat; omega) (fun i => by unfold claimText; rw [bOf_length]; exact getD_size (M := 10000000) (fun s hs => by simp at hs; subst hs; exact hM) _) (fun i => leafH_length _) hs32 64 0 sz r q
    exact ⟨r, rfl, ht.1, ht.2, hl.1, hl.2⟩
  | none =>
    exfalso
    have ha := fWalk_none said (claimLeaf [d] ix) L (logText L) (claimText [d] ix) (claim_text [d] ix) hs32 64 0 sz (by omega) h64 (by omega) hroot q ix ((hb ix).2 rfl)
    unfold logText claimText at ha
    have := bOf_inj ha
    rw [Int.sub_self, Int.toNat_natCast, List.getD_eq_getElem?_getD] at this
    obtain ⟨y, hy⟩ : ∃ y, L[ix]? = some y := ⟨_, List.getElem?_eq_getElem (by omega)⟩
    rw [hy] at this
    exact hne (by rw [hy]; exact congrArg some this)
end Go.Proofs.YtaekabhcgdjhfaaDoor

/- What a consistency proof that verifies says, where its old root is another than the log's. Plain. -/
namespace Go.Proofs.YtaekabhcgdjhfaaDoor
open Go.ChangeShapes Go.WideShapes Go.ChangeAt Go.RowKit
set_option linter.unusedVariables false
/-- the stretches that are told and that one meets -/
def fReach (said : Int × Int → Option (List UInt8)) : Nat → Int → Int → Int × Int → Prop
  | 0, b, e, p => said (b, e) ≠ none ∧ p = (b, e)
  | f + 1, b, e, p => (said (b, e) ≠ none ∧ p = (b, e)) ∨ (said (b, e) = none ∧ 2 ≤ e - b ∧ (fReach said f b (b + blwI (e - b)) p ∨ fReach said f (b + blwI (e - b)) e p))
theorem fReach_said {said : Int × Int → Option (List UInt8)} {f : Nat} {b e : Int} {h : List UInt8} (q : said (b, e) = some h) : fReach said f b e (b, e) := by
  cases f with
  | zero => exact ⟨by rw [q]; simp, rfl⟩
  | succ f => exact .inl ⟨by rw [q]; simp, rfl⟩
theorem fWalk_reach (said : Int × Int → Option (List UInt8)) (lv : Int → List UInt8) (L : List ByteArray) (xt yt : Int → List UInt8) (hs : ∀ p h, said p = some h → h.length = 32) (hll : ∀ i, (lv i).length = 32) :
    ∀ (f : Nat) (b e : Int), b < e → e - b ≤ pow2 f → f ≤ 64 → fSays said lv f b e = treeB L b e → fWalk said lv L xt yt f b e = none → ∀ p, fReach said f b e p → ∀ h, said p = some h → h = treeB L p.1 p.2
  | 0, b, e, h0, hp, h64, hq, hr, p, hi, h, hh => by
    obtain ⟨hn, rfl⟩ := hi
    rw [fSays_said hh] at hq
    exact hq
  | f + 1, b, e, h0, hp, h64, hq, hr, p, hi, h, hh => by
    rcases hi with ⟨hn, rfl⟩ | ⟨hn, h2, hi⟩
    · rw [fSays_said hh] at hq
      exact hq
    · rw [fWalk, hn] at hr
      simp only at hr
      rw [fSays, hn] at hq
      simp only at hq
      have h2' : ¬ e - b < 2 := by omega
      have hb := blwI_bd (n := e - b) (by omega)
      have hk := blwI_le_pow (n := e - b) (f := f) (by omega) hp
      have hps := pow2_succ f
      have hp64 : e - b ≤ pow2 64 := Int.le_trans hp (pow2_le (by omega))
      rw [if_neg h2'] at hr hq
      split at hr
      · rename_i heq
        have hl := List.append_inj heq (by rw [treeB_len, fSays_len said lv hs hll])
        cases q : fWalk said lv L xt yt f b (b + blwI (e - b)) with
        | some r1 => rw [q] at hr; cases hr
        | none =>
          rw [q] at hr
          simp only at hr
          rcases hi with hi | hi
          · exact fWalk_reach said lv L xt yt hs hll f b _ (by omega) (by omega) (by omega) hl.1.symm q p hi h hh
          · exact fWalk_reach said lv L xt yt hs hll f _ e (by omega) (by omega) (by omega) hl.2.symm hr p hi h hh
      · cases hr
/-- what a proof says: of the new root; the old root is folded alongside -/
theorem cons_fold (said : Int × Int → Option (List UInt8)) (lv : Int → List UInt8) (old : Int) (before : List UInt8) : ∀ (f : Nat) (b e : Int) (P : List (List UInt8)), 0 ≤ b → b < old → old < e → e - b ≤ pow2 f → f ≤ 64 → P.length = (proofL f old b e).length →
    (∀ p : Int × Int, b ≤ p.1 → p.1 < p.2 → p.2 ≤ e → said p = if p = (0, old) then some before else saidL ((proofL f old b e).zip P) p) →
    ∃ (k n : Nat) (h : List UInt8) (R : List (List UInt8)) (r0 : List UInt8), (old - b).toNat = 2 ^ k * (n + 1) ∧ n % 2 = 0 ∧ P = (if 0 < old - (2 ^ k : Nat) then [h] else []) ++ R ∧ said (old - (2 ^ k : Nat), old) = some h ∧
      bot (node2 nodeH) (f + 1) n ((e - b - 1).toNat / 2 ^ k + 1) (false, h, h) (R.map sib) = some (false, r0, fSays said lv f b e) ∧
      said (b, e) = none ∧ (∀ i, ¬ fBare said f b e i) ∧ (∀ x ∈ (proofL f old b e).zip P, said x.1 = some x.2 ∧ fReach said f b e x.1) ∧ fReach said f b e (old - (2 ^ k : Nat), old)
  | 0, b, e, P, h0, h1, h2, hp, _, _, _ => by rw [pow2_zero] at hp; omega
  | f + 1, b, e, P, h0, h1, h2, hp, hf, hl, hs => by
      have hb := blwI_bd (n := e - b) (by omega)
      have hk := blwI_le_pow (n := e - b) (f := f) (by omega) hp
      have hps := pow2_succ f
      have hp64 := pow2_le (show f + 1 ≤ 64 by omega)
      have hn := pow2_nat hp (by omega)
      obtain ⟨q, hq⟩ := blwI_two (n := e - b) (by omega)
      have e1 : blw (e - b).toNat = (blwI (e - b)).toNat := (blwI_toNat (by omega)).symm
      have hbe := hs (b, e) (by simp) (by simp; omega) (by simp)
      rw [if_neg (by simp; omega)] at hbe
      have h3 : ¬ e - b < 2 := by omega
      have ep : proofL (f + 1) old b e = if old ≤ b + blwI (e - b) then proofL f old b (b + blwI (e - b)) ++ [(b + blwI (e - b), e)] else proofL f old (b + blwI (e - b)) e ++ [(b, b + blwI (e - b))] := by rw [proofL, if_neg (by omega)]
      obtain ⟨K, hK⟩ : ∃ k, blwI (e - b) = k := ⟨_, rfl⟩
      rw [hK] at hb hk hq e1 ep
      have hnk : K.toNat ≤ 2 ^ f := pow2_nat (by omega) (by omega)
      have hpw : (2 : Nat) ^ (f + 1) = 2 ^ f * 2 := Nat.pow_succ 2 f
      by_cases hx : old ≤ b + K
      · rw [if_pos hx] at ep
        rw [ep, List.length_append] at hl
        obtain ⟨P', z, rfl, hl'⟩ := snoc_of (n := (proofL f old b (b + K)).length) hl
        have hz : (proofL (f + 1) old b e).zip (P' ++ [z]) = (proofL f old b (b + K)).zip P' ++ [((b + K, e), z)] := by
          rw [ep, List.zip_append hl'.symm]; rfl
        have inA : ∀ s ∈ proofL f old b (b + K), b ≤ s.1 ∧ s.1 < s.2 ∧ s.2 ≤ b + K := fun s h => proofL_in f old b (b + K) s h1 hx (by omega) h
        have hnb : said (b, e) = none := by
          rw [hbe, hz, saidL_snoc, if_neg (by simp; omega)]
          exact zip_ne (fun s h e' => by have := inA s h; rw [e'] at this; simp at this; omega)
        have hr : said (b + K, e) = some z := by
          rw [hs (b + K, e) (by simp; omega) (by simp; omega) (by simp), if_neg (by simp; omega), hz, saidL_snoc, if_pos rfl]
        have hsA : ∀ p : Int × Int, b ≤ p.1 → p.1 < p.2 → p.2 ≤ b + K → said p = if p = (0, old) then some before else saidL ((proofL f old b (b + K)).zip P') p := fun p p1 p2 p3 => by
          have hne : ¬ (b + K, e) = p := fun e' => by rw [← e'] at p3; simp at p3; omega
          rw [hs p p1 p2 (by omega), hz, saidL_snoc, if_neg hne]
        have hsay : fSays said lv (f + 1) b e = nodeH (fSays said lv f b (b + K)) z := by
          rw [fSays, hnb]
          simp only [if_neg h3, hK]
          rw [fSays_said (f := f) (lv := lv) hr]
        by_cases ho : old = b + K
        · subst ho
          rw [proofL_end] at hl' hsA ep
          have hKK : b + K - (2 ^ q : Nat) = b := by rw [← hq]; omega
          obtain ⟨h, hh, hP⟩ : ∃ h, said (b, b + K) = some h ∧ P' = if 0 < b then [h] else [] := by
            by_cases hb0 : 0 < b
            · rw [if_pos hb0] at hl' hsA
              obtain ⟨h, rfl⟩ : ∃ h, P' = [h] := by
                match P', hl' with
                | [h], _ => exact ⟨h, rfl⟩
              refine ⟨h, ?_, by rw [if_pos hb0]⟩
              rw [hsA (b, b + K) (by simp) (by simp; omega) (by simp), if_neg (by simp; omega)]
              simp [saidL]
            · rw [if_neg hb0] at hl'
              obtain rfl : P' = [] := by simpa using hl'
              refine ⟨before, ?_, by rw [if_neg hb0]⟩
              rw [hsA (b, b + K) (by simp) (by simp; omega) (by simp), if_pos (by simp; omega)]
          refine ⟨q, 0, h, [z], h, by omega, rfl, ?_, by rw [hKK]; exact hh, ?_, hnb, ?_, ?_, ?_⟩
          · rw [hKK, hP]
          · rw [← hq, div_one_of (by omega) (by omega), List.map_cons, List.map_nil, bot_even _ (by omega) (by omega) (by omega), bot_one _ (by omega), hsay, fSays_said hh]
            rfl
          · intro i hi
            rw [fBare, if_neg h3, hK] at hi
            rcases hi.2 with hi | hi
            · exact fBare_said hh hi
            · exact fBare_said hr hi
          · intro x hx
            rw [hz, proofL_end, hP, List.mem_append] at hx
            rcases hx with hx | hx
            · split at hx
              · simp at hx; subst hx
                exact ⟨hh, .inr ⟨hnb, by omega, .inl (by rw [hK]; exact fReach_said hh)⟩⟩
              · simp at hx
            · simp at hx; subst hx
              exact ⟨hr, .inr ⟨hnb, by omega, .inr (by rw [hK]; exact fReach_said hr)⟩⟩
          · rw [hKK]
            exact .inr ⟨hnb, by omega, .inl (by rw [hK]; exact fReach_said hh)⟩
        · obtain ⟨k, n, h, R, r0, i1, i2, i3, i4, i5, i6, i7, i8, i9⟩ := cons_fold said lv old before f b (b + K) P' h0 h1 (by omega) (by omega) (by omega) hl' hsA
          have hkq : k < q := by
            have h3 : (old - b).toNat < 2 ^ q := by omega
            have h4 : 2 ^ k ≤ (old - b).toNat := by rw [i1]; exact Nat.le_mul_of_pos_right _ (by omega)
            exact (Nat.pow_lt_pow_iff_right (a := 2) (by decide)).1 (by omega)
          have hbare : ∀ i, ¬ fBare said (f + 1) b e i := by
            intro i hi
            rw [fBare, if_neg h3, hK] at hi
            rcases hi.2 with hi | hi
            · exact i7 i hi
            · exact fBare_said hr hi
          have hreach : ∀ x ∈ (proofL (f + 1) old b e).zip (P' ++ [z]), said x.1 = some x.2 ∧ fReach said (f + 1) b e x.1 := by
            intro x hx
            rw [hz, List.mem_append] at hx
            rcases hx with hx | hx
            · exact ⟨(i8 x hx).1, .inr ⟨hnb, by omega, .inl (by rw [hK]; exact (i8 x hx).2)⟩⟩
            · simp at hx; subst hx
              exact ⟨hr, .inr ⟨hnb, by omega, .inr (by rw [hK]; exact fReach_said hr)⟩⟩
          have hrk : fReach said (f + 1) b e (old - (2 ^ k : Nat), old) := .inr ⟨hnb, by omega, .inl (by rw [hK]; exact i9)⟩
          refine ⟨k, n, h, R ++ [z], r0, i1, i2, by rw [i3, List.append_assoc], i4, ?_, hnb, hbare, hreach, hrk⟩
          clear hbare hreach hrk i8 i9 i4
          obtain ⟨P, hP⟩ : ∃ P, 2 ^ k = P := ⟨_, rfl⟩
          obtain ⟨R', hR⟩ : ∃ R, 2 ^ (q - k) = R := ⟨_, rfl⟩
          have hPR : 2 ^ q = P * R' := by rw [← hP, ← hR, ← Nat.pow_add]; congr 1; omega
          have hP0 : 0 < P := by rw [← hP]; exact Nat.two_pow_pos _
          have hR0 : 0 < R' := by rw [← hR]; exact Nat.two_pow_pos _
          have hKK : (b + K - b - 1).toNat = P * R' - 1 := by omega
          have hbw : blw ((e - b - 1).toNat / P + 1) = R' := by
            rw [← hR]; refine level_blw hP0 ?_ ?_ <;> (rw [hR, ← hPR]; omega)
          have hsz : (e - b - 1).toNat / P + 1 ≤ 2 ^ (f + 1) := by have := Nat.div_le_self (e - b - 1).toNat P; omega
          have h2s : 2 ≤ (e - b - 1).toNat / P + 1 := by have : 1 ≤ (e - b - 1).toNat / P := (Nat.le_div_iff_mul_le hP0).2 (by have := Nat.le_mul_of_pos_right P hR0; omega); omega
          have hRf : R' ≤ 2 ^ f := by have := Nat.le_mul_of_pos_left R' hP0; omega
          have hnR : n < R' := by
            have : P * (n + 1) < P * R' := by rw [hP] at i1; omega
            have := Nat.lt_of_mul_lt_mul_left this; omega
          rw [hP] at i5 ⊢
          rw [hKK, level_full hP0 hR0, bot_fuel _ f (f + 1) _ _ _ _ hRf (by omega)] at i5
          rw [List.map_append, List.map_cons, List.map_nil]
          have := bot_left (node2 nodeH) (f + 1) n ((e - b - 1).toNat / P + 1) _ _ (sib z) _ h2s hsz (by rw [hbw]; exact hnR) (by rw [hbw]; exact i5)
          rw [this, hsay]; rfl
      · rw [if_neg hx] at ep
        rw [ep, List.length_append] at hl
        obtain ⟨P', z, rfl, hl'⟩ := snoc_of (n := (proofL f old (b + K) e).length) hl
        have hz : (proofL (f + 1) old b e).zip (P' ++ [z]) = (proofL f old (b + K) e).zip P' ++ [((b, b + K), z)] := by
          rw [ep, List.zip_append hl'.symm]; rfl
        have inA : ∀ s ∈ proofL f old (b + K) e, b + K ≤ s.1 ∧ s.1 < s.2 ∧ s.2 ≤ e := fun s h => proofL_in f old (b + K) e s (by omega) (by omega) (by omega) h
        have hnb : said (b, e) = none := by
          rw [hbe, hz, saidL_snoc, if_neg (by simp; omega)]
          exact zip_ne (fun s h e' => by have := inA s h; rw [e'] at this; simp at this; omega)
        have hr : said (b, b + K) = some z := by
          rw [hs (b, b + K) (by simp) (by simp; omega) (by simp; omega), if_neg (by simp; omega), hz, saidL_snoc, if_pos rfl]
        have hsA : ∀ p : Int × Int, b + K ≤ p.1 → p.1 < p.2 → p.2 ≤ e → said p = if p = (0, old) then some before else saidL ((proofL f old (b + K) e).zip P') p := fun p p1 p2 p3 => by
          have hne : ¬ (b, b + K) = p := fun e' => by rw [← e'] at p1; simp at p1; omega
          rw [hs p (by omega) p2 p3, hz, saidL_snoc, if_neg hne]
        have hsay : fSays said lv (f + 1) b e = nodeH z (fSays said lv f (b + K) e) := by
          rw [fSays, hnb]
          simp only [if_neg h3, hK]
          rw [fSays_said (f := f) (lv := lv) hr]
        obtain ⟨k, n, h, R, r0, i1, i2, i3, i4, i5, i6, i7, i8, i9⟩ := cons_fold said lv old before f (b + K) e P' (by omega) (by omega) h2 (by omega) (by omega) hl' hsA
        have hkq : k < q := by
          have h3 : (old - (b + K)).toNat < 2 ^ q := by omega
          have h4 : 2 ^ k ≤ (old - (b + K)).toNat := by rw [i1]; exact Nat.le_mul_of_pos_right _ (by omega)
          exact (Nat.pow_lt_pow_iff_right (a := 2) (by decide)).1 (by omega)
        have hbare : ∀ i, ¬ fBare said (f + 1) b e i := by
          intro i hi
          rw [fBare, if_neg h3, hK] at hi
          rcases hi.2 with hi | hi
          · exact fBare_said hr hi
          · exact i7 i hi
        have hreach : ∀ x ∈ (proofL (f + 1) old b e).zip (P' ++ [z]), said x.1 = some x.2 ∧ fReach said (f + 1) b e x.1 := by
          intro x hx
          rw [hz, List.mem_append] at hx
          rcases hx with hx | hx
          · exact ⟨(i8 x hx).1, .inr ⟨hnb, by omega, .inr (by rw [hK]; exact (i8 x hx).2)⟩⟩
          · simp at hx; subst hx
            exact ⟨hr, .inr ⟨hnb, by omega, .inl (by rw [hK]; exact fReach_said hr)⟩⟩
        have hrk : fReach said (f + 1) b e (old - (2 ^ k : Nat), old) := .inr ⟨hnb, by omega, .inr (by rw [hK]; exact i9)⟩
        obtain ⟨P, hP⟩ : ∃ P, 2 ^ k = P := ⟨_, rfl⟩
        obtain ⟨R', hR⟩ : ∃ R, 2 ^ (q - k) = R := ⟨_, rfl⟩
        have hPR : 2 ^ q = P * R' := by rw [← hP, ← hR, ← Nat.pow_add]; congr 1; omega
        have hP0 : 0 < P := by rw [← hP]; exact Nat.two_pow_pos _
        have hR0 : 0 < R' := by rw [← hR]; exact Nat.two_pow_pos _
        have hR2 : R' % 2 = 0 := by rw [← hR, show q - k = (q - k - 1) + 1 by omega, Nat.pow_succ]; omega
        refine ⟨k, n + R', h, R ++ [z], nodeH z r0, ?_, by omega, by rw [i3, List.append_assoc], i4, ?_, hnb, hbare, hreach, hrk⟩
        · rw [hP] at i1 ⊢
          rw [show n + R' + 1 = (n + 1) + R' by omega, Nat.mul_add, ← i1, ← hPR]; omega
        · clear hbare hreach hrk i8 i9 i4 i3
          have hbw : blw ((e - b - 1).toNat / P + 1) = R' := by
            rw [← hR]; refine level_blw hP0 ?_ ?_ <;> (rw [hR, ← hPR]; omega)
          have hsz : (e - b - 1).toNat / P + 1 ≤ 2 ^ (f + 1) := by have := Nat.div_le_self (e - b - 1).toNat P; omega
          have h2s : 2 ≤ (e - b - 1).toNat / P + 1 := by have : 1 ≤ (e - b - 1).toNat / P := (Nat.le_div_iff_mul_le hP0).2 (by have := Nat.le_mul_of_pos_right P hR0; omega); omega
          have hdv : (e - b - 1).toNat / P = (e - (b + K) - 1).toNat / P + R' := by
            rw [show (e - b - 1).toNat = (e - (b + K) - 1).toNat + P * R' by omega, Nat.add_mul_div_left _ _ hP0]
          have hle : n ≤ (e - (b + K) - 1).toNat / P := (Nat.le_div_iff_mul_le hP0).2 (by
            rw [hP] at i1
            have : n * P + P = P * (n + 1) := by rw [Nat.mul_add, Nat.mul_comm]; simp
            omega)
          have hRf : (e - (b + K) - 1).toNat / P + 1 ≤ 2 ^ f := by have := Nat.div_le_self (e - (b + K) - 1).toNat P; omega
          rw [hP] at i5 ⊢
          rw [bot_fuel _ f (f + 1) _ _ _ _ hRf (by omega)] at i5
          rw [List.map_append, List.map_cons, List.map_nil]
          have := bot_right (node2 nodeH) (f + 1) (n + R') ((e - b - 1).toNat / P + 1) _ _ (sib z) _ h2s hsz (by rw [hbw]; omega) (by omega) (by rw [hbw, show n + R' - R' = n by omega, show (e - b - 1).toNat / P + 1 - R' = (e - (b + K) - 1).toNat / P + 1 by omega]; exact i5)
          rw [this, hsay]; rfl
theorem odd_part {k n k' n' : Nat} (h : 2 ^ k * (n + 1) = 2 ^ k' * (n' + 1)) (e : n % 2 = 0) (e' : n' % 2 = 0) : k = k' ∧ n = n' := by
  have key : ∀ {k n k' n' : Nat}, 2 ^ k * (n + 1) = 2 ^ k' * (n' + 1) → n % 2 = 0 → ¬ k < k' := by
    intro k n k' n' h e hlt
    rw [show k' = k + (k' - k - 1 + 1) by omega, Nat.pow_add, Nat.mul_assoc] at h
    have := Nat.eq_of_mul_eq_mul_left (Nat.two_pow_pos k) h
    rw [Nat.pow_succ, Nat.mul_assoc, Nat.mul_left_comm] at this
    omega
  have h1 := key h e
  have h2 := key h.symm e'
  obtain rfl : k = k' := by omega
  have := Nat.eq_of_mul_eq_mul_left (Nat.two_pow_pos k) h
  exact ⟨rfl, by omega⟩
theorem Says.same {α : Type} {node : α → α → α} {n l : Nat} {h r r' : α} {ps : List α} (a : Says node n l h ps r) (b : Says node n l h ps r') : r = r' := by
  obtain ⟨f, hf, hb⟩ := a
  obtain ⟨g, hg, hb'⟩ := b
  rw [bot_fuel node f g _ _ _ _ hf hg, hb'] at hb
  exact (Option.some.inj hb).symm
/-- what the proof and the old root are said to be -/
def mapC (old sz : Nat) (before : List UInt8) (P : List (List UInt8)) : List ((Int × Int) × List UInt8) := (proofL 64 old 0 sz).zip P ++ [((0, (old : Int)), before)]
theorem mapC_said (old sz : Nat) (before : List UInt8) (P : List (List UInt8)) (p : Int × Int) : saidL (mapC old sz before P) p = if p = (0, (old : Int)) then some before else saidL ((proofL 64 old 0 sz).zip P) p := by
  unfold mapC
  rw [saidL_snoc]
  by_cases h : p = (0, (old : Int))
  · rw [if_pos h, if_pos h.symm]
  · rw [if_neg h, if_neg (fun e => h e.symm)]
/-- what the hashes of a proof say of the new root -/
def newR (old sz : Nat) (before : List UInt8) (P : List (List UInt8)) : List UInt8 := fSays (saidL (mapC old sz before P)) (claimLeaf [] 0) 64 0 sz
/-- the proof's parts, and what it says -/
def CF (old sz : Nat) (before : List UInt8) (P : List (List UInt8)) (k n : Nat) (h : List UInt8) (R : List (List UInt8)) (r0 : List UInt8) : Prop :=
  old = 2 ^ k * (n + 1) ∧ n % 2 = 0 ∧ P = (if old = 2 ^ k then [] else [h]) ++ R ∧ (old = 2 ^ k → h = before) ∧ h.length = 32 ∧ CSays nodeH n ((sz - 1) / 2 ^ k) h h R r0 (newR old sz before P)
theorem cons_cf {old sz : Nat} {before : List UInt8} {P : List (List UInt8)} (h0 : 0 < old) (h1 : old < sz) (h2 : sz ≤ 9223372036854775808) (hl : P.length = (proofL 64 old 0 sz).length) (h32 : H32 P) (hb32 : before.length = 32) :
    ∃ k n h R r0, CF old sz before P k n h R r0 ∧ saidL (mapC old sz before P) ((old : Int) - (2 ^ k : Nat), old) = some h ∧ saidL (mapC old sz before P) (0, (sz : Int)) = none ∧ (∀ i, ¬ fBare (saidL (mapC old sz before P)) 64 0 sz i) ∧
      (∀ x ∈ (proofL 64 old 0 sz).zip P, saidL (mapC old sz before P) x.1 = some x.2 ∧ fReach (saidL (mapC old sz before P)) 64 0 sz x.1) ∧ fReach (saidL (mapC old sz before P)) 64 0 sz ((old : Int) - (2 ^ k : Nat), old) := by
  obtain ⟨k, n, h, R, r0, i1, i2, i3, i4, i5, i6, i7, i8, i9⟩ := cons_fold (saidL (mapC old sz before P)) (claimLeaf [] 0) old before 64 0 sz P (by omega) (by omega) (by omega) (by rw [pow2_64]; omega) (by omega) hl (fun p _ _ _ => mapC_said old sz before P p)
  have hM : old = 2 ^ k * (n + 1) := by have := i1; omega
  have hPM : 2 ^ k ≤ old := by rw [hM]; exact Nat.le_mul_of_pos_right _ (by omega)
  have hk1 : ((2 ^ k : Nat) : Int) ≤ old := by omega
  have hh32 : h.length = 32 := by
    rw [mapC_said] at i4
    split at i4
    · obtain rfl := Option.some.inj i4; exact hb32
    · exact zip_32 h32 _ _ i4
  refine ⟨k, n, h, R, r0, ⟨hM, i2, ?_, ?_, hh32, ?_⟩, i4, i6, i7, i8, i9⟩
  · rw [i3]
    by_cases e : old = 2 ^ k
    · rw [if_pos e, if_neg (by omega)]
    · rw [if_neg e, if_pos (by omega)]
  · intro e
    rw [mapC_said, show (old : Int) - (2 ^ k : Nat) = 0 by omega, if_pos rfl] at i4
    exact (Option.some.inj i4).symm
  · refine ⟨64, by have := Nat.div_le_self (sz - 1) (2 ^ k); omega, ?_⟩
    rw [show ((sz : Int) - 0 - 1).toNat = sz - 1 by omega] at i5
    exact i5
/-- does the proof lead to both roots? -/
def verC (old sz : Nat) (L : List ByteArray) (before : List UInt8) (P : List (List UInt8)) : Prop :=
  P.length = (proofL 64 old 0 sz).length ∧ (∃ k n h R, CF old sz before P k n h R before) ∧ newR old sz before P = treeB L 0 sz
theorem map_zip {α β : Type} (g : α → β) : ∀ (l : List α) (P : List β), P.length = l.length → (∀ x ∈ l.zip P, x.2 = g x.1) → P = l.map g
  | [], [], _, _ => rfl
  | [], y :: r, h, _ => by simp at h
  | x :: l, [], h, _ => by simp at h
  | x :: l, y :: r, h, hx => by
    rw [List.map_cons, ← map_zip g l r (by simpa using h) (fun z hz => hx z (by simp [hz]))]
    have := hx (x, y) (by simp)
    simp at this
    rw [this]
theorem claim_cons {L : List ByteArray} {before : List UInt8} {P : List (List UInt8)} {old sz : Nat} (hL : LogOk L) (h0 : 0 < old) (h1 : old < sz) (hs : sz ≤ L.length) (hv : verC old sz L before P) (hne : before ≠ treeB L 0 old) (h32 : H32 P) (hb32 : before.length = 32) :
    (∃ r, fWalk (saidL (mapC old sz before P)) (claimLeaf [] 0) L (logText L) (claimText [] 0) 64 0 sz = some r ∧ r.1 ≠ r.2 ∧ shaB r.1 = shaB r.2 ∧ r.1.length ≤ 10000001 ∧ r.2.length ≤ 10000001) ∧
    ∀ i, ¬ fBare (saidL (mapC old sz before P)) 64 0 sz i := by
  have hL1 := hL.1
  obtain ⟨k, n, h, R, r0, ⟨c1, c2, c3, c4, c5, c6⟩, i4, i6, i7, i8, i9⟩ := cons_cf (P := P) (before := before) h0 h1 (by omega) hv.1 h32 hb32
  obtain ⟨k', n', h', R', d1, d2, d3, d4, d5, d6⟩ := hv.2.1
  have hroot := hv.2.2
  unfold newR at hroot
  have hs32 : ∀ p x, saidL (mapC old sz before P) p = some x → x.length = 32 := fun p x q => by
    rw [mapC_said] at q
    split at q
    · obtain rfl := Option.some.inj q; exact hb32
    · exact zip_32 h32 _ _ q
  have h64 : (sz : Int) - 0 ≤ pow2 64 := by rw [pow2_64]; omega
  refine ⟨?_, i7⟩
  cases q : fWalk (saidL (mapC old sz before P)) (claimLeaf [] 0) L (logText L) (claimText [] 0) 64 0 sz with
  | some r =>
    have ht := fWalk_two _ (claimLeaf [] 0) L (logText L) (claimText [] 0) (leafG_text L) (claim_text [] 0) hs32 64 0 sz (by omega) h64 (by omega) i6 hroot r q
    have hl := fWalk_len _ (claimLeaf [] 0) L (logText L) (claimText [] 0) 10000000 (by omega) (fun i => by unfold logText; rw [bOf_length]; have := getD_size hL.2 i.toNat; omega) (fun i => by unfold claimText; rw [bOf_length]; exact getD_size (M := 10000000) (fun s hs => by simp at hs) _) (fun i => leafH_length _) hs32 64 0 sz r q
    exact ⟨r, rfl, ht.1, ht.2, hl.1, hl.2⟩
  | none =>
    exfalso
    have ha := fWalk_reach _ (claimLeaf [] 0) L (logText L) (claimText [] 0) hs32 (fun i => leafH_length _) 64 0 sz (by omega) h64 (by omega) hroot q
    have hP : P = treesB L (proofL 64 old 0 sz) := by
      unfold treesB
      exact map_zip _ _ _ hv.1 (fun x hx => by
        have := i8 x hx
        exact ha x.1 this.2 x.2 this.1)
    have hh := ha _ i9 h i4
    obtain ⟨k2, n2, g, rest, e1, e2, e3, e4, e5, e6⟩ := logs_cons L old sz (by omega) h0 h1
    obtain ⟨rfl, rfl⟩ := odd_part (e1.symm.trans d1) e2 d2
    obtain ⟨rfl, rfl⟩ := odd_part (e1.symm.trans c1) e2 c2
    rw [← hP, d3] at e3
    by_cases e : old = 2 ^ k2
    · refine hne ?_
      rw [← c4 e, hh]
      congr 1
      simp only
      omega
    · rw [if_neg e, if_neg e] at e3
      simp only [List.cons_append, List.nil_append, List.cons.injEq] at e3
      obtain ⟨rfl, rfl⟩ := e3
      exact hne (congrArg (fun x => x.2.1) (Says.same d6 e6))
theorem cons_not {old sz : Nat} {before : List UInt8} {P : List (List UInt8)} (h0 : 0 < old) (h1 : old < sz) (h2 : sz ≤ 9223372036854775808) (hl : P.length ≠ (proofL 64 old 0 sz).length) (h32 : H32 P) (hb32 : before.length = 32) :
    ∃ k n, old = 2 ^ k * (n + 1) ∧ n % 2 = 0 ∧ ((n ≠ 0 ∧ P = []) ∨ ∃ h R, P = (if old = 2 ^ k then [] else [h]) ++ R ∧ (old = 2 ^ k → h = before) ∧ h.length = 32 ∧ CSaysN nodeH n ((sz - 1) / 2 ^ k) h h R) := by
  obtain ⟨k, n, g, Rz, r0, ⟨c1, c2, c3, c4, c5, c6⟩, _⟩ := cons_cf (P := List.replicate (proofL 64 old 0 sz).length zeroH) (before := before) h0 h1 h2 (by simp) (fun x hx => by rw [(List.mem_replicate.1 hx).2]; exact zeroH_length) hb32
  refine ⟨k, n, c1, c2, ?_⟩
  have hrl : ∀ h R, P = (if old = 2 ^ k then [] else [h]) ++ R → CSaysN nodeH n ((sz - 1) / 2 ^ k) h h R := by
    intro h R hR
    refine ⟨64, by have := Nat.div_le_self (sz - 1) (2 ^ k); omega, ?_⟩
    cases q : bot (node2 nodeH) (64 + 1) n ((sz - 1) / 2 ^ k + 1) (false, h, h) (R.map sib) with
    | none => rfl
    | some r =>
      exfalso
      obtain ⟨f, hf, hb⟩ := c6
      rw [bot_fuel _ f 64 _ _ _ _ hf (by have := Nat.div_le_self (sz - 1) (2 ^ k); omega)] at hb
      have := bot_len (node2 nodeH) (node2 nodeH) 65 n ((sz - 1) / 2 ^ k + 1) _ _ r _ _ _ q hb
      rw [List.length_map, List.length_map] at this
      refine hl ?_
      have e1 := congrArg List.length c3
      have e2 := congrArg List.length hR
      rw [List.length_replicate, List.length_append] at e1
      rw [List.length_append] at e2
      rw [e1, e2, this]
      split <;> rfl
  by_cases e : old = 2 ^ k
  · refine .inr ⟨before, P, by rw [if_pos e]; rfl, fun _ => rfl, hb32, hrl before P (by rw [if_pos e]; rfl)⟩
  · cases P with
    | nil => exact .inl ⟨fun hn => e (by rw [c1, hn]; omega), rfl⟩
    | cons h R => exact .inr ⟨h, R, by rw [if_neg e]; rfl, fun q => absurd q e, h32 h (by simp), hrl h R (by rw [if_neg e]; rfl)⟩
end Go.Proofs.YtaekabhcgdjhfaaDoor

/- forge.Consistency, whatever is handed in. Condition: the package-level variables read as listed. -/
namespace Go.Proofs.YtaekabhcgdjhfaaDoor
open Go.ChangeShapes Go.WideShapes Go.ChangeAt Go.RowKit
set_option linter.unusedVariables false
/-- does the proof prove both roots? -/
def okC (old sz : Nat) (L : List ByteArray) (b0 : List UInt8) (P : List (List UInt8)) : Prop := 0 < old ∧ old ≤ sz ∧ (old = sz → P = [] ∧ b0 = treeB L 0 sz) ∧ (old < sz → verC old sz L b0 P)
theorem vcons_fail (a : Nat → Addr) (B old sz : Nat) (L : List ByteArray) (b0 : List UInt8) (P : List (List UInt8)) (A : Option Addr) (m c : Nat) (w : World) (hE : Env B a w) (hs : sz ≤ 9223372036854775808) (hb : b0.length = 32) (hp : HIn w A m c P) (hm : m ≤ 1000000000) (hvv : ¬ okC old sz L b0 P) :
    Calls Tryd.prog 19 #[.int .u64 old, .int .u64 sz, hv b0, hv (treeB L 0 sz), .slice A m c] w fun ev w' => ev = .returned (errV a (if old = 0 ∨ sz < old then 5 else 10)) ∧ Below w.heap.size w w' := by
  have hr := treeB_len L 0 sz
  by_cases h1 : old = 0 ∨ sz < old
  · rw [if_pos h1]
    exact vcons_off a B old sz b0 _ A m c P w hE hb hr hp h1 hs
  · rw [if_neg h1]
    by_cases h2 : old = sz
    · refine vcons_unlike a B old sz b0 _ A m c P w hE hb hr hp h2 (by omega) hs ?_ hm
      intro q
      refine hvv ⟨by omega, by omega, fun _ => ⟨?_, q.2⟩, fun q => by omega⟩
      have := hp.2.1; rw [q.1] at this
      exact List.length_eq_zero_iff.1 this
    · by_cases hl : P.length = (proofL 64 old 0 sz).length
      · obtain ⟨k, n, h, R, r0, ⟨c1, c2, c3, c4, c5, c6⟩, _⟩ := cons_cf (P := P) (before := b0) (by omega) (by omega) hs hl hp.1 hb
        refine vcons_other a B old sz b0 _ A m c P w hE hb hr hp c1 c2 (by omega) hs c3 c4 c5 r0 (newR old sz b0 P) ?_ c6 hm
        intro q
        refine hvv ⟨by omega, by omega, fun q => by omega, fun _ => ⟨hl, ⟨k, n, h, R, c1, c2, c3, c4, c5, ?_⟩, q.2⟩⟩
        rw [q.1] at c6; exact c6
      · obtain ⟨k, n, c1, c2, hc⟩ := cons_not (P := P) (before := b0) (by omega) (by omega) hs hl hp.1 hb
        rcases hc with ⟨hn, hP⟩ | ⟨h, R, c3, c4, c5, c6⟩
        · exact vcons_empty a B old sz b0 _ A m c P w hE hb hr hp c1 c2 hn (by omega) hs hP
        · exact vcons_none a B old sz b0 _ A m c P w hE hb hr hp c1 c2 (by omega) hs c3 c4 c5 c6 hm
theorem vcons_good (a : Nat → Addr) (B old sz : Nat) (L : List ByteArray) (b0 : List UInt8) (P : List (List UInt8)) (A : Option Addr) (m c : Nat) (w : World) (hE : Env B a w) (hs : sz ≤ 9223372036854775808) (hb : b0.length = 32) (hp : HIn w A m c P) (hm : m ≤ 1000000000) (hvv : okC old sz L b0 P) :
    Calls Tryd.prog 19 #[.int .u64 old, .int .u64 sz, hv b0, hv (treeB L 0 sz), .slice A m c] w fun ev w' => ev = .returned .nilIface ∧ Below w.heap.size w w' := by
  have hr := treeB_len L 0 sz
  obtain ⟨v1, v2, v3, v4⟩ := hvv
  by_cases h2 : old = sz
  · exact vcons_same a B old sz b0 _ A m c P w hE hb hr hp h2 v1 hs (v3 h2).1 (v3 h2).2
  · obtain ⟨hl, ⟨k, n, h, R, c1, c2, c3, c4, c5, c6⟩, hR⟩ := v4 (by omega)
    rw [hR] at c6
    exact vcons_ok a B old sz b0 _ A m c P w hE hb hr hp c1 c2 (by omega) hs c3 c4 c5 c6 hm

set_option maxRecDepth 100000 in
set_option maxHeartbeats 8000000 in
theorem fcon_bad (a : Nat → Addr) (B base b : Nat) (v : Value) (L : List ByteArray) (old sz : Nat) (b0 : List UInt8) (P : List (List UInt8)) (A : Option Addr) (m c : Nat) (w : World) (hE : Env B a w) (h : LogAt base b v L w) (hs : sz ≤ L.length) (ho : old < 18446744073709551616) (hb : b0.length = 32) (hp : HIn w A m c P) (hm9 : m ≤ 1000000000) (hvv : ¬ okC old sz L b0 P) :
    Calls Tryd.prog 18 #[.pointer (some ⟨b, 0, none⟩), .int .u64 old, .int .u64 sz, hv b0, .slice A m c] w fun ev w' => ev = .returned (.tuple #[.string ⟨#[]⟩, .string ⟨#[]⟩, .bool false]) ∧ Below w.heap.size w w' := by
  have hL := h.1.1
  obtain ⟨vr, evr, Hvr, Zvr, Ivr, Ovr⟩ := row_of (treeB L 0 sz) (treeB_len _ _ _)
  obtain ⟨vh, evh, Hvh, Zvh, Ivh, Ovh⟩ := row_of b0 hb
  have HRT : Hid (∀ w, Env B a w → LogAt base b v L w → Calls Tryd.prog 11 #[.pointer (some ⟨b, 0, none⟩), .int .u64 sz] w fun ev w' => ev = .returned (.tuple #[.agg vr, .nilIface]) ∧ Below w.heap.size w w') := Lib.hid (fun w e q => by
    have := lroot_ok a B base b v L sz w e q (by omega) (by omega)
    rw [evr] at this; exact this)
  obtain ⟨qe, HVE⟩ : ∃ qe, errV a (if old = 0 ∨ sz < old then 5 else 10) = .iface 169 (.pointer (some qe)) := ⟨_, rfl⟩
  have HCO : Hid (∀ w, Env B a w → HIn w A m c P → Calls Tryd.prog 19 #[.int .u64 old, .int .u64 sz, .agg vh, .agg vr, .slice A m c] w fun ev w' => ev = .returned (.iface 169 (.pointer (some qe))) ∧ Below w.heap.size w w') := Lib.hid (fun w e q => by
    have := vcons_fail a B old sz L b0 P A m c w e (by omega) hb q hm9 hvv
    rw [evh, evr, HVE] at this; exact this)
  have HE := Lib.hid hE
  have HL := Lib.hid h
  have HP := Lib.hid hp
  rw [evh]
  have R8 : Hid ((w.alloc (.cells vh 34)).heap[w.heap.size]? = some (.cells vh 34 (0, 0))) := Lib.hid (heap_at _ _ _ rfl)
  have HB0 : Hid (Below w.heap.size w (w.alloc (.cells vh 34))) := Lib.hid ((Below.refl _ _).alloc (Nat.le_refl _) _)
  have HS0 : Hid (w.heap.size < (w.alloc (.cells vh 34)).heap.size) := Lib.hid (by simp)
  obtain ⟨wv, hwv⟩ : ∃ x, w.alloc (.cells vh 34) = x := ⟨_, rfl⟩
  rw [hwv] at R8 HB0 HS0
  have HWV := Lib.hid hwv
  clear hwv
  clear hE h hp evr evh hs hvv hL hb hm9 ho HVE
  go_enter Tryd.func18, Tryd.ntmps18
  go_upto_region 1 with fail
  rw [HWV.out]
  go_wp2_with fail
  refine (HRT.out wv (HE.out.step HB0.out) (HL.out.below HB0.out)).mono ?_
  rintro ev w1 ⟨rfl, b1⟩
  go_upto_region 2 with (refine wpList_store_row_any rfl 34 _ _ rfl w1.heap.size vr rfl rfl 34 _ (heap_at _ _ _ rfl) Ivr.out (by rw [Zvr.out]; rfl) Ovr.out ?_; intro w2 hbN hgN hsN; have b2 : Below w1.heap.size w1 w2 := ((Below.refl _ w1).alloc (Nat.le_refl _) _).trans (hbN.to_below (by simp) (fun k hk q => by omega)); have Rw2 := Lib.hid hgN; clear hbN hgN hsN)
  have BV2 : Hid (Below wv.heap.size wv w2) := Lib.hid (b1.trans (b2.mono b1.size))
  have HB2 : Hid (Below w.heap.size w w2) := Lib.hid (HB0.out.trans (BV2.out.mono HB0.out.size))
  have R82 : Hid (w2.heap[w.heap.size]? = some (.cells vh 34 (0, 0))) := Lib.hid ((BV2.out.block _ HS0.out).trans R8.out)
  clear b1 b2
  go_wp2_with (first
    | (refine wpList_load_row_g rfl 34 _ rfl w.heap.size rfl 34 vh (0, 0) _ R82.out Tryd.underlying34 rfl Ivh.out ?_)
    | (refine wpList_load_row_g rfl 34 _ rfl w1.heap.size rfl 34 vr (0, 0) _ Rw2.out Tryd.underlying34 rfl Ivr.out ?_))
  refine (HCO.out w2 (HE.out.step HB2.out) (HP.out.below HB2.out)).mono ?_
  rintro ev w3 ⟨rfl, b3⟩
  have HB3 : Hid (Below w.heap.size w w3) := Lib.hid (HB2.out.trans (b3.mono HB2.out.size))
  have B23 := Lib.hid b3
  clear b3
  go_wp2_with fail
  go_ret3
  exact ⟨rfl, HB3.out⟩

set_option maxRecDepth 100000 in
set_option maxHeartbeats 8000000 in
theorem fcon_same (a : Nat → Addr) (B base b : Nat) (v : Value) (L : List ByteArray) (old sz : Nat) (b0 : List UInt8) (P : List (List UInt8)) (A : Option Addr) (m c : Nat) (w : World) (hE : Env B a w) (h : LogAt base b v L w) (hs : sz ≤ L.length) (ho : old < 18446744073709551616) (hb : b0.length = 32) (hp : HIn w A m c P) (hm9 : m ≤ 1000000000) (hvv : okC old sz L b0 P) (hsm : b0 = treeB L 0 old) :
    Calls Tryd.prog 18 #[.pointer (some ⟨b, 0, none⟩), .int .u64 old, .int .u64 sz, hv b0, .slice A m c] w fun ev w' => (∃ s, ev = .returned (.tuple #[.string s, .string s, .bool false]) ∧ bOf s = soB L sz) ∧ Below w.heap.size w w' := by
  have hL := h.1.1
  obtain ⟨vr, evr, Hvr, Zvr, Ivr, Ovr⟩ := row_of (treeB L 0 sz) (treeB_len _ _ _)
  obtain ⟨vh, evh, Hvh, Zvh, Ivh, Ovh⟩ := row_of b0 hb
  have HRT : Hid (∀ w, Env B a w → LogAt base b v L w → Calls Tryd.prog 11 #[.pointer (some ⟨b, 0, none⟩), .int .u64 sz] w fun ev w' => ev = .returned (.tuple #[.agg vr, .nilIface]) ∧ Below w.heap.size w w') := Lib.hid (fun w e q => by
    have := lroot_ok a B base b v L sz w e q (by omega) (by omega)
    rw [evr] at this; exact this)
  have HCO : Hid (∀ w, Env B a w → HIn w A m c P → Calls Tryd.prog 19 #[.int .u64 old, .int .u64 sz, .agg vh, .agg vr, .slice A m c] w fun ev w' => ev = .returned .nilIface ∧ Below w.heap.size w w') := Lib.hid (fun w e q => by
    have := vcons_good a B old sz L b0 P A m c w e (by omega) hb q hm9 hvv
    rw [evh, evr] at this; exact this)
  have h0 : 0 < old := hvv.1
  have h1 : old ≤ sz := hvv.2.1
  have HN := Lib.hid (show 0 < sz ∧ sz ≤ L.length by omega)
  obtain ⟨vo, evo, Hvo, Zvo, Ivo, Ovo⟩ := row_of (treeB L 0 old) (treeB_len _ _ _)
  have HRO : Hid (∀ w, Env B a w → LogAt base b v L w → Calls Tryd.prog 11 #[.pointer (some ⟨b, 0, none⟩), .int .u64 old] w fun ev w' => ev = .returned (.tuple #[.agg vo, .nilIface]) ∧ Below w.heap.size w w') := Lib.hid (fun w e q => by
    have := lroot_ok a B base b v L old w e q (by omega) (by omega)
    rw [evo] at this; exact this)
  have hq : ∀ w, (Op.equalIn 10000 34 (.agg vo) (.agg vh)).run Tryd.prog w = .ok true w := fun w => by rw [eq_hash _ _ (treeB_len L 0 old) hb vo vh evo evh w]; simp [hsm]
  have HE := Lib.hid hE
  have HL := Lib.hid h
  have HP := Lib.hid hp
  rw [evh]
  have R8 : Hid ((w.alloc (.cells vh 34)).heap[w.heap.size]? = some (.cells vh 34 (0, 0))) := Lib.hid (heap_at _ _ _ rfl)
  have HB0 : Hid (Below w.heap.size w (w.alloc (.cells vh 34))) := Lib.hid ((Below.refl _ _).alloc (Nat.le_refl _) _)
  have HS0 : Hid (w.heap.size < (w.alloc (.cells vh 34)).heap.size) := Lib.hid (by simp)
  obtain ⟨wv, hwv⟩ : ∃ x, w.alloc (.cells vh 34) = x := ⟨_, rfl⟩
  rw [hwv] at R8 HB0 HS0
  have HWV := Lib.hid hwv
  clear hwv
  clear hE h hp evr evh hs hvv hL hb hm9 ho hsm h0 h1 evo
  go_enter Tryd.func18, Tryd.ntmps18
  go_upto_region 1 with fail
  rw [HWV.out]
  go_wp2_with fail
  refine (HRT.out wv (HE.out.step HB0.out) (HL.out.below HB0.out)).mono ?_
  rintro ev w1 ⟨rfl, b1⟩
  go_upto_region 2 with (refine wpList_store_row_any rfl 34 _ _ rfl w1.heap.size vr rfl rfl 34 _ (heap_at _ _ _ rfl) Ivr.out (by rw [Zvr.out]; rfl) Ovr.out ?_; intro w2 hbN hgN hsN; have b2 : Below w1.heap.size w1 w2 := ((Below.refl _ w1).alloc (Nat.le_refl _) _).trans (hbN.to_below (by simp) (fun k hk q => by omega)); have Rw2 := Lib.hid hgN; clear hbN hgN hsN)
  have BV2 : Hid (Below wv.heap.size wv w2) := Lib.hid (b1.trans (b2.mono b1.size))
  have HB2 : Hid (Below w.heap.size w w2) := Lib.hid (HB0.out.trans (BV2.out.mono HB0.out.size))
  have R82 : Hid (w2.heap[w.heap.size]? = some (.cells vh 34 (0, 0))) := Lib.hid ((BV2.out.block _ HS0.out).trans R8.out)
  clear b1 b2
  go_wp2_with (first
    | (refine wpList_load_row_g rfl 34 _ rfl w.heap.size rfl 34 vh (0, 0) _ R82.out Tryd.underlying34 rfl Ivh.out ?_)
    | (refine wpList_load_row_g rfl 34 _ rfl w1.heap.size rfl 34 vr (0, 0) _ Rw2.out Tryd.underlying34 rfl Ivr.out ?_))
  refine (HCO.out w2 (HE.out.step HB2.out) (HP.out.below HB2.out)).mono ?_
  rintro ev w3 ⟨rfl, b3⟩
  have HB3 : Hid (Below w.heap.size w w3) := Lib.hid (HB2.out.trans (b3.mono HB2.out.size))
  have B23 := Lib.hid b3
  clear b3
  go_wp2_with fail
  refine (HRO.out w3 (HE.out.step HB3.out) (HL.out.below HB3.out)).mono ?_
  rintro ev w4 ⟨rfl, b4⟩
  go_upto_region 5 with (refine wpList_store_row_any rfl 34 _ _ rfl w4.heap.size vo rfl rfl 34 _ (heap_at _ _ _ rfl) Ivo.out (by rw [Zvo.out]; rfl) Ovo.out ?_; intro w5 hbN hgN hsN; have b5 : Below w4.heap.size w4 w5 := ((Below.refl _ w4).alloc (Nat.le_refl _) _).trans (hbN.to_below (by simp) (fun k hk q => by omega)); have Rw5 := Lib.hid hgN; clear hbN hgN hsN)
  have B35 : Hid (Below w3.heap.size w3 w5) := Lib.hid (b4.trans (b5.mono b4.size))
  have HB5 : Hid (Below w.heap.size w w5) := Lib.hid (HB3.out.trans (B35.out.mono HB3.out.size))
  have R85 : Hid (w5.heap[w.heap.size]? = some (.cells vh 34 (0, 0))) := Lib.hid ((B35.out.block _ (Nat.lt_of_lt_of_le (Array.getElem?_eq_some_iff.1 R82.out).1 B23.out.size)).trans ((B23.out.block _ (Array.getElem?_eq_some_iff.1 R82.out).1).trans R82.out))
  clear b4 b5
  go_wp2_with (first
    | (refine wpList_load_row_g rfl 34 _ rfl w4.heap.size rfl 34 vo (0, 0) _ Rw5.out Tryd.underlying34 rfl Ivo.out ?_)
    | (refine wpList_load_row_g rfl 34 _ rfl w.heap.size rfl 34 vh (0, 0) _ R85.out Tryd.underlying34 rfl Ivh.out ?_))
  refine (so_any a B base b v L sz w5 (HE.out.step HB5.out) (HL.out.below HB5.out) HN.out.1 HN.out.2).mono ?_
  rintro ev w7 ⟨⟨s, rfl, q1⟩, b7⟩
  have HQ := Lib.hid q1
  clear q1
  go_wp2
  go_ret3
  exact ⟨⟨s, rfl, HQ.out⟩, HB5.out.trans (b7.mono HB5.out.size)⟩

set_option maxRecDepth 100000 in
set_option maxHeartbeats 8000000 in
theorem fcon_part (a : Nat → Addr) (B base b : Nat) (v : Value) (L : List ByteArray) (old sz : Nat) (b0 : List UInt8) (P : List (List UInt8)) (A : Option Addr) (m c : Nat) (w : World) (hE : Env B a w) (h : LogAt base b v L w) (hs : sz ≤ L.length) (ho : old < 18446744073709551616) (hb : b0.length = 32) (hp : HIn w A m c P) (hm9 : m ≤ 1000000000) (hvv : okC old sz L b0 P) (hsm : b0 ≠ treeB L 0 old) (hbare : ∀ i, ¬ fBare (saidL (mapC old sz b0 P)) 64 0 sz i) :
    Calls Tryd.prog 18 #[.pointer (some ⟨b, 0, none⟩), .int .u64 old, .int .u64 sz, hv b0, .slice A m c] w fun ev w' => PartPost (fWalk (saidL (mapC old sz b0 P)) (claimLeaf [] 0) L (logText L) (claimText [] 0) 64 0 sz) ev ∧ Below w.heap.size w w' := by
  have hL := h.1.1
  obtain ⟨vr, evr, Hvr, Zvr, Ivr, Ovr⟩ := row_of (treeB L 0 sz) (treeB_len _ _ _)
  obtain ⟨vh, evh, Hvh, Zvh, Ivh, Ovh⟩ := row_of b0 hb
  have HRT : Hid (∀ w, Env B a w → LogAt base b v L w → Calls Tryd.prog 11 #[.pointer (some ⟨b, 0, none⟩), .int .u64 sz] w fun ev w' => ev = .returned (.tuple #[.agg vr, .nilIface]) ∧ Below w.heap.size w w') := Lib.hid (fun w e q => by
    have := lroot_ok a B base b v L sz w e q (by omega) (by omega)
    rw [evr] at this; exact this)
  have HCO : Hid (∀ w, Env B a w → HIn w A m c P → Calls Tryd.prog 19 #[.int .u64 old, .int .u64 sz, .agg vh, .agg vr, .slice A m c] w fun ev w' => ev = .returned .nilIface ∧ Below w.heap.size w w') := Lib.hid (fun w e q => by
    have := vcons_good a B old sz L b0 P A m c w e (by omega) hb q hm9 hvv
    rw [evh, evr] at this; exact this)
  have h0 : 0 < old := hvv.1
  have h1 : old ≤ sz := hvv.2.1
  have HN := Lib.hid (show 0 < sz ∧ sz ≤ L.length by omega)
  obtain ⟨vo, evo, Hvo, Zvo, Ivo, Ovo⟩ := row_of (treeB L 0 old) (treeB_len _ _ _)
  have HRO : Hid (∀ w, Env B a w → LogAt base b v L w → Calls Tryd.prog 11 #[.pointer (some ⟨b, 0, none⟩), .int .u64 old] w fun ev w' => ev = .returned (.tuple #[.agg vo, .nilIface]) ∧ Below w.heap.size w w') := Lib.hid (fun w e q => by
    have := lroot_ok a B base b v L old w e q (by omega) (by omega)
    rw [evo] at this; exact this)
  have hq : ∀ w, (Op.equalIn 10000 34 (.agg vo) (.agg vh)).run Tryd.prog w = .ok false w := fun w => by rw [eq_hash _ _ (treeB_len L 0 old) hb vo vh evo evh w]; simp; exact fun e => hsm (Eq.symm e)
  have hlt : old < sz := by
    rcases Nat.lt_or_ge old sz with q | q
    · exact q
    · have e : old = sz := by omega
      exact absurd (by rw [(hvv.2.2.1 e).2, e]) hsm
  obtain ⟨l, hl⟩ : ∃ l, proofL 64 old 0 sz = l := ⟨_, rfl⟩
  have hln : l.length = m := by rw [← hl, ← (hvv.2.2.2 hlt).1]; exact hp.2.1
  have hPB : ∀ p ∈ l, PB p := fun p hpm => by
    rw [← hl] at hpm
    obtain ⟨q1, q2, q3⟩ := proofL_in 64 old 0 sz p (by omega) (by omega) (by rw [pow2_64]; omega) hpm
    exact ⟨by omega, by omega, by omega, by omega⟩
  have HSHB : Hid (∀ w, Calls Tryd.prog 38 #[.int .u64 old, .int .u64 sz] w (ListPost 82 2 w l.length (spanCells l))) := Lib.hid (fun w => by rw [← hl]; exact proof_ok old sz w (by omega) (by omega) (by omega))
  obtain ⟨out, hout⟩ : ∃ z, (fWalk (saidL (mapC old sz b0 P)) (claimLeaf [] 0) L (logText L) (claimText [] 0) 64 0 sz) = z := ⟨_, rfl⟩
  have HMC : Hid (l.zip P ++ [((0, (old : Int)), b0)] = mapC old sz b0 P) := Lib.hid (by unfold mapC; rw [hl])
  have HLB : Hid (l.length = m ∧ (∀ p ∈ l, PB p) ∧ m ≤ 1000000000 ∧ (∀ i, ¬ fBare (saidL (mapC old sz b0 P)) 64 0 sz i) ∧ (fWalk (saidL (mapC old sz b0 P)) (claimLeaf [] 0) L (logText L) (claimText [] 0) 64 0 sz) = out) := Lib.hid ⟨hln, hPB, hm9, hbare, hout⟩
  have HPB : Hid (PB (0, (old : Int))) := Lib.hid ⟨by omega, by omega, by omega, by omega⟩
  have HBL := Lib.hid hb
  have HBV := Lib.hid Hvh.out
  rw [hout]
  clear hl hln hPB hout hbare hlt
  have HE := Lib.hid hE
  have HL := Lib.hid h
  have HP := Lib.hid hp
  rw [evh]
  have R8 : Hid ((w.alloc (.cells vh 34)).heap[w.heap.size]? = some (.cells vh 34 (0, 0))) := Lib.hid (heap_at _ _ _ rfl)
  have HB0 : Hid (Below w.heap.size w (w.alloc (.cells vh 34))) := Lib.hid ((Below.refl _ _).alloc (Nat.le_refl _) _)
  have HS0 : Hid (w.heap.size < (w.alloc (.cells vh 34)).heap.size) := Lib.hid (by simp)
  obtain ⟨wv, hwv⟩ : ∃ x, w.alloc (.cells vh 34) = x := ⟨_, rfl⟩
  rw [hwv] at R8 HB0 HS0
  have HWV := Lib.hid hwv
  clear hwv
  clear hE h hp evr evh hs hvv hL hb hm9 ho hsm h0 h1 evo
  go_enter Tryd.func18, Tryd.ntmps18
  go_upto_region 1 with fail
  rw [HWV.out]
  go_wp2_with fail
  refine (HRT.out wv (HE.out.step HB0.out) (HL.out.below HB0.out)).mono ?_
  rintro ev w1 ⟨rfl, b1⟩
  go_upto_region 2 with (refine wpList_store_row_any rfl 34 _ _ rfl w1.heap.size vr rfl rfl 34 _ (heap_at _ _ _ rfl) Ivr.out (by rw [Zvr.out]; rfl) Ovr.out ?_; intro w2 hbN hgN hsN; have b2 : Below w1.heap.size w1 w2 := ((Below.refl _ w1).alloc (Nat.le_refl _) _).trans (hbN.to_below (by simp) (fun k hk q => by omega)); have Rw2 := Lib.hid hgN; clear hbN hgN hsN)
  have BV2 : Hid (Below wv.heap.size wv w2) := Lib.hid (b1.trans (b2.mono b1.size))
  have HB2 : Hid (Below w.heap.size w w2) := Lib.hid (HB0.out.trans (BV2.out.mono HB0.out.size))
  have R82 : Hid (w2.heap[w.heap.size]? = some (.cells vh 34 (0, 0))) := Lib.hid ((BV2.out.block _ HS0.out).trans R8.out)
  clear b1 b2
  go_wp2_with (first
    | (refine wpList_load_row_g rfl 34 _ rfl w.heap.size rfl 34 vh (0, 0) _ R82.out Tryd.underlying34 rfl Ivh.out ?_)
    | (refine wpList_load_row_g rfl 34 _ rfl w1.heap.size rfl 34 vr (0, 0) _ Rw2.out Tryd.underlying34 rfl Ivr.out ?_))
  refine (HCO.out w2 (HE.out.step HB2.out) (HP.out.below HB2.out)).mono ?_
  rintro ev w3 ⟨rfl, b3⟩
  have HB3 : Hid (Below w.heap.size w w3) := Lib.hid (HB2.out.trans (b3.mono HB2.out.size))
  have B23 := Lib.hid b3
  clear b3
  go_wp2_with fail
  refine (HRO.out w3 (HE.out.step HB3.out) (HL.out.below HB3.out)).mono ?_
  rintro ev w4 ⟨rfl, b4⟩
  go_upto_region 5 with (refine wpList_store_row_any rfl 34 _ _ rfl w4.heap.size vo rfl rfl 34 _ (heap_at _ _ _ rfl) Ivo.out (by rw [Zvo.out]; rfl) Ovo.out ?_; intro w5 hbN hgN hsN; have b5 : Below w4.heap.size w4 w5 := ((Below.refl _ w4).alloc (Nat.le_refl _) _).trans (hbN.to_below (by simp) (fun k hk q => by omega)); have Rw5 := Lib.hid hgN; clear hbN hgN hsN)
  have B35 : Hid (Below w3.heap.size w3 w5) := Lib.hid (b4.trans (b5.mono b4.size))
  have HB5 : Hid (Below w.heap.size w w5) := Lib.hid (HB3.out.trans (B35.out.mono HB3.out.size))
  have R85 : Hid (w5.heap[w.heap.size]? = some (.cells vh 34 (0, 0))) := Lib.hid ((B35.out.block _ (Nat.lt_of_lt_of_le (Array.getElem?_eq_some_iff.1 R82.out).1 B23.out.size)).trans ((B23.out.block _ (Array.getElem?_eq_some_iff.1 R82.out).1).trans R82.out))
  clear b4 b5
  go_wp2_with (first
    | (refine wpList_load_row_g rfl 34 _ rfl w4.heap.size rfl 34 vo (0, 0) _ Rw5.out Tryd.underlying34 rfl Ivo.out ?_)
    | (refine wpList_load_row_g rfl 34 _ rfl w.heap.size rfl 34 vh (0, 0) _ R85.out Tryd.underlying34 rfl Ivh.out ?_))
  refine (HSHB.out w5).mono ?_
  clear hq
  rintro ev w6 ⟨sv, rfl, hown, b6⟩
  have HRD := Lib.hid (rd_own hown)
  obtain ⟨Asv, csv, rfl, _⟩ := own_shape hown
  have HB6 : Hid (Below w.heap.size w w6) := Lib.hid (HB5.out.trans (b6.mono HB5.out.size))
  have HB56 := Lib.hid b6
  clear hown b6
  go_wp2_with fail
  refine (laid_any' l P (.slice Asv l.length csv) A m c w6 (by rw [HLB.out.1] at HRD; have := HRD.out; rw [HLB.out.1]; exact this) HLB.out.1 (HP.out.below HB6.out) HLB.out.2.1 (by have := HLB.out.2.2.1; omega)).mono ?_
  rintro ev w8 ⟨rfl, hsd, b8⟩
  have HSD0 := Lib.hid hsd
  obtain ⟨mb, hmb⟩ : ∃ z, w6.heap.size = z := ⟨_, rfl⟩
  have HMB6 := Lib.hid hmb
  rw [hmb] at HSD0 ⊢
  have HB8 : Hid (Below w.heap.size w w8) := Lib.hid (HB6.out.trans (b8.mono HB6.out.size))
  have B68 : Hid (Below w6.heap.size w6 w8) := Lib.hid b8
  have HMW : Hid (w.heap.size ≤ mb) := Lib.hid (by rw [← hmb]; exact HB6.out.size)
  clear hsd b8 hmb
  obtain ⟨w9, hw9⟩ : ∃ z, w8.alloc (.cells #[.pointer (some ⟨b, 0, none⟩), .map (some mb), .int .u64 0, .slice none 0 0] 78) = z := ⟨_, rfl⟩
  have R9 : Hid (w9.heap[w8.heap.size]? = some (.cells #[.pointer (some ⟨b, 0, none⟩), .map (some mb), .int .u64 0, .slice none 0 0] 78 (0, 0))) := Lib.hid (by rw [← hw9]; exact heap_at _ _ _ rfl)
  have B89 : Hid (Below w8.heap.size w8 w9) := Lib.hid (by rw [← hw9]; exact (Below.refl _ _).alloc (Nat.le_refl _) _)
  have B59 : Hid (Below w5.heap.size w5 w9) := Lib.hid (HB56.out.trans ((B68.out.trans (B89.out.mono B68.out.size)).mono HB56.out.size))
  have HB9 : Hid (Below w.heap.size w w9) := Lib.hid (HB8.out.trans (B89.out.mono HB8.out.size))
  have HSD := Lib.hid (HSD0.out.below B89.out HSD0.out.lt)
  obtain ⟨Cb, hCb⟩ : ∃ z, w8.heap.size = z := ⟨_, rfl⟩
  have HMS : Hid (mb ≤ w9.heap.size) := Lib.hid (Nat.le_of_lt HSD.out.lt)
  have HMC8 : Hid (mb < Cb) := Lib.hid (by rw [← hCb]; exact HSD0.out.lt)
  rw [hCb] at R9
  have HCS : Hid (Cb < w9.heap.size) := Lib.hid (Array.getElem?_eq_some_iff.1 R9.out).1
  have HW9 := Lib.hid hw9
  have HCB := Lib.hid hCb
  clear hw9 hCb
  go_upto_region 9 with fail
  rw [HW9.out, HCB.out]
  have KC : Hid (∀ w', But (fun q => q = mb) w9 w' → w'.cell? ⟨Cb, 1, none⟩ = some (.map (some mb))) := Lib.hid (fun w' g => by
    rw [cell_of_row w' Cb 1 _ 78 (0, 0) ((g.same Cb HCS.out (by have := HMC8.out; omega)).trans R9.out)]; rfl)
  have KB : Hid (∀ w', But (fun q => q = mb) w9 w' → w'.heap[w.heap.size]? = some (.cells vh 34 (0, 0))) := Lib.hid (fun w' g => by
    have hm6 : w5.heap.size ≤ mb := by rw [← HMB6.out]; exact HB56.out.size
    have h5 := (Array.getElem?_eq_some_iff.1 R85.out).1
    exact (g.same _ (by have := HMS.out; omega) (by omega)).trans ((B59.out.block _ h5).trans R85.out))
  clear HMB6
  refine wp_region_held_drew (S := But (fun q => q = mb) w9) (by kernel_rfl) (But.refl _ w9).drew (fun hHeld => ?_)
  refine wpAnyH_take (i := 0) (v := ?tv23) rfl (by kernel_rfl) (by kernel_rfl) (by kernel_rfl) (fun _ _ _ h => h) (Or.inl ⟨by rfl, ?ty23⟩) (by assumption) ?tr23
  case ty23 => (intro w hSw; (try dsimp only at hSw); go_simp; (try with_reducible rfl))
  try simp only [Act.put, List.getElem_toArray, List.getElem_cons_zero, List.setIfInBounds_toArray, List.set_cons_zero, List.set_cons_succ]
  refine wpAnyH_take (i := 1) (v := ?tv24) rfl (by kernel_rfl) (by kernel_rfl) (by kernel_rfl) (fun _ _ _ h => h) (Or.inl ⟨by rfl, ?ty24⟩) (by assumption) ?tr24
  case ty24 => (intro w hSw; (try dsimp only at hSw); go_simp; (try with_reducible rfl))
  try simp only [Act.put, List.getElem_toArray, List.getElem_cons_zero, List.getElem_cons_succ, List.setIfInBounds_toArray, List.set_cons_zero, List.set_cons_succ]
  refine wpAnyH_take (i := 2) (v := ?tv25) rfl (by kernel_rfl) (by kernel_rfl) (by kernel_rfl) (fun _ _ _ h => h) (Or.inl ⟨by rfl, ?ty25⟩) (by assumption) ?tr25
  case ty25 => (intro w hSw; (try dsimp only at hSw); go_simp; (try with_reducible rfl))
  try simp only [Act.put, List.getElem_toArray, List.getElem_cons_zero, List.getElem_cons_succ, List.setIfInBounds_toArray, List.set_cons_zero, List.set_cons_succ]
  refine wpAnyH_take (i := 3) (v := ?tv26) rfl (by kernel_rfl) (by kernel_rfl) (by kernel_rfl) (fun _ _ _ h => h) (Or.inl ⟨by rfl, ?ty26⟩) (by assumption) ?tr26
  case ty26 => (intro w hSw; (try dsimp only at hSw); have q0 := KC.out w hSw; go_simp; (try with_reducible rfl))
  try simp only [Act.put, List.getElem_toArray, List.getElem_cons_zero, List.getElem_cons_succ, List.setIfInBounds_toArray, List.set_cons_zero, List.set_cons_succ]
  refine wpAnyH_take (i := 4) (v := ?tv27) rfl (by kernel_rfl) (by kernel_rfl) (by kernel_rfl) (fun _ _ _ h => h) (Or.inl ⟨by rfl, ?ty27⟩) (by assumption) ?tr27
  case ty27 => (intro w hSw; (try dsimp only at hSw); go_simp; (try with_reducible rfl))
  try simp only [Act.put, List.getElem_toArray, List.getElem_cons_zero, List.getElem_cons_succ, List.setIfInBounds_toArray, List.set_cons_zero, List.set_cons_succ]
  refine wpAnyH_take (i := 5) (v := ?tv28) rfl (by kernel_rfl) (by kernel_rfl) (by kernel_rfl) (fun _ _ _ h => h) (Or.inl ⟨by rfl, ?ty28⟩) (by assumption) ?tr28
  case ty28 => (intro w hSw; (try dsimp only at hSw); go_simp; (try with_reducible rfl))
  try simp only [Act.put, List.getElem_toArray, List.getElem_cons_zero, List.getElem_cons_succ, List.setIfInBounds_toArray, List.set_cons_zero, List.set_cons_succ]
  refine wpAnyH_take (i := 6) (v := _) rfl (by kernel_rfl) (by kernel_rfl) (by kernel_rfl) (fun _ _ _ h => h) (yieldsIf_load_row (by rfl) 34 _ (by rfl) w.heap.size (by rfl) 34 vh (0, 0) _ (fun w h => KB.out w h) Tryd.underlying34 rfl Ivh.out) (by assumption) ?_
  try simp only [Act.put, List.getElem_toArray, List.getElem_cons_zero, List.getElem_cons_succ, List.setIfInBounds_toArray, List.set_cons_zero, List.set_cons_succ]
  refine wpAnyH_ready (rs := [7]) (by kernel_rfl) (by simp) ?_
  refine AllReadyH.cons (i := 7) rfl (fun K2 hK2 => ?_) AllReadyH.nil
  rw [if_pos (by rfl)]
  refine wp_mapUpdate_said _ _ _ rfl mb _ _ rfl HSD.out.2.drew (by unfold maxLen; have := HLB.out; simp only [List.length_zip]; omega) (0, old) HPB.out b0 HBL.out rfl (by rw [hv, HBV.out]; rfl) ?_
  intro w10 hown10 hgrow10
  have HN10 := Lib.hid (And.intro hown10 hgrow10)
  clear hown10 hgrow10
  refine hK2.out _ _ (show But (fun q => q = mb) w9 w10 from ((But.refl (fun q => q = mb) w9).drew).grown HN10.out.2 (fun q hq _ => by cases hq; rfl)) (fun hHeld2 => ?_)
  clear hK2 K2
  try simp only [Act.put, List.getElem_toArray, List.getElem_cons_zero, List.getElem_cons_succ]
  refine wpAnyH_done (by kernel_rfl) ?_ _
  have HB10 : Hid (Below w.heap.size w w10) := Lib.hid (HB9.out.trans (((But.refl (fun q => q = mb) w9).drew.grown HN10.out.2 (fun q hq _ => by cases hq; rfl)).to_below HB9.out.size (fun k hk => by have := HMW.out; omega)))
  have BM10 : Hid (But (fun q => q = mb) w9 w10) := Lib.hid ((But.refl (fun q => q = mb) w9).drew.grown HN10.out.2 (fun q hq _ => by cases hq; rfl))
  have R10 : Hid (w10.heap[Cb]? = some (.cells #[.pointer (some ⟨b, 0, none⟩), .map (some mb), .int .u64 0, .slice none 0 0] 78 (0, 0))) := Lib.hid ((BM10.out.same Cb HCS.out (by have := HMC8.out; omega)).trans R9.out)
  have HSI : Hid (SIn w10 none 0 0 []) := Lib.hid ⟨rfl, Nat.le_refl _, by omega, fun s hs => by simp at hs, by omega, .inl rfl⟩
  have HSD10 : Hid (SaidAt w10 mb (mapC old sz b0 P)) := Lib.hid (by
    rw [← HMC.out]
    refine ⟨fun x hx => ?_, ?_⟩
    · rcases List.mem_append.1 hx with hx | hx
      · exact HSD.out.1 x hx
      · simp at hx; subst hx; exact ⟨HPB.out, HBL.out⟩
    · rw [List.length_append, saidD_snoc]
      exact HN10.out.1)
  have HPP : Hid (PartPre a B base b v L Cb mb 0 none 0 0 [] (mapC old sz b0 P) w10) := Lib.hid ⟨HE.out.step HB10.out, HL.out.below HB10.out, R10.out, HSD10.out, HSI.out, fun s hs => by simp at hs, fun g o q => by cases q⟩
  have HPT : Hid (Calls Tryd.prog 32 #[.pointer (some ⟨Cb, 0, none⟩), .int .u64 sz] w10 fun ev w' => PartPost out ev ∧ Below w10.heap.size w10 w') := Lib.hid (by
    have := part_any a B base b v L Cb mb 0 none 0 0 [] (mapC old sz b0 P) sz w10 HPP.out (by omega) HN.out.1 HN.out.2 (fun i hi => absurd hi (HLB.out.2.2.2.1 i))
    rw [HLB.out.2.2.2.2] at this; exact this)
  clear hHeld2
  go_wp2_with fail
  refine HPT.out.mono ?_
  rintro ev w11 ⟨hpo, b11⟩
  have HB11 : Hid (Below w.heap.size w w11) := Lib.hid (HB10.out.trans (b11.mono HB10.out.size))
  clear b11
  cases out with
  | none =>
    obtain rfl := hpo
    go_wp2
    go_ret3
    exact ⟨rfl, HB11.out⟩
  | some r =>
    obtain ⟨s, t, rfl, hr⟩ := hpo
    have HR := Lib.hid hr
    clear hr
    go_wp2
    go_ret3
    exact ⟨⟨s, t, rfl, HR.out⟩, HB11.out⟩

end Go.Proofs.YtaekabhcgdjhfaaDoor

/- The law ForgeConsistency. Condition: the package-level variables read as listed. -/
namespace Go.Proofs.YtaekabhcgdjhfaaDoor
open Go.ChangeShapes Go.WideShapes Go.ChangeAt Go.RowKit
set_option linter.unusedVariables false
section
variable {H : Type} {enc : TypeId × Value → H} {W : World} {base : Nat} {spare : Nat → Bool} {held : Bool}
set_option maxRecDepth 100000 in
theorem hash_arg {n : Nat} {r : Reach} {b0 : Nat} {v : Value} {x : DataW H × List MemPlace} (o : Value.okWide Tryd.prog W r b0 34 v) (h : DataW.trod enc Tryd.prog W base spare held n 34 v.cells.toList = some x) : ∃ l : List UInt8, l.length = 32 ∧ v = hv l := by
  simp only [Value.okWide, Tryd.underlying34] at o
  obtain ⟨cs, rfl, h2, _⟩ := o
  obtain ⟨l, hl, hc⟩ := hash_open Tryd.underlying34 Tryd.underlying5 (by kernel_rfl) (by kernel_rfl) h
  refine ⟨l, hl, ?_⟩
  unfold hv
  simp only [Value.cells] at hc
  rw [← hc]
end
theorem beyond3 (x0 x1 x2 : Nat) (w : World) (hx0 : x0 ≤ 9000000000000000000) (hx1 : x1 ≤ 9000000000000000000) (hx2 : x2 ≤ 9000000000000000000) :
    Calls Tryd.prog 7 #[.slice (some ⟨w.heap.size, 0, none⟩) 3 3] (w.alloc (.cells #[.int .i64 (x0 : Nat), .int .i64 (x1 : Nat), .int .i64 (x2 : Nat)] 3)) fun ev w' => ev = .returned (.bool (decide (1048576 < x0 + x1 + x2))) ∧ w' = (w.alloc (.cells #[.int .i64 (x0 : Nat), .int .i64 (x1 : Nat), .int .i64 (x2 : Nat)] 3)) := by
  have := beyond_any [x0, x1, x2] w.heap.size 3 3 (w.alloc (.cells #[.int .i64 (x0 : Nat), .int .i64 (x1 : Nat), .int .i64 (x2 : Nat)] 3)) rfl (by simp; omega) (fun j x hj => by
    refine cell_new _ _ _ _ ?_
    match j, hj with
    | 0, hj => simp at hj; subst hj; rfl
    | 1, hj => simp at hj; subst hj; rfl
    | 2, hj => simp at hj; subst hj; rfl
    | j + 3, hj => simp at hj) (by omega)
  have hs : [x0, x1, x2].sum = x0 + x1 + x2 := by simp <;> omega
  rw [hs] at this
  exact this.mono (fun _ _ h => ⟨h.1, h.2.symm⟩)

set_option maxRecDepth 100000 in
set_option maxHeartbeats 4000000 in
theorem fcl_great (a : Nat → Addr) (B : Nat) (D : List ByteArray) (b0 : List UInt8) (P : List (List UInt8)) (A : Option Addr) (n c X Z : Nat) (G : Option Addr) (m g : Nat) (w : World) (hE : Env B a w) (h : SIn w A n c D) (hX : X < 18446744073709551616) (hZ : Z < 18446744073709551616) (hb : b0.length = 32) (hp : HIn w G m g P) (hm : m ≤ 9000000000000000000) (hg : 1048576 < n + bulk D + m) :
    Calls Tryd.prog 4 #[.slice A n c, .int .u64 X, .int .u64 Z, hv b0, .slice G m g] w fun ev w' => ev = .returned (.bool true) ∧ Below w.heap.size w w' := by
  have HE := Lib.hid hE
  have HD := Lib.hid h
  have HP := Lib.hid hp
  have hn9 : n ≤ 140737488355328 := h.2.2.2.2.1
  have HG := Lib.hid hg
  obtain ⟨vh, evh, Hvh, Zvh, Ivh, Ovh⟩ := row_of b0 hb
  have EVH := Lib.hid evh
  have HBL := Lib.hid hb
  rw [evh]
  have R8 : Hid ((w.alloc (.cells vh 34)).heap[w.heap.size]? = some (.cells vh 34 (0, 0))) := Lib.hid (heap_at _ _ _ rfl)
  have HB0 : Hid (Below w.heap.size w (w.alloc (.cells vh 34))) := Lib.hid ((Below.refl _ _).alloc (Nat.le_refl _) _)
  have HS0 : Hid (w.heap.size < (w.alloc (.cells vh 34)).heap.size) := Lib.hid (by simp)
  obtain ⟨wv, hwv⟩ : ∃ x, w.alloc (.cells vh 34) = x := ⟨_, rfl⟩
  rw [hwv] at R8 HB0 HS0
  have HWV := Lib.hid hwv
  clear hwv
  clear hE h hg hp evh hb
  go_enter Tryd.func4, Tryd.ntmps4
  go_upto_region 1 with fail
  rw [HWV.out]
  go_wp2_with fail
  refine (texts_any D A n c wv (HD.out.below HB0.out)).mono ?_
  rintro ev w' ⟨t, rfl, ht9, ht, rfl⟩
  have HT0 := Lib.hid ht
  clear ht
  go_wp2_with fail
  refine (beyond3 n t m wv (by omega) ht9 hm).mono ?_
  rintro ev w1 ⟨rfl, hw1⟩
  have b1 : Below w.heap.size w w1 := by rw [hw1]; exact HB0.out.alloc HB0.out.size _
  have R81 : Hid (w1.heap[w.heap.size]? = some (.cells vh 34 (0, 0))) := Lib.hid (by rw [hw1]; exact (((Below.refl _ wv).alloc (Nat.le_refl _) _).block _ HS0.out).trans R8.out)
  clear hw1
  have hgd : decide (1048576 < n + t + m) = true := by have := HT0.out; have := HG.out; simp; omega
  rw [hgd]
  go_wp2
  go_ret
  exact ⟨rfl, b1⟩

set_option maxRecDepth 100000 in
set_option maxHeartbeats 16000000 in
theorem fcl_over (a : Nat → Addr) (B : Nat) (D : List ByteArray) (b0 : List UInt8) (P : List (List UInt8)) (A : Option Addr) (n c X Z : Nat) (G : Option Addr) (m g : Nat) (w : World) (hE : Env B a w) (h : SIn w A n c D) (hX : X < 18446744073709551616) (hZ : Z < 18446744073709551616) (hb : b0.length = 32) (hp : HIn w G m g P) (hm : m ≤ 9000000000000000000) (hg : n + bulk D + m ≤ 1048576) (hvq : (keptL D).length < Z) :
    Calls Tryd.prog 4 #[.slice A n c, .int .u64 X, .int .u64 Z, hv b0, .slice G m g] w fun ev w' => ev = .returned (.bool true) ∧ Below w.heap.size w w' := by
  have HE := Lib.hid hE
  have HD := Lib.hid h
  have HP := Lib.hid hp
  have hn9 : n ≤ 140737488355328 := h.2.2.2.2.1
  have HG := Lib.hid hg
  obtain ⟨vh, evh, Hvh, Zvh, Ivh, Ovh⟩ := row_of b0 hb
  have EVH := Lib.hid evh
  have HBL := Lib.hid hb
  rw [evh]
  have R8 : Hid ((w.alloc (.cells vh 34)).heap[w.heap.size]? = some (.cells vh 34 (0, 0))) := Lib.hid (heap_at _ _ _ rfl)
  have HB0 : Hid (Below w.heap.size w (w.alloc (.cells vh 34))) := Lib.hid ((Below.refl _ _).alloc (Nat.le_refl _) _)
  have HS0 : Hid (w.heap.size < (w.alloc (.cells vh 34)).heap.size) := Lib.hid (by simp)
  obtain ⟨wv, hwv⟩ : ∃ x, w.alloc (.cells vh 34) = x := ⟨_, rfl⟩
  rw [hwv] at R8 HB0 HS0
  have HWV := Lib.hid hwv
  clear hwv
  clear hE h hg hp evh hb
  go_enter Tryd.func4, Tryd.ntmps4
  go_upto_region 1 with fail
  rw [HWV.out]
  go_wp2_with fail
  refine (texts_any D A n c wv (HD.out.below HB0.out)).mono ?_
  rintro ev w' ⟨t, rfl, ht9, ht, rfl⟩
  have HT0 := Lib.hid ht
  clear ht
  go_wp2_with fail
  refine (beyond3 n t m wv (by omega) ht9 hm).mono ?_
  rintro ev w1 ⟨rfl, hw1⟩
  have b1 : Below w.heap.size w w1 := by rw [hw1]; exact HB0.out.alloc HB0.out.size _
  have R81 : Hid (w1.heap[w.heap.size]? = some (.cells vh 34 (0, 0))) := Lib.hid (by rw [hw1]; exact (((Below.refl _ wv).alloc (Nat.le_refl _) _).block _ HS0.out).trans R8.out)
  clear hw1
  have hgd : decide (1048576 < n + t + m) = false := by have := HT0.out; have := HG.out; simp; omega
  have hn10 : n ≤ 1048576 := by have := HG.out; omega
  have hdm : m ≤ 1048576 := by have := HG.out; omega
  rw [hgd]
  go_wp2_with fail
  refine (logs20_any a B D A n c w1 (HE.out.step b1) (HD.out.below b1) hn10).mono ?_
  rintro ev w2 ⟨b, v, b2, rfl, hL2, bb⟩
  have HL2 := Lib.hid hL2
  have HB2 : Hid (Below w.heap.size w w2) := Lib.hid (b1.trans (bb.mono b1.size))
  have R82 : Hid (w2.heap[w.heap.size]? = some (.cells vh 34 (0, 0))) := Lib.hid ((bb.block _ (Array.getElem?_eq_some_iff.1 R81.out).1).trans R81.out)
  have HE2 := Lib.hid (HE.out.step HB2.out)
  have HP2 := Lib.hid (HP.out.below HB2.out)
  have HCw2 : Hid (Below w2.heap.size w2 w2) := Lib.hid (Below.refl _ _)
  have hN9 : (keptL D).length ≤ 1048576 := hL2.1.1
  clear hL2 b1 bb
  obtain ⟨L, hL⟩ : ∃ L, keptL D = L := ⟨_, rfl⟩
  rw [hL] at HL2 hvq hN9  
  obtain ⟨base, hbase⟩ : ∃ z, w1.heap.size = z := ⟨_, rfl⟩
  rw [hbase] at HL2
  have HLV := Lib.hid (lives20_any a B)
  obtain ⟨vr, evr, Hvr, Zvr, Ivr, Ovr⟩ := row_of zeroH zeroH_length
  have HROOT : Hid (∀ w, Env B a w → LogAt base b v L w → Calls Tryd.prog 11 #[.pointer (some ⟨b, 0, none⟩), .int .u64 Z] w fun ev w' => ev = .returned (.tuple #[.agg vr, .iface 169 (.pointer (some (a 5)))]) ∧ Below w.heap.size w w') := Lib.hid (fun w e q => by
    have := lroot_over a B base b v L Z w e q (by omega) (by omega)
    rw [evr] at this; exact this)
  have HFB : Hid (Calls Tryd.prog 18 #[.pointer (some ⟨b, 0, none⟩), .int .u64 X, .int .u64 Z, .agg vh, .slice G m g] w2 fun ev w' => ev = .returned (.tuple #[.string ⟨#[]⟩, .string ⟨#[]⟩, .bool false]) ∧ Below w2.heap.size w2 w') := Lib.hid (by
    rw [← EVH.out]
    exact fcon_none (.pointer (some ⟨b, 0, none⟩)) X Z b0 HBL.out G m g w2 (a 5) (fun w' hb => lroot_over a B base b v L Z w' (HE2.out.step hb) (HL2.out.below hb) (by omega) (by omega)))
  clear hL hbase evr hvq hN9 hX hdm
  go_wp2_with (refine wpList_load_row_g rfl 34 _ rfl w.heap.size rfl 34 vh (0, 0) _ R82.out Tryd.underlying34 rfl Ivh.out ?_)
  refine HFB.out.mono ?_
  rintro ev w3 ⟨rfl, bb⟩
  have HCw3 : Hid (Below w2.heap.size w2 w3) := Lib.hid (HCw2.out.trans (bb.mono HCw2.out.size))
  have Sw3 : Hid (Below w2.heap.size w2 w3) := Lib.hid bb
  clear bb
  go_wp2_with fail
  refine (HROOT.out w3 (HE2.out.step HCw3.out) (HL2.out.below HCw3.out)).mono ?_
  rintro ev w4 ⟨rfl, bb⟩
  have HCw4 : Hid (Below w2.heap.size w2 w4) := Lib.hid (HCw3.out.trans (bb.mono HCw3.out.size))
  have Sw4 : Hid (Below w3.heap.size w3 w4) := Lib.hid bb
  clear bb
  go_upto_region 8 with (refine wpList_store_row_any rfl 34 _ _ rfl w4.heap.size vr rfl rfl 34 _ (heap_at _ _ _ rfl) Ivr.out (by rw [Zvr.out]; rfl) Ovr.out ?_; intro w5 hbN hgN hsN; have bs : Below w4.heap.size w4 w5 := ((Below.refl _ w4).alloc (Nat.le_refl _) _).trans (hbN.to_below (by simp) (fun k hk q => by omega)); have Rw5 := Lib.hid hgN; clear hbN hgN hsN)
  have HCw5 : Hid (Below w2.heap.size w2 w5) := Lib.hid (HCw4.out.trans (bs.mono HCw4.out.size))
  have Sw5 : Hid (Below w4.heap.size w4 w5) := Lib.hid bs
  clear bs
  go_wp2_with fail
  refine (two_none w5).mono ?_
  rintro ev w8 ⟨rfl, bb⟩
  have HCw8 : Hid (Below w2.heap.size w2 w8) := Lib.hid (HCw5.out.trans (bb.mono HCw5.out.size))
  have Sw8 : Hid (Below w5.heap.size w5 w8) := Lib.hid bb
  clear bb
  go_wp2_with fail
  refine (HLV.out w8 (HE2.out.step HCw8.out)).mono ?_
  rintro ev w' ⟨rfl, bb⟩
  go_wp2
  go_ret
  exact ⟨rfl, HB2.out.trans ((HCw8.out.trans (bb.mono HCw8.out.size)).mono HB2.out.size)⟩

set_option maxRecDepth 100000 in
set_option maxHeartbeats 16000000 in
theorem fcl_bad (a : Nat → Addr) (B : Nat) (D : List ByteArray) (b0 : List UInt8) (P : List (List UInt8)) (A : Option Addr) (n c X Z : Nat) (G : Option Addr) (m g : Nat) (w : World) (hE : Env B a w) (h : SIn w A n c D) (hX : X < 18446744073709551616) (hZ : Z < 18446744073709551616) (hb : b0.length = 32) (hp : HIn w G m g P) (hm : m ≤ 9000000000000000000) (hg : n + bulk D + m ≤ 1048576) (hz : Z ≤ (keptL D).length) (hvq : ¬ okC X Z (keptL D) b0 P) :
    Calls Tryd.prog 4 #[.slice A n c, .int .u64 X, .int .u64 Z, hv b0, .slice G m g] w fun ev w' => ev = .returned (.bool true) ∧ Below w.heap.size w w' := by
  have HE := Lib.hid hE
  have HD := Lib.hid h
  have HP := Lib.hid hp
  have hn9 : n ≤ 140737488355328 := h.2.2.2.2.1
  have HG := Lib.hid hg
  obtain ⟨vh, evh, Hvh, Zvh, Ivh, Ovh⟩ := row_of b0 hb
  have EVH := Lib.hid evh
  have HBL := Lib.hid hb
  rw [evh]
  have R8 : Hid ((w.alloc (.cells vh 34)).heap[w.heap.size]? = some (.cells vh 34 (0, 0))) := Lib.hid (heap_at _ _ _ rfl)
  have HB0 : Hid (Below w.heap.size w (w.alloc (.cells vh 34))) := Lib.hid ((Below.refl _ _).alloc (Nat.le_refl _) _)
  have HS0 : Hid (w.heap.size < (w.alloc (.cells vh 34)).heap.size) := Lib.hid (by simp)
  obtain ⟨wv, hwv⟩ : ∃ x, w.alloc (.cells vh 34) = x := ⟨_, rfl⟩
  rw [hwv] at R8 HB0 HS0
  have HWV := Lib.hid hwv
  clear hwv
  clear hE h hg hp evh hb
  go_enter Tryd.func4, Tryd.ntmps4
  go_upto_region 1 with fail
  rw [HWV.out]
  go_wp2_with fail
  refine (texts_any D A n c wv (HD.out.below HB0.out)).mono ?_
  rintro ev w' ⟨t, rfl, ht9, ht, rfl⟩
  have HT0 := Lib.hid ht
  clear ht
  go_wp2_with fail
  refine (beyond3 n t m wv (by omega) ht9 hm).mono ?_
  rintro ev w1 ⟨rfl, hw1⟩
  have b1 : Below w.heap.size w w1 := by rw [hw1]; exact HB0.out.alloc HB0.out.size _
  have R81 : Hid (w1.heap[w.heap.size]? = some (.cells vh 34 (0, 0))) := Lib.hid (by rw [hw1]; exact (((Below.refl _ wv).alloc (Nat.le_refl _) _).block _ HS0.out).trans R8.out)
  clear hw1
  have hgd : decide (1048576 < n + t + m) = false := by have := HT0.out; have := HG.out; simp; omega
  have hn10 : n ≤ 1048576 := by have := HG.out; omega
  have hdm : m ≤ 1048576 := by have := HG.out; omega
  rw [hgd]
  go_wp2_with fail
  refine (logs20_any a B D A n c w1 (HE.out.step b1) (HD.out.below b1) hn10).mono ?_
  rintro ev w2 ⟨b, v, b2, rfl, hL2, bb⟩
  have HL2 := Lib.hid hL2
  have HB2 : Hid (Below w.heap.size w w2) := Lib.hid (b1.trans (bb.mono b1.size))
  have R82 : Hid (w2.heap[w.heap.size]? = some (.cells vh 34 (0, 0))) := Lib.hid ((bb.block _ (Array.getElem?_eq_some_iff.1 R81.out).1).trans R81.out)
  have HE2 := Lib.hid (HE.out.step HB2.out)
  have HP2 := Lib.hid (HP.out.below HB2.out)
  have HCw2 : Hid (Below w2.heap.size w2 w2) := Lib.hid (Below.refl _ _)
  have hN9 : (keptL D).length ≤ 1048576 := hL2.1.1
  clear hL2 b1 bb
  obtain ⟨L, hL⟩ : ∃ L, keptL D = L := ⟨_, rfl⟩
  rw [hL] at HL2 hvq hN9 hz 
  obtain ⟨base, hbase⟩ : ∃ z, w1.heap.size = z := ⟨_, rfl⟩
  rw [hbase] at HL2
  have HLV := Lib.hid (lives20_any a B)
  obtain ⟨vr, evr, Hvr, Zvr, Ivr, Ovr⟩ := row_of (treeB L 0 Z) (treeB_len _ _ _)
  have HROOT : Hid (∀ w, Env B a w → LogAt base b v L w → Calls Tryd.prog 11 #[.pointer (some ⟨b, 0, none⟩), .int .u64 Z] w fun ev w' => ev = .returned (.tuple #[.agg vr, .nilIface]) ∧ Below w.heap.size w w') := Lib.hid (fun w e q => by
    have := lroot_ok a B base b v L Z w e q (by omega) (by omega)
    rw [evr] at this; exact this)
  have HFB : Hid (Calls Tryd.prog 18 #[.pointer (some ⟨b, 0, none⟩), .int .u64 X, .int .u64 Z, .agg vh, .slice G m g] w2 fun ev w' => ev = .returned (.tuple #[.string ⟨#[]⟩, .string ⟨#[]⟩, .bool false]) ∧ Below w2.heap.size w2 w') := Lib.hid (by
    have := fcon_bad a B base b v L X Z b0 P G m g w2 HE2.out HL2.out hz hX HBL.out HP2.out (by omega) hvq
    rw [EVH.out] at this; exact this)
  obtain ⟨qe, HVE⟩ : ∃ qe, errV a (if X = 0 ∨ Z < X then 5 else 10) = .iface 169 (.pointer (some qe)) := ⟨_, rfl⟩
  have HCO : Hid (∀ w, Env B a w → HIn w G m g P → Calls Tryd.prog 19 #[.int .u64 X, .int .u64 Z, .agg vh, .agg vr, .slice G m g] w fun ev w' => ev = .returned (.iface 169 (.pointer (some qe))) ∧ Below w.heap.size w w') := Lib.hid (fun w e q => by
    have := vcons_fail a B X Z L b0 P G m g w e (by omega) HBL.out q (by omega) hvq
    rw [EVH.out, evr, HVE] at this; exact this)
  clear hL hbase evr hvq hz HVE hN9 hX hdm
  go_wp2_with (refine wpList_load_row_g rfl 34 _ rfl w.heap.size rfl 34 vh (0, 0) _ R82.out Tryd.underlying34 rfl Ivh.out ?_)
  refine HFB.out.mono ?_
  rintro ev w3 ⟨rfl, bb⟩
  have HCw3 : Hid (Below w2.heap.size w2 w3) := Lib.hid (HCw2.out.trans (bb.mono HCw2.out.size))
  have Sw3 : Hid (Below w2.heap.size w2 w3) := Lib.hid bb
  clear bb
  go_wp2_with fail
  refine (HROOT.out w3 (HE2.out.step HCw3.out) (HL2.out.below HCw3.out)).mono ?_
  rintro ev w4 ⟨rfl, bb⟩
  have HCw4 : Hid (Below w2.heap.size w2 w4) := Lib.hid (HCw3.out.trans (bb.mono HCw3.out.size))
  have Sw4 : Hid (Below w3.heap.size w3 w4) := Lib.hid bb
  clear bb
  go_upto_region 8 with (refine wpList_store_row_any rfl 34 _ _ rfl w4.heap.size vr rfl rfl 34 _ (heap_at _ _ _ rfl) Ivr.out (by rw [Zvr.out]; rfl) Ovr.out ?_; intro w5 hbN hgN hsN; have bs : Below w4.heap.size w4 w5 := ((Below.refl _ w4).alloc (Nat.le_refl _) _).trans (hbN.to_below (by simp) (fun k hk q => by omega)); have Rw5 := Lib.hid hgN; clear hbN hgN hsN)
  have HCw5 : Hid (Below w2.heap.size w2 w5) := Lib.hid (HCw4.out.trans (bs.mono HCw4.out.size))
  have Sw5 : Hid (Below w4.heap.size w4 w5) := Lib.hid bs
  clear bs
  go_wp2_with (first
    | (refine wpList_load_row_g rfl 34 _ rfl w.heap.size rfl 34 vh (0, 0) _ ((HCw5.out.block _ (Array.getElem?_eq_some_iff.1 R82.out).1).trans R82.out) Tryd.underlying34 rfl Ivh.out ?_)
    | (refine wpList_load_row_g rfl 34 _ rfl w4.heap.size rfl 34 vr (0, 0) _ Rw5.out Tryd.underlying34 rfl Ivr.out ?_))
  refine (HCO.out w5 (HE2.out.step HCw5.out) (HP2.out.below HCw5.out)).mono ?_
  rintro ev w6 ⟨rfl, bb⟩
  have HCw6 : Hid (Below w2.heap.size w2 w6) := Lib.hid (HCw5.out.trans (bb.mono HCw5.out.size))
  have Sw6 : Hid (Below w5.heap.size w5 w6) := Lib.hid bb
  clear bb
  go_wp2_with fail
  refine (two_none w6).mono ?_
  rintro ev w8 ⟨rfl, bb⟩
  have HCw8 : Hid (Below w2.heap.size w2 w8) := Lib.hid (HCw6.out.trans (bb.mono HCw6.out.size))
  have Sw8 : Hid (Below w6.heap.size w6 w8) := Lib.hid bb
  clear bb
  go_wp2_with fail
  refine (HLV.out w8 (HE2.out.step HCw8.out)).mono ?_
  rintro ev w' ⟨rfl, bb⟩
  go_wp2
  go_ret
  exact ⟨rfl, HB2.out.trans ((HCw8.out.trans (bb.mono HCw8.out.size)).mono HB2.out.size)⟩

set_option maxRecDepth 100000 in
set_option maxHeartbeats 16000000 in
theorem fcl_same (a : Nat → Addr) (B : Nat) (D : List ByteArray) (b0 : List UInt8) (P : List (List UInt8)) (A : Option Addr) (n c X Z : Nat) (G : Option Addr) (m g : Nat) (w : World) (hE : Env B a w) (h : SIn w A n c D) (hX : X < 18446744073709551616) (hZ : Z < 18446744073709551616) (hb : b0.length = 32) (hp : HIn w G m g P) (hm : m ≤ 9000000000000000000) (hg : n + bulk D + m ≤ 1048576) (hz : Z ≤ (keptL D).length) (hvq : okC X Z (keptL D) b0 P) (hsm : b0 = treeB (keptL D) 0 X) :
    Calls Tryd.prog 4 #[.slice A n c, .int .u64 X, .int .u64 Z, hv b0, .slice G m g] w fun ev w' => ev = .returned (.bool true) ∧ Below w.heap.size w w' := by
  have HE := Lib.hid hE
  have HD := Lib.hid h
  have HP := Lib.hid hp
  have hn9 : n ≤ 140737488355328 := h.2.2.2.2.1
  have HG := Lib.hid hg
  obtain ⟨vh, evh, Hvh, Zvh, Ivh, Ovh⟩ := row_of b0 hb
  have EVH := Lib.hid evh
  have HBL := Lib.hid hb
  rw [evh]
  have R8 : Hid ((w.alloc (.cells vh 34)).heap[w.heap.size]? = some (.cells vh 34 (0, 0))) := Lib.hid (heap_at _ _ _ rfl)
  have HB0 : Hid (Below w.heap.size w (w.alloc (.cells vh 34))) := Lib.hid ((Below.refl _ _).alloc (Nat.le_refl _) _)
  have HS0 : Hid (w.heap.size < (w.alloc (.cells vh 34)).heap.size) := Lib.hid (by simp)
  obtain ⟨wv, hwv⟩ : ∃ x, w.alloc (.cells vh 34) = x := ⟨_, rfl⟩
  rw [hwv] at R8 HB0 HS0
  have HWV := Lib.hid hwv
  clear hwv
  clear hE h hg hp evh hb
  go_enter Tryd.func4, Tryd.ntmps4
  go_upto_region 1 with fail
  rw [HWV.out]
  go_wp2_with fail
  refine (texts_any D A n c wv (HD.out.below HB0.out)).mono ?_
  rintro ev w' ⟨t, rfl, ht9, ht, rfl⟩
  have HT0 := Lib.hid ht
  clear ht
  go_wp2_with fail
  refine (beyond3 n t m wv (by omega) ht9 hm).mono ?_
  rintro ev w1 ⟨rfl, hw1⟩
  have b1 : Below w.heap.size w w1 := by rw [hw1]; exact HB0.out.alloc HB0.out.size _
  have R81 : Hid (w1.heap[w.heap.size]? = some (.cells vh 34 (0, 0))) := Lib.hid (by rw [hw1]; exact (((Below.refl _ wv).alloc (Nat.le_refl _) _).block _ HS0.out).trans R8.out)
  clear hw1
  have hgd : decide (1048576 < n + t + m) = false := by have := HT0.out; have := HG.out; simp; omega
  have hn10 : n ≤ 1048576 := by have := HG.out; omega
  have hdm : m ≤ 1048576 := by have := HG.out; omega
  rw [hgd]
  go_wp2_with fail
  refine (logs20_any a B D A n c w1 (HE.out.step b1) (HD.out.below b1) hn10).mono ?_
  rintro ev w2 ⟨b, v, b2, rfl, hL2, bb⟩
  have HL2 := Lib.hid hL2
  have HB2 : Hid (Below w.heap.size w w2) := Lib.hid (b1.trans (bb.mono b1.size))
  have R82 : Hid (w2.heap[w.heap.size]? = some (.cells vh 34 (0, 0))) := Lib.hid ((bb.block _ (Array.getElem?_eq_some_iff.1 R81.out).1).trans R81.out)
  have HE2 := Lib.hid (HE.out.step HB2.out)
  have HP2 := Lib.hid (HP.out.below HB2.out)
  have HCw2 : Hid (Below w2.heap.size w2 w2) := Lib.hid (Below.refl _ _)
  have hN9 : (keptL D).length ≤ 1048576 := hL2.1.1
  clear hL2 b1 bb
  obtain ⟨L, hL⟩ : ∃ L, keptL D = L := ⟨_, rfl⟩
  rw [hL] at HL2 hvq hN9 hz hsm
  obtain ⟨base, hbase⟩ : ∃ z, w1.heap.size = z := ⟨_, rfl⟩
  rw [hbase] at HL2
  have HLV := Lib.hid (lives20_any a B)
  obtain ⟨vr, evr, Hvr, Zvr, Ivr, Ovr⟩ := row_of (treeB L 0 Z) (treeB_len _ _ _)
  have HROOT : Hid (∀ w, Env B a w → LogAt base b v L w → Calls Tryd.prog 11 #[.pointer (some ⟨b, 0, none⟩), .int .u64 Z] w fun ev w' => ev = .returned (.tuple #[.agg vr, .nilIface]) ∧ Below w.heap.size w w') := Lib.hid (fun w e q => by
    have := lroot_ok a B base b v L Z w e q (by omega) (by omega)
    rw [evr] at this; exact this)
  have HFB : Hid (Calls Tryd.prog 18 #[.pointer (some ⟨b, 0, none⟩), .int .u64 X, .int .u64 Z, .agg vh, .slice G m g] w2 fun ev w' => (∃ s, ev = .returned (.tuple #[.string s, .string s, .bool false]) ∧ bOf s = soB L Z) ∧ Below w2.heap.size w2 w') := Lib.hid (by
    have := fcon_same a B base b v L X Z b0 P G m g w2 HE2.out HL2.out hz hX HBL.out HP2.out (by omega) hvq hsm
    rw [EVH.out] at this; exact this)
  have HCO : Hid (∀ w, Env B a w → HIn w G m g P → Calls Tryd.prog 19 #[.int .u64 X, .int .u64 Z, .agg vh, .agg vr, .slice G m g] w fun ev w' => ev = .returned .nilIface ∧ Below w.heap.size w w') := Lib.hid (fun w e q => by
    have := vcons_good a B X Z L b0 P G m g w e (by omega) HBL.out q (by omega) hvq
    rw [EVH.out, evr] at this; exact this)
  have h0 : 0 < X := hvq.1
  have h1 : X ≤ Z := hvq.2.1
  obtain ⟨vo, evo, Hvo, Zvo, Ivo, Ovo⟩ := row_of (treeB L 0 X) (treeB_len _ _ _)
  have HRO : Hid (∀ w, Env B a w → LogAt base b v L w → Calls Tryd.prog 11 #[.pointer (some ⟨b, 0, none⟩), .int .u64 X] w fun ev w' => ev = .returned (.tuple #[.agg vo, .nilIface]) ∧ Below w.heap.size w w') := Lib.hid (fun w e q => by
    have := lroot_ok a B base b v L X w e q (by omega) (by omega)
    rw [evo] at this; exact this)
  have HQ : Hid (∀ w, (Op.equalIn 10000 34 (.agg vo) (.agg vh)).run Tryd.prog w = .ok true w) := Lib.hid (fun w => by rw [eq_hash _ _ (treeB_len L 0 X) HBL.out vo vh evo EVH.out w]; simp [hsm])
  have HZL : Hid (0 < Z ∧ Z ≤ L.length) := Lib.hid ⟨by omega, hz⟩
  have HLOK := Lib.hid (show LogOk L from HL2.out.1)
  have HRIGHT : Hid (∀ (s : ByteArray) (w : World), bOf s = soB L Z → Env B a w → Calls Tryd.prog 17 #[.string s, .string s, .bool false, .bool true, .agg vr] w fun ev w' => ev = .returned (.bool true) ∧ Below w.heap.size w w') := Lib.hid (fun s w hs e => by
    have z0 : 0 < Z := HZL.out.1
    have := right_any a B s (treeB L 0 Z) w e (by have := soB_len z0 HZL.out.2 HLOK.out; rw [← hs, bOf_length] at this; omega) (treeB_len _ _ _) (by rw [hs]; exact soB_sha z0 HZL.out.2 HLOK.out.1)
    rw [evr] at this; exact this)
  clear hL hbase evr hvq hz hsm evo h0 h1 hN9 hX hdm
  go_wp2_with (refine wpList_load_row_g rfl 34 _ rfl w.heap.size rfl 34 vh (0, 0) _ R82.out Tryd.underlying34 rfl Ivh.out ?_)
  refine HFB.out.mono ?_
  rintro ev w3 ⟨⟨s0, rfl, hs0⟩, bb⟩
  have HR := Lib.hid (fun w e => HRIGHT.out s0 w hs0 e)
  clear hs0
  have HCw3 : Hid (Below w2.heap.size w2 w3) := Lib.hid (HCw2.out.trans (bb.mono HCw2.out.size))
  have Sw3 : Hid (Below w2.heap.size w2 w3) := Lib.hid bb
  clear bb
  go_wp2_with fail
  refine (HROOT.out w3 (HE2.out.step HCw3.out) (HL2.out.below HCw3.out)).mono ?_
  rintro ev w4 ⟨rfl, bb⟩
  have HCw4 : Hid (Below w2.heap.size w2 w4) := Lib.hid (HCw3.out.trans (bb.mono HCw3.out.size))
  have Sw4 : Hid (Below w3.heap.size w3 w4) := Lib.hid bb
  clear bb
  go_upto_region 8 with (refine wpList_store_row_any rfl 34 _ _ rfl w4.heap.size vr rfl rfl 34 _ (heap_at _ _ _ rfl) Ivr.out (by rw [Zvr.out]; rfl) Ovr.out ?_; intro w5 hbN hgN hsN; have bs : Below w4.heap.size w4 w5 := ((Below.refl _ w4).alloc (Nat.le_refl _) _).trans (hbN.to_below (by simp) (fun k hk q => by omega)); have Rw5 := Lib.hid hgN; clear hbN hgN hsN)
  have HCw5 : Hid (Below w2.heap.size w2 w5) := Lib.hid (HCw4.out.trans (bs.mono HCw4.out.size))
  have Sw5 : Hid (Below w4.heap.size w4 w5) := Lib.hid bs
  clear bs
  go_wp2_with (first
    | (refine wpList_load_row_g rfl 34 _ rfl w.heap.size rfl 34 vh (0, 0) _ ((HCw5.out.block _ (Array.getElem?_eq_some_iff.1 R82.out).1).trans R82.out) Tryd.underlying34 rfl Ivh.out ?_)
    | (refine wpList_load_row_g rfl 34 _ rfl w4.heap.size rfl 34 vr (0, 0) _ Rw5.out Tryd.underlying34 rfl Ivr.out ?_))
  refine (HCO.out w5 (HE2.out.step HCw5.out) (HP2.out.below HCw5.out)).mono ?_
  rintro ev w6 ⟨rfl, bb⟩
  have HCw6 : Hid (Below w2.heap.size w2 w6) := Lib.hid (HCw5.out.trans (bb.mono HCw5.out.size))
  have Sw6 : Hid (Below w5.heap.size w5 w6) := Lib.hid bb
  clear bb
  go_wp2_with fail
  refine (HRO.out w6 (HE2.out.step HCw6.out) (HL2.out.below HCw6.out)).mono ?_
  rintro ev w7 ⟨rfl, bb⟩
  have HCw7 : Hid (Below w2.heap.size w2 w7) := Lib.hid (HCw6.out.trans (bb.mono HCw6.out.size))
  have Sw7 : Hid (Below w6.heap.size w6 w7) := Lib.hid bb
  clear bb
  go_upto_region 11 with (refine wpList_store_row_any rfl 34 _ _ rfl w7.heap.size vo rfl rfl 34 _ (heap_at _ _ _ rfl) Ivo.out (by rw [Zvo.out]; rfl) Ovo.out ?_; intro w8 hbN hgN hsN; have bs : Below w7.heap.size w7 w8 := ((Below.refl _ w7).alloc (Nat.le_refl _) _).trans (hbN.to_below (by simp) (fun k hk q => by omega)); have Rw8 := Lib.hid hgN; clear hbN hgN hsN)
  have HCw8 : Hid (Below w2.heap.size w2 w8) := Lib.hid (HCw7.out.trans (bs.mono HCw7.out.size))
  have Sw8 : Hid (Below w7.heap.size w7 w8) := Lib.hid bs
  clear bs
  have HE8 := Lib.hid (HE2.out.step HCw8.out)
  have RO8 := Rw8
  have RH8 : Hid (w8.heap[w.heap.size]? = some (.cells vh 34 (0, 0))) := Lib.hid ((HCw8.out.block _ (Array.getElem?_eq_some_iff.1 R82.out).1).trans R82.out)
  have RR8 : Hid (w8.heap[w4.heap.size]? = some (.cells vr 34 (0, 0))) := Lib.hid (((Sw6.out.trans ((Sw7.out.trans (Sw8.out.mono Sw7.out.size)).mono Sw6.out.size)).block _ (Array.getElem?_eq_some_iff.1 Rw5.out).1).trans Rw5.out)
  have hq := HQ.out
  refine wp_region_held_drew (S := Gr w8) (by kernel_rfl) (Gr.refl w8).drew (fun hHeld => ?_)
  refine wpAnyH_take (i := 0) (v := ?tv73) rfl (by kernel_rfl) (by kernel_rfl) (by kernel_rfl) (fun _ _ _ h => h) (Or.inl ⟨by rfl, ?ty73⟩) (by assumption) ?tr73
  case ty73 => (intro w hSw; (try dsimp only at hSw); go_simp; (try with_reducible rfl))
  try simp only [Act.put, List.getElem_toArray, List.getElem_cons_zero, List.setIfInBounds_toArray, List.set_cons_zero, List.set_cons_succ]
  refine wpAnyH_take (i := 1) (v := ?tv74) rfl (by kernel_rfl) (by kernel_rfl) (by kernel_rfl) (fun _ _ _ h => h) (Or.inl ⟨by rfl, ?ty74⟩) (by assumption) ?tr74
  case ty74 => (intro w hSw; (try dsimp only at hSw); go_simp; (try with_reducible rfl))
  try simp only [Act.put, List.getElem_toArray, List.getElem_cons_zero, List.getElem_cons_succ, List.setIfInBounds_toArray, List.set_cons_zero, List.set_cons_succ]
  refine wpAnyH_take (i := 2) (v := ?tv75) rfl (by kernel_rfl) (by kernel_rfl) (by kernel_rfl) (fun _ _ _ h => h) (Or.inl ⟨by rfl, ?ty75⟩) (by assumption) ?tr75
  case ty75 => (intro w hSw; (try dsimp only at hSw); go_simp; (try with_reducible rfl))
  try simp only [Act.put, List.getElem_toArray, List.getElem_cons_zero, List.getElem_cons_succ, List.setIfInBounds_toArray, List.set_cons_zero, List.set_cons_succ]
  refine wpAnyH_take (i := 3) (v := ?tv76) rfl (by kernel_rfl) (by kernel_rfl) (by kernel_rfl) (fun _ _ _ h => h) (Or.inl ⟨by rfl, ?ty76⟩) (by assumption) ?tr76
  case ty76 => (intro w hSw; (try dsimp only at hSw); go_simp; (try with_reducible rfl))
  try simp only [Act.put, List.getElem_toArray, List.getElem_cons_zero, List.getElem_cons_succ, List.setIfInBounds_toArray, List.set_cons_zero, List.set_cons_succ]
  refine wpAnyH_take (i := 4) (v := ?tv77) rfl (by kernel_rfl) (by kernel_rfl) (by kernel_rfl) (fun _ _ _ h => h) (Or.inl ⟨by rfl, ?ty77⟩) (by assumption) ?tr77
  case ty77 => (intro w hSw; (try dsimp only at hSw); go_simp; (try with_reducible rfl))
  try simp only [Act.put, List.getElem_toArray, List.getElem_cons_zero, List.getElem_cons_succ, List.setIfInBounds_toArray, List.set_cons_zero, List.set_cons_succ]
  refine wpAnyH_take (i := 5) (v := ?tv78) rfl (by kernel_rfl) (by kernel_rfl) (by kernel_rfl) (fun _ _ _ h => h) (Or.inl ⟨by rfl, ?ty78⟩) (by assumption) ?tr78
  case ty78 => (intro w hSw; (try dsimp only at hSw); go_simp; (try with_reducible rfl))
  try simp only [Act.put, List.getElem_toArray, List.getElem_cons_zero, List.getElem_cons_succ, List.setIfInBounds_toArray, List.set_cons_zero, List.set_cons_succ]
  refine wpAnyH_take (i := 6) (v := _) rfl (by kernel_rfl) (by kernel_rfl) (by kernel_rfl) (fun _ _ _ h => h) (yieldsIf_load_row (by rfl) 34 _ (by rfl) w7.heap.size (by rfl) 34 vo (0, 0) _ (fun w h => (Below.block h _ (Array.getElem?_eq_some_iff.1 RO8.out).1).trans RO8.out) Tryd.underlying34 rfl Ivo.out) (by assumption) ?_
  try simp only [Act.put, List.getElem_toArray, List.getElem_cons_zero, List.getElem_cons_succ, List.setIfInBounds_toArray, List.set_cons_zero, List.set_cons_succ]
  refine wpAnyH_take (i := 7) (v := _) rfl (by kernel_rfl) (by kernel_rfl) (by kernel_rfl) (fun _ _ _ h => h) (yieldsIf_load_row (by rfl) 34 _ (by rfl) w.heap.size (by rfl) 34 vh (0, 0) _ (fun w h => (Below.block h _ (Array.getElem?_eq_some_iff.1 RH8.out).1).trans RH8.out) Tryd.underlying34 rfl Ivh.out) (by assumption) ?_
  try simp only [Act.put, List.getElem_toArray, List.getElem_cons_zero, List.getElem_cons_succ, List.setIfInBounds_toArray, List.set_cons_zero, List.set_cons_succ]
  refine wpAnyH_take (i := 8) (v := ?tv81) rfl (by kernel_rfl) (by kernel_rfl) (by kernel_rfl) (fun _ _ _ h => h) (Or.inl ⟨by rfl, ?ty81⟩) (by assumption) ?tr81
  case ty81 => (intro w hSw; (try dsimp only at hSw); go_simp; (try with_reducible rfl))
  try simp only [Act.put, List.getElem_toArray, List.getElem_cons_zero, List.getElem_cons_succ, List.setIfInBounds_toArray, List.set_cons_zero, List.set_cons_succ]
  refine wpAnyH_take (i := 9) (v := _) rfl (by kernel_rfl) (by kernel_rfl) (by kernel_rfl) (fun _ _ _ h => h) (yieldsIf_load_row (by rfl) 34 _ (by rfl) w4.heap.size (by rfl) 34 vr (0, 0) _ (fun w h => (Below.block h _ (Array.getElem?_eq_some_iff.1 RR8.out).1).trans RR8.out) Tryd.underlying34 rfl Ivr.out) (by assumption) ?_
  try simp only [Act.put, List.getElem_toArray, List.getElem_cons_zero, List.getElem_cons_succ, List.setIfInBounds_toArray, List.set_cons_zero, List.set_cons_succ]
  refine wpAnyH_ready (rs := [10]) (by kernel_rfl) (by simp) ?_
  refine AllReadyH.cons (i := 10) rfl (fun K2 hK2 => ?_) AllReadyH.nil
  go_simp
  go_at_call 17
  refine (HR.out w8.drew (HE8.out.step (show Gr w8 w8.drew from (by repeat (first | exact Gr.refl _ | (refine Gr.step ?_ (by assumption)) | (refine Gr.alloc ?_ _) | (refine Gr.drew ?_)))))).mono ?_
  rintro ev w107 ⟨rfl, b107⟩
  try go_wp2_with fail
  refine hK2.out _ _ (show Gr w8 _ from (by repeat (first | exact Gr.refl _ | (refine Gr.step ?_ (by assumption)) | (refine Gr.alloc ?_ _) | (refine Gr.drew ?_)))) (fun hHeld2 => ?_)
  clear hK2 K2
  try simp only [Act.put, List.getElem_toArray, List.getElem_cons_zero, List.getElem_cons_succ, List.setIfInBounds_toArray, List.set_cons_zero, List.set_cons_succ]
  refine wpAnyH_take (i := 11) (v := ?tv83) rfl (by kernel_rfl) (by kernel_rfl) (by kernel_rfl) (fun _ _ _ h => h) (Or.inl ⟨by rfl, ?ty83⟩) (by assumption) ?tr83
  case ty83 => (intro w hSw; (try dsimp only at hSw); go_simp; (try with_reducible rfl))
  try simp only [Act.put, List.getElem_toArray, List.getElem_cons_zero, List.getElem_cons_succ, List.setIfInBounds_toArray, List.set_cons_zero, List.set_cons_succ]
  refine wpAnyH_take (i := 12) (v := ?tv84) rfl (by kernel_rfl) (by kernel_rfl) (by kernel_rfl) (fun _ _ _ h => h) (Or.inl ⟨by rfl, ?ty84⟩) (by assumption) ?tr84
  case ty84 => (intro w hSw; (try dsimp only at hSw); go_simp; (try with_reducible rfl))
  try simp only [Act.put, List.getElem_toArray, List.getElem_cons_zero, List.getElem_cons_succ, List.setIfInBounds_toArray, List.set_cons_zero, List.set_cons_succ]
  refine wpAnyH_ready (rs := [13]) (by kernel_rfl) (by simp) ?_
  refine AllReadyH.cons (i := 13) rfl (fun K2 hK2 => ?_) AllReadyH.nil
  go_simp
  go_at_call 15
  refine (HLV.out w107 (HE8.out.step (show Gr w8 w107 from (by repeat (first | exact Gr.refl _ | (refine Gr.step ?_ (by assumption)) | (refine Gr.alloc ?_ _) | (refine Gr.drew ?_)))))).mono ?_
  rintro ev w108 ⟨rfl, b108⟩
  try go_wp2_with fail
  refine hK2.out _ _ (show Gr w8 _ from (by repeat (first | exact Gr.refl _ | (refine Gr.step ?_ (by assumption)) | (refine Gr.alloc ?_ _) | (refine Gr.drew ?_)))) (fun hHeld2 => ?_)
  clear hK2 K2
  try simp only [Act.put, List.getElem_toArray, List.getElem_cons_zero, List.getElem_cons_succ, List.setIfInBounds_toArray, List.set_cons_zero, List.set_cons_succ]
  refine wpAnyH_take (i := 14) (v := ?tv85) rfl (by kernel_rfl) (by kernel_rfl) (by kernel_rfl) (fun _ _ _ h => h) (Or.inl ⟨by rfl, ?ty85⟩) (by assumption) ?tr85
  case ty85 => (intro w hSw; (try dsimp only at hSw); go_simp; (try with_reducible rfl))
  try simp only [Act.put, List.getElem_toArray, List.getElem_cons_zero, List.getElem_cons_succ, List.setIfInBounds_toArray, List.set_cons_zero, List.set_cons_succ]
  refine wpAnyH_take (i := 15) (v := ?tv86) rfl (by kernel_rfl) (by kernel_rfl) (by kernel_rfl) (fun _ _ _ h => h) (Or.inl ⟨by rfl, ?ty86⟩) (by assumption) ?tr86
  case ty86 => (intro w hSw; (try dsimp only at hSw); go_simp; (try with_reducible rfl))
  try simp only [Act.put, List.getElem_toArray, List.getElem_cons_zero, List.getElem_cons_succ, List.setIfInBounds_toArray, List.set_cons_zero, List.set_cons_succ]
  refine wpAnyH_done (by kernel_rfl) ?_ _
  have b9 : Below w8.heap.size w8 w108 := (show Gr w8 w108 from (by repeat (first | exact Gr.refl _ | (refine Gr.step ?_ (by assumption)) | (refine Gr.alloc ?_ _) | (refine Gr.drew ?_))))
  go_wp2
  go_ret
  exact ⟨rfl, HB2.out.trans ((HCw8.out.trans (b9.mono HCw8.out.size)).mono HB2.out.size)⟩

set_option maxRecDepth 100000 in
set_option maxHeartbeats 16000000 in
theorem fcl_part (a : Nat → Addr) (B : Nat) (D : List ByteArray) (b0 : List UInt8) (P : List (List UInt8)) (A : Option Addr) (n c X Z : Nat) (G : Option Addr) (m g : Nat) (w : World) (hE : Env B a w) (h : SIn w A n c D) (hX : X < 18446744073709551616) (hZ : Z < 18446744073709551616) (hb : b0.length = 32) (hp : HIn w G m g P) (hm : m ≤ 9000000000000000000) (hg : n + bulk D + m ≤ 1048576) (hz : Z ≤ (keptL D).length) (hvq : okC X Z (keptL D) b0 P) (hsm : b0 ≠ treeB (keptL D) 0 X) :
    Calls Tryd.prog 4 #[.slice A n c, .int .u64 X, .int .u64 Z, hv b0, .slice G m g] w fun ev w' => ev = .returned (.bool true) ∧ Below w.heap.size w w' := by
  have HE := Lib.hid hE
  have HD := Lib.hid h
  have HP := Lib.hid hp
  have hn9 : n ≤ 140737488355328 := h.2.2.2.2.1
  have HG := Lib.hid hg
  obtain ⟨vh, evh, Hvh, Zvh, Ivh, Ovh⟩ := row_of b0 hb
  have EVH := Lib.hid evh
  have HBL := Lib.hid hb
  rw [evh]
  have R8 : Hid ((w.alloc (.cells vh 34)).heap[w.heap.size]? = some (.cells vh 34 (0, 0))) := Lib.hid (heap_at _ _ _ rfl)
  have HB0 : Hid (Below w.heap.size w (w.alloc (.cells vh 34))) := Lib.hid ((Below.refl _ _).alloc (Nat.le_refl _) _)
  have HS0 : Hid (w.heap.size < (w.alloc (.cells vh 34)).heap.size) := Lib.hid (by simp)
  obtain ⟨wv, hwv⟩ : ∃ x, w.alloc (.cells vh 34) = x := ⟨_, rfl⟩
  rw [hwv] at R8 HB0 HS0
  have HWV := Lib.hid hwv
  clear hwv
  clear hE h hg hp evh hb
  go_enter Tryd.func4, Tryd.ntmps4
  go_upto_region 1 with fail
  rw [HWV.out]
  go_wp2_with fail
  refine (texts_any D A n c wv (HD.out.below HB0.out)).mono ?_
  rintro ev w' ⟨t, rfl, ht9, ht, rfl⟩
  have HT0 := Lib.hid ht
  clear ht
  go_wp2_with fail
  refine (beyond3 n t m wv (by omega) ht9 hm).mono ?_
  rintro ev w1 ⟨rfl, hw1⟩
  have b1 : Below w.heap.size w w1 := by rw [hw1]; exact HB0.out.alloc HB0.out.size _
  have R81 : Hid (w1.heap[w.heap.size]? = some (.cells vh 34 (0, 0))) := Lib.hid (by rw [hw1]; exact (((Below.refl _ wv).alloc (Nat.le_refl _) _).block _ HS0.out).trans R8.out)
  clear hw1
  have hgd : decide (1048576 < n + t + m) = false := by have := HT0.out; have := HG.out; simp; omega
  have hn10 : n ≤ 1048576 := by have := HG.out; omega
  have hdm : m ≤ 1048576 := by have := HG.out; omega
  rw [hgd]
  go_wp2_with fail
  refine (logs20_any a B D A n c w1 (HE.out.step b1) (HD.out.below b1) hn10).mono ?_
  rintro ev w2 ⟨b, v, b2, rfl, hL2, bb⟩
  have HL2 := Lib.hid hL2
  have HB2 : Hid (Below w.heap.size w w2) := Lib.hid (b1.trans (bb.mono b1.size))
  have R82 : Hid (w2.heap[w.heap.size]? = some (.cells vh 34 (0, 0))) := Lib.hid ((bb.block _ (Array.getElem?_eq_some_iff.1 R81.out).1).trans R81.out)
  have HE2 := Lib.hid (HE.out.step HB2.out)
  have HP2 := Lib.hid (HP.out.below HB2.out)
  have HCw2 : Hid (Below w2.heap.size w2 w2) := Lib.hid (Below.refl _ _)
  have hN9 : (keptL D).length ≤ 1048576 := hL2.1.1
  clear hL2 b1 bb
  obtain ⟨L, hL⟩ : ∃ L, keptL D = L := ⟨_, rfl⟩
  rw [hL] at HL2 hvq hN9 hz hsm
  obtain ⟨base, hbase⟩ : ∃ z, w1.heap.size = z := ⟨_, rfl⟩
  rw [hbase] at HL2
  have HLV := Lib.hid (lives20_any a B)
  obtain ⟨vr, evr, Hvr, Zvr, Ivr, Ovr⟩ := row_of (treeB L 0 Z) (treeB_len _ _ _)
  have HROOT : Hid (∀ w, Env B a w → LogAt base b v L w → Calls Tryd.prog 11 #[.pointer (some ⟨b, 0, none⟩), .int .u64 Z] w fun ev w' => ev = .returned (.tuple #[.agg vr, .nilIface]) ∧ Below w.heap.size w w') := Lib.hid (fun w e q => by
    have := lroot_ok a B base b v L Z w e q (by omega) (by omega)
    rw [evr] at this; exact this)
  have hlt : X < Z := by
    rcases Nat.lt_or_ge X Z with q | q
    · exact q
    · have e : X = Z := by have := hvq.2.1; omega
      exact absurd (by rw [(hvq.2.2.1 e).2, e]) hsm
  obtain ⟨⟨r, hr1, hr2, hr3, hr4, hr5⟩, hbr⟩ := claim_cons HL2.out.1 hvq.1 hlt hz (hvq.2.2.2 hlt) hsm HP.out.1 HBL.out
  have HFB : Hid (Calls Tryd.prog 18 #[.pointer (some ⟨b, 0, none⟩), .int .u64 X, .int .u64 Z, .agg vh, .slice G m g] w2 fun ev w' => (∃ s t, ev = .returned (.tuple #[.string s, .string t, .bool true]) ∧ s ≠ t ∧ shaB (bOf s) = shaB (bOf t) ∧ s.size ≤ 100000000000 ∧ t.size ≤ 100000000000) ∧ Below w2.heap.size w2 w') := Lib.hid (by
    have := fcon_part a B base b v L X Z b0 P G m g w2 HE2.out HL2.out hz hX HBL.out HP2.out (by omega) hvq hsm hbr
    rw [hr1, EVH.out] at this
    refine this.mono (fun ev w' q => ⟨?_, q.2⟩)
    obtain ⟨s, t, q1, q2, q3⟩ := q.1
    exact ⟨s, t, q1, fun q => hr2 (by rw [← q2, ← q3, q]), by rw [q2, q3, hr3], by have := bOf_length s; rw [q2] at this; omega, by have := bOf_length t; rw [q3] at this; omega⟩)
  clear hr1 hr2 hr3 hr4 hr5 hbr hlt
  have HCO : Hid (∀ w, Env B a w → HIn w G m g P → Calls Tryd.prog 19 #[.int .u64 X, .int .u64 Z, .agg vh, .agg vr, .slice G m g] w fun ev w' => ev = .returned .nilIface ∧ Below w.heap.size w w') := Lib.hid (fun w e q => by
    have := vcons_good a B X Z L b0 P G m g w e (by omega) HBL.out q (by omega) hvq
    rw [EVH.out, evr] at this; exact this)
  have h0 : 0 < X := hvq.1
  have h1 : X ≤ Z := hvq.2.1
  obtain ⟨vo, evo, Hvo, Zvo, Ivo, Ovo⟩ := row_of (treeB L 0 X) (treeB_len _ _ _)
  have HRO : Hid (∀ w, Env B a w → LogAt base b v L w → Calls Tryd.prog 11 #[.pointer (some ⟨b, 0, none⟩), .int .u64 X] w fun ev w' => ev = .returned (.tuple #[.agg vo, .nilIface]) ∧ Below w.heap.size w w') := Lib.hid (fun w e q => by
    have := lroot_ok a B base b v L X w e q (by omega) (by omega)
    rw [evo] at this; exact this)
  have HQ : Hid (∀ w, (Op.equalIn 10000 34 (.agg vo) (.agg vh)).run Tryd.prog w = .ok false w) := Lib.hid (fun w => by rw [eq_hash _ _ (treeB_len L 0 X) HBL.out vo vh evo EVH.out w]; simp; exact fun e => hsm (Eq.symm e))
  have HZL : Hid (0 < Z ∧ Z ≤ L.length) := Lib.hid ⟨by omega, hz⟩
  have HRIGHT : Hid (∀ (s t : ByteArray) (w : World), s ≠ t → shaB (bOf s) = shaB (bOf t) → s.size ≤ 100000000000 → t.size ≤ 100000000000 → Env B a w → Calls Tryd.prog 17 #[.string s, .string t, .bool true, .bool false, .agg vr] w fun ev w' => ev = .returned (.bool true) ∧ Below w.heap.size w w') := Lib.hid (fun s t w h1 h2 h3 h4 e => by
    have := right_diff a B s t (treeB L 0 Z) w e (treeB_len _ _ _) h3 h4 h1 h2
    rw [evr] at this; exact this)
  clear hL hbase evr hvq hz hsm evo h0 h1 hN9 hX hdm
  go_wp2_with (refine wpList_load_row_g rfl 34 _ rfl w.heap.size rfl 34 vh (0, 0) _ R82.out Tryd.underlying34 rfl Ivh.out ?_)
  refine HFB.out.mono ?_
  rintro ev w3 ⟨⟨s0, t0, rfl, q1, q2, q3, q4⟩, bb⟩
  have HR := Lib.hid (fun w e => HRIGHT.out s0 t0 w q1 q2 q3 q4 e)
  clear q1 q2 q3 q4
  have HCw3 : Hid (Below w2.heap.size w2 w3) := Lib.hid (HCw2.out.trans (bb.mono HCw2.out.size))
  have Sw3 : Hid (Below w2.heap.size w2 w3) := Lib.hid bb
  clear bb
  go_wp2_with fail
  refine (HROOT.out w3 (HE2.out.step HCw3.out) (HL2.out.below HCw3.out)).mono ?_
  rintro ev w4 ⟨rfl, bb⟩
  have HCw4 : Hid (Below w2.heap.size w2 w4) := Lib.hid (HCw3.out.trans (bb.mono HCw3.out.size))
  have Sw4 : Hid (Below w3.heap.size w3 w4) := Lib.hid bb
  clear bb
  go_upto_region 8 with (refine wpList_store_row_any rfl 34 _ _ rfl w4.heap.size vr rfl rfl 34 _ (heap_at _ _ _ rfl) Ivr.out (by rw [Zvr.out]; rfl) Ovr.out ?_; intro w5 hbN hgN hsN; have bs : Below w4.heap.size w4 w5 := ((Below.refl _ w4).alloc (Nat.le_refl _) _).trans (hbN.to_below (by simp) (fun k hk q => by omega)); have Rw5 := Lib.hid hgN; clear hbN hgN hsN)
  have HCw5 : Hid (Below w2.heap.size w2 w5) := Lib.hid (HCw4.out.trans (bs.mono HCw4.out.size))
  have Sw5 : Hid (Below w4.heap.size w4 w5) := Lib.hid bs
  clear bs
  go_wp2_with (first
    | (refine wpList_load_row_g rfl 34 _ rfl w.heap.size rfl 34 vh (0, 0) _ ((HCw5.out.block _ (Array.getElem?_eq_some_iff.1 R82.out).1).trans R82.out) Tryd.underlying34 rfl Ivh.out ?_)
    | (refine wpList_load_row_g rfl 34 _ rfl w4.heap.size rfl 34 vr (0, 0) _ Rw5.out Tryd.underlying34 rfl Ivr.out ?_))
  refine (HCO.out w5 (HE2.out.step HCw5.out) (HP2.out.below HCw5.out)).mono ?_
  rintro ev w6 ⟨rfl, bb⟩
  have HCw6 : Hid (Below w2.heap.size w2 w6) := Lib.hid (HCw5.out.trans (bb.mono HCw5.out.size))
  have Sw6 : Hid (Below w5.heap.size w5 w6) := Lib.hid bb
  clear bb
  go_wp2_with fail
  refine (HRO.out w6 (HE2.out.step HCw6.out) (HL2.out.below HCw6.out)).mono ?_
  rintro ev w7 ⟨rfl, bb⟩
  have HCw7 : Hid (Below w2.heap.size w2 w7) := Lib.hid (HCw6.out.trans (bb.mono HCw6.out.size))
  have Sw7 : Hid (Below w6.heap.size w6 w7) := Lib.hid bb
  clear bb
  go_upto_region 11 with (refine wpList_store_row_any rfl 34 _ _ rfl w7.heap.size vo rfl rfl 34 _ (heap_at _ _ _ rfl) Ivo.out (by rw [Zvo.out]; rfl) Ovo.out ?_; intro w8 hbN hgN hsN; have bs : Below w7.heap.size w7 w8 := ((Below.refl _ w7).alloc (Nat.le_refl _) _).trans (hbN.to_below (by simp) (fun k hk q => by omega)); have Rw8 := Lib.hid hgN; clear hbN hgN hsN)
  have HCw8 : Hid (Below w2.heap.size w2 w8) := Lib.hid (HCw7.out.trans (bs.mono HCw7.out.size))
  have Sw8 : Hid (Below w7.heap.size w7 w8) := Lib.hid bs
  clear bs
  have HE8 := Lib.hid (HE2.out.step HCw8.out)
  have RO8 := Rw8
  have RH8 : Hid (w8.heap[w.heap.size]? = some (.cells vh 34 (0, 0))) := Lib.hid ((HCw8.out.block _ (Array.getElem?_eq_some_iff.1 R82.out).1).trans R82.out)
  have RR8 : Hid (w8.heap[w4.heap.size]? = some (.cells vr 34 (0, 0))) := Lib.hid (((Sw6.out.trans ((Sw7.out.trans (Sw8.out.mono Sw7.out.size)).mono Sw6.out.size)).block _ (Array.getElem?_eq_some_iff.1 Rw5.out).1).trans Rw5.out)
  have hq := HQ.out
  refine wp_region_held_drew (S := Gr w8) (by kernel_rfl) (Gr.refl w8).drew (fun hHeld => ?_)
  refine wpAnyH_take (i := 0) (v := ?tv87) rfl (by kernel_rfl) (by kernel_rfl) (by kernel_rfl) (fun _ _ _ h => h) (Or.inl ⟨by rfl, ?ty87⟩) (by assumption) ?tr87
  case ty87 => (intro w hSw; (try dsimp only at hSw); go_simp; (try with_reducible rfl))
  try simp only [Act.put, List.getElem_toArray, List.getElem_cons_zero, List.setIfInBounds_toArray, List.set_cons_zero, List.set_cons_succ]
  refine wpAnyH_take (i := 1) (v := ?tv88) rfl (by kernel_rfl) (by kernel_rfl) (by kernel_rfl) (fun _ _ _ h => h) (Or.inl ⟨by rfl, ?ty88⟩) (by assumption) ?tr88
  case ty88 => (intro w hSw; (try dsimp only at hSw); go_simp; (try with_reducible rfl))
  try simp only [Act.put, List.getElem_toArray, List.getElem_cons_zero, List.getElem_cons_succ, List.setIfInBounds_toArray, List.set_cons_zero, List.set_cons_succ]
  refine wpAnyH_take (i := 2) (v := ?tv89) rfl (by kernel_rfl) (by kernel_rfl) (by kernel_rfl) (fun _ _ _ h => h) (Or.inl ⟨by rfl, ?ty89⟩) (by assumption) ?tr89
  case ty89 => (intro w hSw; (try dsimp only at hSw); go_simp; (try with_reducible rfl))
  try simp only [Act.put, List.getElem_toArray, List.getElem_cons_zero, List.getElem_cons_succ, List.setIfInBounds_toArray, List.set_cons_zero, List.set_cons_succ]
  refine wpAnyH_take (i := 3) (v := ?tv90) rfl (by kernel_rfl) (by kernel_rfl) (by kernel_rfl) (fun _ _ _ h => h) (Or.inl ⟨by rfl, ?ty90⟩) (by assumption) ?tr90
  case ty90 => (intro w hSw; (try dsimp only at hSw); go_simp; (try with_reducible rfl))
  try simp only [Act.put, List.getElem_toArray, List.getElem_cons_zero, List.getElem_cons_succ, List.setIfInBounds_toArray, List.set_cons_zero, List.set_cons_succ]
  refine wpAnyH_take (i := 4) (v := ?tv91) rfl (by kernel_rfl) (by kernel_rfl) (by kernel_rfl) (fun _ _ _ h => h) (Or.inl ⟨by rfl, ?ty91⟩) (by assumption) ?tr91
  case ty91 => (intro w hSw; (try dsimp only at hSw); go_simp; (try with_reducible rfl))
  try simp only [Act.put, List.getElem_toArray, List.getElem_cons_zero, List.getElem_cons_succ, List.setIfInBounds_toArray, List.set_cons_zero, List.set_cons_succ]
  refine wpAnyH_take (i := 5) (v := ?tv92) rfl (by kernel_rfl) (by kernel_rfl) (by kernel_rfl) (fun _ _ _ h => h) (Or.inl ⟨by rfl, ?ty92⟩) (by assumption) ?tr92
  case ty92 => (intro w hSw; (try dsimp only at hSw); go_simp; (try with_reducible rfl))
  try simp only [Act.put, List.getElem_toArray, List.getElem_cons_zero, List.getElem_cons_succ, List.setIfInBounds_toArray, List.set_cons_zero, List.set_cons_succ]
  refine wpAnyH_take (i := 6) (v := _) rfl (by kernel_rfl) (by kernel_rfl) (by kernel_rfl) (fun _ _ _ h => h) (yieldsIf_load_row (by rfl) 34 _ (by rfl) w7.heap.size (by rfl) 34 vo (0, 0) _ (fun w h => (Below.block h _ (Array.getElem?_eq_some_iff.1 RO8.out).1).trans RO8.out) Tryd.underlying34 rfl Ivo.out) (by assumption) ?_
  try simp only [Act.put, List.getElem_toArray, List.getElem_cons_zero, List.getElem_cons_succ, List.setIfInBounds_toArray, List.set_cons_zero, List.set_cons_succ]
  refine wpAnyH_take (i := 7) (v := _) rfl (by kernel_rfl) (by kernel_rfl) (by kernel_rfl) (fun _ _ _ h => h) (yieldsIf_load_row (by rfl) 34 _ (by rfl) w.heap.size (by rfl) 34 vh (0, 0) _ (fun w h => (Below.block h _ (Array.getElem?_eq_some_iff.1 RH8.out).1).trans RH8.out) Tryd.underlying34 rfl Ivh.out) (by assumption) ?_
  try simp only [Act.put, List.getElem_toArray, List.getElem_cons_zero, List.getElem_cons_succ, List.setIfInBounds_toArray, List.set_cons_zero, List.set_cons_succ]
  refine wpAnyH_take (i := 8) (v := ?tv95) rfl (by kernel_rfl) (by kernel_rfl) (by kernel_rfl) (fun _ _ _ h => h) (Or.inl ⟨by rfl, ?ty95⟩) (by assumption) ?tr95
  case ty95 => (intro w hSw; (try dsimp only at hSw); go_simp; (try with_reducible rfl))
  try simp only [Act.put, List.getElem_toArray, List.getElem_cons_zero, List.getElem_cons_succ, List.setIfInBounds_toArray, List.set_cons_zero, List.set_cons_succ]
  refine wpAnyH_take (i := 9) (v := _) rfl (by kernel_rfl) (by kernel_rfl) (by kernel_rfl) (fun _ _ _ h => h) (yieldsIf_load_row (by rfl) 34 _ (by rfl) w4.heap.size (by rfl) 34 vr (0, 0) _ (fun w h => (Below.block h _ (Array.getElem?_eq_some_iff.1 RR8.out).1).trans RR8.out) Tryd.underlying34 rfl Ivr.out) (by assumption) ?_
  try simp only [Act.put, List.getElem_toArray, List.getElem_cons_zero, List.getElem_cons_succ, List.setIfInBounds_toArray, List.set_cons_zero, List.set_cons_succ]
  refine wpAnyH_ready (rs := [10]) (by kernel_rfl) (by simp) ?_
  refine AllReadyH.cons (i := 10) rfl (fun K2 hK2 => ?_) AllReadyH.nil
  go_simp
  go_at_call 17
  refine (HR.out w8.drew (HE8.out.step (show Gr w8 w8.drew from (by repeat (first | exact Gr.refl _ | (refine Gr.step ?_ (by assumption)) | (refine Gr.alloc ?_ _) | (refine Gr.drew ?_)))))).mono ?_
  rintro ev w109 ⟨rfl, b109⟩
  try go_wp2_with fail
  refine hK2.out _ _ (show Gr w8 _ from (by repeat (first | exact Gr.refl _ | (refine Gr.step ?_ (by assumption)) | (refine Gr.alloc ?_ _) | (refine Gr.drew ?_)))) (fun hHeld2 => ?_)
  clear hK2 K2
  try simp only [Act.put, List.getElem_toArray, List.getElem_cons_zero, List.getElem_cons_succ, List.setIfInBounds_toArray, List.set_cons_zero, List.set_cons_succ]
  refine wpAnyH_take (i := 11) (v := ?tv97) rfl (by kernel_rfl) (by kernel_rfl) (by kernel_rfl) (fun _ _ _ h => h) (Or.inl ⟨by rfl, ?ty97⟩) (by assumption) ?tr97
  case ty97 => (intro w hSw; (try dsimp only at hSw); go_simp; (try with_reducible rfl))
  try simp only [Act.put, List.getElem_toArray, List.getElem_cons_zero, List.getElem_cons_succ, List.setIfInBounds_toArray, List.set_cons_zero, List.set_cons_succ]
  refine wpAnyH_take (i := 12) (v := ?tv98) rfl (by kernel_rfl) (by kernel_rfl) (by kernel_rfl) (fun _ _ _ h => h) (Or.inl ⟨by rfl, ?ty98⟩) (by assumption) ?tr98
  case ty98 => (intro w hSw; (try dsimp only at hSw); go_simp; (try with_reducible rfl))
  try simp only [Act.put, List.getElem_toArray, List.getElem_cons_zero, List.getElem_cons_succ, List.setIfInBounds_toArray, List.set_cons_zero, List.set_cons_succ]
  refine wpAnyH_ready (rs := [13]) (by kernel_rfl) (by simp) ?_
  refine AllReadyH.cons (i := 13) rfl (fun K2 hK2 => ?_) AllReadyH.nil
  go_simp
  go_at_call 15
  refine (HLV.out w109 (HE8.out.step (show Gr w8 w109 from (by repeat (first | exact Gr.refl _ | (refine Gr.step ?_ (by assumption)) | (refine Gr.alloc ?_ _) | (refine Gr.drew ?_)))))).mono ?_
  rintro ev w110 ⟨rfl, b110⟩
  try go_wp2_with fail
  refine hK2.out _ _ (show Gr w8 _ from (by repeat (first | exact Gr.refl _ | (refine Gr.step ?_ (by assumption)) | (refine Gr.alloc ?_ _) | (refine Gr.drew ?_)))) (fun hHeld2 => ?_)
  clear hK2 K2
  try simp only [Act.put, List.getElem_toArray, List.getElem_cons_zero, List.getElem_cons_succ, List.setIfInBounds_toArray, List.set_cons_zero, List.set_cons_succ]
  refine wpAnyH_take (i := 14) (v := ?tv99) rfl (by kernel_rfl) (by kernel_rfl) (by kernel_rfl) (fun _ _ _ h => h) (Or.inl ⟨by rfl, ?ty99⟩) (by assumption) ?tr99
  case ty99 => (intro w hSw; (try dsimp only at hSw); go_simp; (try with_reducible rfl))
  try simp only [Act.put, List.getElem_toArray, List.getElem_cons_zero, List.getElem_cons_succ, List.setIfInBounds_toArray, List.set_cons_zero, List.set_cons_succ]
  refine wpAnyH_take (i := 15) (v := ?tv100) rfl (by kernel_rfl) (by kernel_rfl) (by kernel_rfl) (fun _ _ _ h => h) (Or.inl ⟨by rfl, ?ty100⟩) (by assumption) ?tr100
  case ty100 => (intro w hSw; (try dsimp only at hSw); go_simp; (try with_reducible rfl))
  try simp only [Act.put, List.getElem_toArray, List.getElem_cons_zero, List.getElem_cons_succ, List.setIfInBounds_toArray, List.set_cons_zero, List.set_cons_succ]
  refine wpAnyH_done (by kernel_rfl) ?_ _
  have b9 : Below w8.heap.size w8 w110 := (show Gr w8 w110 from (by repeat (first | exact Gr.refl _ | (refine Gr.step ?_ (by assumption)) | (refine Gr.alloc ?_ _) | (refine Gr.drew ?_))))
  go_wp2
  go_ret
  exact ⟨rfl, HB2.out.trans ((HCw8.out.trans (b9.mono HCw8.out.size)).mono HB2.out.size)⟩

end Go.Proofs.YtaekabhcgdjhfaaDoor

