/-
  The plain law, part 7: what a block tells, the program's and the reference's answers.
-/
import Derived.Test.YtfjfollomgjlbaaGreatSp6
import Derived.Test.YtfjfollomgjlbaaGreatPf
set_option linter.unusedVariables false
set_option linter.unusedSimpArgs false
namespace Go.Proofs.YtfjfollomgjlbaaGreat.PQ
open Go.RowKit Go.Proofs.YtfjfollomgjlbaaGreatW.PrintWords Go.Proofs.YtfjfollomgjlbaaGreatW.PrintLast Go.Proofs.YtfjfollomgjlbaaGreatW.PrintMore
open Go.Proofs.YtfjfollomgjlbaaGreat.Am (putL getL crcF crcL crcB crcN tabN)
open Go.Proofs.YtfjfollomgjlbaaGreat.Run (putF_ok getF_ok putL_length rd_at bits64 ofInt64 getL_snoc)
theorem numN_at (A R : List Nat) (x n : Nat) (hx : x < 256 ^ n) : numN (A ++ (putL x n ++ R)) A.length n = x := by
  unfold numN
  rw [List.drop_left, List.take_left' (putL_length x n), getL_putL n x hx]
theorem seal_seq {M : List Nat} (hM : M.length = 4) {e : Nat} (he : e < 18446744073709551616) (fs : List Nat) : numN (sealN (M ++ putL e 8 ++ fours fs)) 4 8 = e := by
  have : sealN (M ++ putL e 8 ++ fours fs) = M ++ (putL e 8 ++ (fours fs ++ List.replicate (124 - (M ++ putL e 8 ++ fours fs).length) 0 ++ putL (crcF 0 (pad (M ++ putL e 8 ++ fours fs))) 4)) := by
    unfold sealN
    conv => lhs; lhs; unfold pad
    simp only [List.append_assoc]
  rw [this, ← hM]
  exact numN_at M _ e 8 (by simpa using he)
theorem seal_four {M : List Nat} (hM : M.length = 4) (e : Nat) {fs : List Nat} {i : Nat} (hi : i < fs.length) (hx : fs[i] < 4294967296) : numN (sealN (M ++ putL e 8 ++ fours fs)) (12 + 4 * i) 4 = fs[i] := by
  have h2 : fours fs = fours (fs.take i) ++ (putL fs[i] 4 ++ fours (fs.drop (i + 1))) := by
    conv => lhs; rw [← List.take_append_drop i fs, fours_app, List.drop_eq_getElem_cons hi, fours_cons]
  have : sealN (M ++ putL e 8 ++ fours fs) = (M ++ putL e 8 ++ fours (fs.take i)) ++ (putL fs[i] 4 ++ (fours (fs.drop (i + 1)) ++ List.replicate (124 - (M ++ putL e 8 ++ fours fs).length) 0 ++ putL (crcF 0 (pad (M ++ putL e 8 ++ fours fs))) 4)) := by
    unfold sealN
    conv => lhs; lhs; unfold pad
    conv => lhs; lhs; lhs; rw [h2]
    simp only [List.append_assoc]
  have hl : (M ++ putL e 8 ++ fours (fs.take i)).length = 12 + 4 * i := by
    simp only [List.length_append, putL_length, fours_len, List.length_take]
    omega
  rw [this, ← hl]
  exact numN_at _ _ _ 4 (by simpa using hx)
def Is (c : List Int) (b : List Nat) : Prop := (strOfNums c).toList = (strOfNums (O b)).toList
instance (c : List Int) (b : List Nat) : Decidable (Is c b) := inferInstanceAs (Decidable (_ = _))
theorem is_block {M : List Nat} (hMl : M.all (fun x => decide (x < 256)) = true) {e : Nat} {fs : List Nat} {b : List Nat} (hb : ∀ x ∈ b, x < 256) (h : Is (block M e fs) b) : sealN (M ++ putL e 8 ++ fours fs) = b :=
  str_inj (seal_lt (block_lt hMl e fs)) hb h
theorem is_seq {M : List Nat} (hM : M.length = 4) (hMl : M.all (fun x => decide (x < 256)) = true) {e : Nat} (he : e < 18446744073709551616) {fs : List Nat} {b : List Nat} (hb : ∀ x ∈ b, x < 256) (h : Is (block M e fs) b) : numN b 4 8 = e := by
  rw [← is_block hMl hb h]
  exact seal_seq hM he fs
theorem is_len {M : List Nat} (hM : M.length = 4) (hMl : M.all (fun x => decide (x < 256)) = true) {e : Nat} {fs : List Nat} (hf : fs.length ≤ 28) {b : List Nat} (hb : ∀ x ∈ b, x < 256) (h : Is (block M e fs) b) : b.length = 128 := by
  rw [← is_block hMl hb h]
  exact seal_len (block_len hM e hf)
noncomputable def readHeadS (b : List Nat) (s a : Int) : Int × Int × Int := if (headS s a).2 = 0 then (if Is (headS s a).1 b then (s, a, 0) else (0, 0, 8)) else (0, 0, 8)
noncomputable def readMarkS (b : List Nat) (s a : Int) : Int × Int × Int := if (markS s a).2 = 0 then (if Is (markS s a).1 b then (s, a, 0) else (0, 0, 8)) else (0, 0, 8)
noncomputable def readDescS (b : List Nat) (s : Int) (l : List Int) (a : Int) : Int × List Int × Int × Int := if (descS s l a).2 = 0 then (if Is (descS s l a).1 b then (s, l, a, 0) else (0, [], 0, 8)) else (0, [], 0, 8)
theorem head_ok {s a : Int} (h : (headS s a).2 = 0) : 1 ≤ s ∧ s ≤ 4611686018427387904 ∧ 0 ≤ a ∧ a ≤ 65535 ∧ headS s a = (block MH s.toNat [a.toNat], 0) := by
  unfold headS at h ⊢
  by_cases c : a.toNat = a.toNat ∧ (s < 1 ∨ s > 4611686018427387904 ∨ a < 0 ∨ a > 65535)
  · rw [if_pos c.2] at h; exact absurd h (by decide)
  · have c2 : ¬ (s < 1 ∨ s > 4611686018427387904 ∨ a < 0 ∨ a > 65535) := fun x => c ⟨rfl, x⟩
    exact ⟨by omega, by omega, by omega, by omega, by rw [if_neg c2]⟩
theorem mark_ok {s a : Int} (h : (markS s a).2 = 0) : 1 ≤ s ∧ s ≤ 4611686018427387904 ∧ markS s a = (block MK s.toNat [a.toNat], 0) := by
  unfold markS at h ⊢
  by_cases c : s < 1 ∨ s > 4611686018427387904
  · rw [if_pos c] at h; exact absurd h (by decide)
  · exact ⟨by omega, by omega, by rw [if_neg c]⟩
theorem desc_ok {s : Int} {l : List Int} {a : Int} (h : (descS s l a).2 = 0) : 1 ≤ s ∧ s ≤ 4611686018427387904 ∧ 1 ≤ l.length ∧ l.length ≤ 24 ∧ a < 2 ^ l.length ∧ l.all okT = true ∧ descS s l a = (block MD s.toNat (l.length :: a.toNat :: l.map Int.toNat), 0) := by
  unfold descS at h ⊢
  by_cases c : s < 1 ∨ s > 4611686018427387904 ∨ (l.length : Int) < 1 ∨ (l.length : Int) > 24 ∨ a ≥ 2 ^ l.length
  · rw [if_pos c] at h; exact absurd h (by decide)
  · rw [if_neg c] at h ⊢
    have c5 : ¬ a ≥ 2 ^ l.length := fun x => c (.inr (.inr (.inr (.inr x))))
    by_cases c2 : l.all okT = true
    · exact ⟨by omega, by omega, by omega, by omega, by omega, c2, by rw [if_pos c2]⟩
    · rw [if_neg c2] at h; exact absurd h (by decide)
theorem readHead_len {b : List Nat} (hb : ∀ x ∈ b, x < 256) (h : b.length ≠ 128) (s a : Int) : readHeadS b s a = (0, 0, 8) := by
  unfold readHeadS
  by_cases c : (headS s a).2 = 0
  · rw [if_pos c]
    obtain ⟨_, _, _, _, e⟩ := head_ok c
    rw [e, if_neg (fun x => h (is_len (M := MH) rfl rfl (by simp) hb x))]
  · rw [if_neg c]
theorem readMark_len {b : List Nat} (hb : ∀ x ∈ b, x < 256) (h : b.length ≠ 128) (s a : Int) : readMarkS b s a = (0, 0, 8) := by
  unfold readMarkS
  by_cases c : (markS s a).2 = 0
  · rw [if_pos c]
    obtain ⟨_, _, e⟩ := mark_ok c
    rw [e, if_neg (fun x => h (is_len (M := MK) rfl rfl (by simp) hb x))]
  · rw [if_neg c]
theorem readDesc_len {b : List Nat} (hb : ∀ x ∈ b, x < 256) (h : b.length ≠ 128) (s : Int) (l : List Int) (a : Int) : readDescS b s l a = (0, [], 0, 8) := by
  unfold readDescS
  by_cases c : (descS s l a).2 = 0
  · rw [if_pos c]
    obtain ⟨_, _, _, hl, _, _, e⟩ := desc_ok c
    rw [e, if_neg (fun x => h (is_len (M := MD) rfl rfl (by simp; omega) hb x))]
  · rw [if_neg c]
noncomputable def seqR (x : Nat) : Int := if x > 4611686018427387904 then -1 else (x : Int)
theorem readHead_seq {b : List Nat} (hb : ∀ x ∈ b, x < 256) (a : Int) : readHeadS b ((numN b 4 8 % 9223372036854775808 : Nat) : Int) a = readHeadS b (seqR (numN b 4 8)) a := by
  by_cases h : numN b 4 8 > 4611686018427387904
  · have e : readHeadS b (seqR (numN b 4 8)) a = (0, 0, 8) := by
      unfold seqR; rw [if_pos h]
      unfold readHeadS
      rw [if_neg (by unfold headS; rw [if_pos (.inl (by decide))]; decide)]
    rw [e]
    unfold readHeadS
    by_cases c : (headS ((numN b 4 8 % 9223372036854775808 : Nat) : Int) a).2 = 0
    · rw [if_pos c]
      obtain ⟨h1, h2, _, _, e⟩ := head_ok c
      rw [e, if_neg]
      intro x
      have := is_seq (M := MH) rfl rfl (by omega) hb x
      omega
    · rw [if_neg c]
  · unfold seqR
    rw [if_neg h, Nat.mod_eq_of_lt (by omega)]
theorem readMark_seq {b : List Nat} (hb : ∀ x ∈ b, x < 256) (a : Int) : readMarkS b ((numN b 4 8 % 9223372036854775808 : Nat) : Int) a = readMarkS b (seqR (numN b 4 8)) a := by
  by_cases h : numN b 4 8 > 4611686018427387904
  · have e : readMarkS b (seqR (numN b 4 8)) a = (0, 0, 8) := by
      unfold seqR; rw [if_pos h]
      unfold readMarkS
      rw [if_neg (by unfold markS; rw [if_pos (.inl (by decide))]; decide)]
    rw [e]
    unfold readMarkS
    by_cases c : (markS ((numN b 4 8 % 9223372036854775808 : Nat) : Int) a).2 = 0
    · rw [if_pos c]
      obtain ⟨h1, h2, e⟩ := mark_ok c
      rw [e, if_neg]
      intro x
      have := is_seq (M := MK) rfl rfl (by omega) hb x
      omega
    · rw [if_neg c]
  · unfold seqR
    rw [if_neg h, Nat.mod_eq_of_lt (by omega)]
theorem readDesc_seq {b : List Nat} (hb : ∀ x ∈ b, x < 256) (l : List Int) (a : Int) : readDescS b ((numN b 4 8 % 9223372036854775808 : Nat) : Int) l a = readDescS b (seqR (numN b 4 8)) l a := by
  by_cases h : numN b 4 8 > 4611686018427387904
  · have e : readDescS b (seqR (numN b 4 8)) l a = (0, [], 0, 8) := by
      unfold seqR; rw [if_pos h]
      unfold readDescS
      rw [if_neg (by unfold descS; rw [if_pos (.inl (by decide))]; decide)]
    rw [e]
    unfold readDescS
    by_cases c : (descS ((numN b 4 8 % 9223372036854775808 : Nat) : Int) l a).2 = 0
    · rw [if_pos c]
      obtain ⟨h1, h2, _, _, _, _, e⟩ := desc_ok c
      rw [e, if_neg]
      intro x
      have := is_seq (M := MD) rfl rfl (by omega) hb x
      omega
    · rw [if_neg c]
  · unfold seqR
    rw [if_neg h, Nat.mod_eq_of_lt (by omega)]
theorem num_any (l : List Nat) (hb : ∀ x ∈ l, x < 256) (hl : l.length ≤ 1000000000000000) (k n : Nat) (h1 : 1 ≤ n) (h8 : n ≤ 8) (hk : k ≤ 1000) : ∃ v : Int, 0 ≤ v ∧ Ev (fun f => journal_number.f f (O l) (k : Int) (n : Int)) v := by
  by_cases h : k + n ≤ l.length
  · exact ⟨_, by omega, ev_num l hb hl k n h1 h8 h⟩
  · exact ⟨0, by decide, ev_num_out l hl k n h1 h8 h hk⟩
theorem rnum_any (l : List Nat) (hb : ∀ x ∈ l, x < 256) (hl : l.length ≤ 1000000000000000) (k n : Nat) (h1 : 1 ≤ n) (h8 : n ≤ 8) (hk : k ≤ 1000) : ∃ v : Int, Ev (fun f => ashlarref11_number.f f (O l) (k : Int) (n : Int)) v := by
  by_cases h : k + n ≤ l.length
  · exact ⟨_, ev_rnum l hb hl k n h1 h8 h⟩
  · exact ⟨_, ev_rnum_out l hl k n h1 h8 h hk⟩
theorem four_num (l : List Nat) (hb : ∀ x ∈ l, x < 256) (hl : l.length ≤ 1000000000000000) (k : Nat) (h : k + 4 ≤ l.length) : Ev (fun f => journal_number.f f (O l) (k : Int) 4) ((numN l k 4 : Nat) : Int) := by
  have := ev_num l hb hl k 4 (by decide) (by decide) h
  have h2 := numN_lt l hb k 4
  have e : (256 : Nat) ^ 4 = 4294967296 := by decide
  rw [Nat.mod_eq_of_lt (by omega)] at this
  exact this
theorem four_rnum (l : List Nat) (hb : ∀ x ∈ l, x < 256) (hl : l.length ≤ 1000000000000000) (k : Nat) (h : k + 4 ≤ l.length) : Ev (fun f => ashlarref11_number.f f (O l) (k : Int) 4) ((numN l k 4 : Nat) : Int) := by
  have := ev_rnum l hb hl k 4 (by decide) (by decide) h
  have h2 := numN_lt l hb k 4
  have e : (256 : Nat) ^ 4 = 4294967296 := by decide
  rw [if_neg (by omega)] at this
  exact this
theorem ev_two {α : Type} {c d : Prop} [Decidable c] [Decidable d] (x y : α) : Ev (fun _ : Nat => if c then (if d then some x else some y) else some y) (if c then (if d then x else y) else y) := by
  by_cases h : c
  · by_cases g : d
    · simp only [if_pos h, if_pos g]; exact Ev.now _
    · simp only [if_pos h, if_neg g]; exact Ev.now _
  · simp only [if_neg h]; exact Ev.now _
theorem ev_readHead (b : List Nat) {s a : Int} (h1 : Ev (fun f => journal_number.f f (O b) 4 8) s) (h2 : Ev (fun f => journal_number.f f (O b) 12 4) a) : Ev (fun k => journal_ReadHead.f k (O b)) (readHeadS b s a) := by
  unfold journal_ReadHead.f readHeadS
  refine Ev.bind h1 (Ev.bind h2 (Ev.bind (ev_head s a) (ev_two _ _)))
theorem ev_rreadHead (b : List Nat) {s a : Int} (h1 : Ev (fun f => ashlarref11_number.f f (O b) 4 8) s) (h2 : Ev (fun f => ashlarref11_number.f f (O b) 12 4) a) : Ev (fun k => ashlarref11_ReadHead.f k (O b)) (readHeadS b s a) := by
  unfold ashlarref11_ReadHead.f readHeadS
  refine Ev.bind h1 (Ev.bind h2 (Ev.bind (ev_rhead s a) (ev_two _ _)))
theorem ev_readMark (b : List Nat) {s a : Int} (h1 : Ev (fun f => journal_number.f f (O b) 4 8) s) (h2 : Ev (fun f => journal_number.f f (O b) 12 4) a) : Ev (fun k => journal_ReadMark.f k (O b)) (readMarkS b s (a % 4294967296)) := by
  unfold journal_ReadMark.f readMarkS
  refine Ev.bind h1 (Ev.bind h2 (Ev.bind (ev_mark s (a % 4294967296) (by omega) (by omega)) (ev_two _ _)))
theorem ev_rreadMark (b : List Nat) {s a : Int} (h1 : Ev (fun f => ashlarref11_number.f f (O b) 4 8) s) (h2 : Ev (fun f => ashlarref11_number.f f (O b) 12 4) a) : Ev (fun k => ashlarref11_ReadMark.f k (O b)) (if a < 0 then (0, 0, 8) else readMarkS b s (a % 4294967296)) := by
  unfold ashlarref11_ReadMark.f readMarkS
  refine Ev.bind h1 (Ev.bind h2 ?_)
  by_cases h0 : a < 0
  · rw [if_pos h0]; exact Ev.pos h0 (Ev.val rfl)
  rw [if_neg h0]
  refine Ev.neg h0 (Ev.bind (ev_rmark s (a % 4294967296) (by omega) (by omega)) (ev_two _ _))
def tgs (tg : Nat → Int) (n : Nat) : List Int := (List.range n).map tg
theorem tgs_succ (tg : Nat → Int) (n : Nat) : tgs tg (n + 1) = tgs tg n ++ [tg n] := by unfold tgs; rw [List.range_succ, List.map_append]; rfl
theorem tgs_len (tg : Nat → Int) (n : Nat) : (tgs tg n).length = n := by simp [tgs]
theorem readDesc_end (b : List Nat) (s : Int) (l : List Int) (a : Int) (h0 : 0 ≤ a) (h1 : a < 4294967296) :
    Ev (fun k => (journal_Desc.f k s l a).bind fun bt => if bt.2 = 0 then (if (strOfNums bt.1).toList = (strOfNums (O b)).toList then (some (s, l, a, 0)) else (some (0, ([] : List Int), 0, 8))) else (some (0, ([] : List Int), 0, 8))) (readDescS b s l a) := by
  unfold readDescS
  exact Ev.bind (ev_desc s l a h0 h1) (ev_two _ _)
theorem rreadDesc_end (b : List Nat) (s : Int) (l : List Int) (a : Int) (h0 : 0 ≤ a) (h1 : a < 4294967296) :
    Ev (fun k => (ashlarref11_Desc.f k s l a).bind fun bt => if bt.2 = 0 then (if (strOfNums bt.1).toList = (strOfNums (O b)).toList then (some (s, l, a, 0)) else (some (0, ([] : List Int), 0, 8))) else (some (0, ([] : List Int), 0, 8))) (readDescS b s l a) := by
  unfold readDescS
  refine Ev.bind (ev_rdesc s l a h0 h1) (ev_two _ _)
theorem readDesc_l0 (b : List Nat) (s a : Int) (h0 : 0 ≤ a) (h1 : a < 4294967296) (tg : Nat → Int) (n : Nat) (hn : n ≤ 24) (ht : ∀ i, i < n → Ev (fun f => journal_number.f f (O b) ((20 + 4 * i : Nat) : Int) 4) (tg i)) :
    ∀ (m i : Nat), i + m = n → Ev (fun k => journal_ReadDesc.l0 k (O b) s (tgs tg i) a (n : Int) (i : Int)) (readDescS b s (tgs tg n) a)
  | 0, i, hi => by
    obtain rfl : i = n := by omega
    refine Ev.head ?_
    simp only [journal_ReadDesc.l0]
    exact Ev.neg (by omega) (readDesc_end b s _ a h0 h1)
  | m + 1, i, hi => by
    refine Ev.head ?_
    simp only [journal_ReadDesc.l0]
    rw [w64 (4 * (i : Int)) (by omega) (by omega), w64 (20 + 4 * (i : Int)) (by omega) (by omega), w64 ((i : Int) + 1) (by omega) (by omega), show (20 : Int) + 4 * (i : Int) = ((20 + 4 * i : Nat) : Int) by omega]
    refine Ev.pos (by omega) (Ev.bind (ht i (by omega)) (Ev.pos (by rw [tgs_len]; omega) ?_))
    rw [← tgs_succ]
    exact readDesc_l0 b s a h0 h1 tg n hn ht m (i + 1) (by omega)
theorem ev_readDesc (b : List Nat) {s a c : Int} (h1 : Ev (fun f => journal_number.f f (O b) 4 8) s) (h2 : Ev (fun f => journal_number.f f (O b) 16 4) a) (h3 : Ev (fun f => journal_number.f f (O b) 12 4) c) (h0 : 0 ≤ c) (tg : Nat → Int)
    (ht : ∀ i, i < min c.toNat 24 → Ev (fun f => journal_number.f f (O b) ((20 + 4 * i : Nat) : Int) 4) (tg i)) : Ev (fun k => journal_ReadDesc.f k (O b)) (readDescS b s (tgs tg (min c.toNat 24)) (a % 4294967296)) := by
  unfold journal_ReadDesc.f
  refine Ev.bind h1 (Ev.bind h2 (Ev.bind h3 ?_))
  have e : mn c 24 = ((min c.toNat 24 : Nat) : Int) := by unfold mn; split <;> omega
  rw [e]
  exact readDesc_l0 b s (a % 4294967296) (by omega) (by omega) tg _ (by omega) ht (min c.toNat 24) 0 (by omega)
theorem rreadDesc_j1 (b : List Nat) (s a : Int) (l : List Int) : Ev (fun k => ashlarref11_ReadDesc.j1 k (O b) s a l) (if a < 0 then (0, [], 0, 8) else readDescS b s l (a % 4294967296)) := by
  refine Ev.head ?_
  simp only [ashlarref11_ReadDesc.j1]
  by_cases h0 : a < 0
  · rw [if_pos h0]; exact Ev.pos h0 (Ev.val rfl)
  rw [if_neg h0]
  exact Ev.neg h0 (rreadDesc_end b s l _ (by omega) (by omega))
theorem rreadDesc_l0 (b : List Nat) (s a c : Int) (tg : Nat → Int) (ht : ∀ i, i < min c.toNat 24 → Ev (fun f => ashlarref11_number.f f (O b) ((20 + 4 * i : Nat) : Int) 4) (tg i)) :
    ∀ (m i : Nat), i + m = min c.toNat 24 → Ev (fun k => ashlarref11_ReadDesc.l0 k (O b) s c a (tgs tg i) (i : Int)) (if a < 0 then (0, [], 0, 8) else readDescS b s (tgs tg (min c.toNat 24)) (a % 4294967296))
  | 0, i, hi => by
    obtain rfl : i = min c.toNat 24 := by omega
    refine Ev.head ?_
    simp only [ashlarref11_ReadDesc.l0]
    by_cases h : ((min c.toNat 24 : Nat) : Int) < c
    · exact Ev.pos h (Ev.neg (by omega) (rreadDesc_j1 b s a _))
    · exact Ev.neg h (rreadDesc_j1 b s a _)
  | m + 1, i, hi => by
    refine Ev.head ?_
    simp only [ashlarref11_ReadDesc.l0]
    rw [w64 (4 * (i : Int)) (by omega) (by omega), w64 (20 + 4 * (i : Int)) (by omega) (by omega), w64 ((i : Int) + 1) (by omega) (by omega), show (20 : Int) + 4 * (i : Int) = ((20 + 4 * i : Nat) : Int) by omega]
    refine Ev.pos (by omega) (Ev.pos (by omega) (Ev.bind (ht i (by omega)) (Ev.pos (by rw [tgs_len]; omega) ?_)))
    rw [← tgs_succ]
    exact rreadDesc_l0 b s a c tg ht m (i + 1) (by omega)
theorem ev_rreadDesc (b : List Nat) {s a c : Int} (h1 : Ev (fun f => ashlarref11_number.f f (O b) 4 8) s) (h2 : Ev (fun f => ashlarref11_number.f f (O b) 16 4) a) (h3 : Ev (fun f => ashlarref11_number.f f (O b) 12 4) c) (tg : Nat → Int)
    (ht : ∀ i, i < min c.toNat 24 → Ev (fun f => ashlarref11_number.f f (O b) ((20 + 4 * i : Nat) : Int) 4) (tg i)) : Ev (fun k => ashlarref11_ReadDesc.f k (O b)) (if a < 0 then (0, [], 0, 8) else readDescS b s (tgs tg (min c.toNat 24)) (a % 4294967296)) := by
  unfold ashlarref11_ReadDesc.f
  exact Ev.bind h1 (Ev.bind h3 (Ev.bind h2 (rreadDesc_l0 b s a c tg ht (min c.toNat 24) 0 (by omega))))
theorem octs_of {l : List Int} (h : ∀ x ∈ l, (Lit.int .u8 x).wf = true) : ∃ b : List Nat, l = O b ∧ (∀ x ∈ b, x < 256) ∧ b.length = l.length := by
  refine ⟨l.map Int.toNat, ?_, ?_, by simp⟩
  · induction l with
    | nil => rfl
    | cons x l ih =>
      have h1 := h x List.mem_cons_self
      simp only [Lit.wf, Bool.and_eq_true, decide_eq_true_eq] at h1
      have h2 : IntKind.u8.min = 0 := by decide
      simp only [O, List.map_cons, List.cons.injEq]
      exact ⟨by show x = ((x.toNat : Nat) : Int); omega, ih (fun y hy => h y (List.mem_cons_of_mem _ hy))⟩
  · intro x hx
    obtain ⟨y, hy, rfl⟩ := List.mem_map.1 hx
    have h1 := h y hy
    simp only [Lit.wf, Bool.and_eq_true, decide_eq_true_eq] at h1
    have h2 : IntKind.u8.min = 0 := by decide
    have h3 : IntKind.u8.max = 255 := by decide
    omega
theorem same_l0 (l : List Int) (hl : l.length ≤ 1000000) : ∀ (m i : Nat), i + m = l.length → Ev (fun k => ashlarlaw03_sameInts.l0 k l l (i : Int)) true
  | 0, i, hi => by
    refine Ev.head ?_
    simp only [ashlarlaw03_sameInts.l0]
    exact Ev.neg (by omega) (Ev.val rfl)
  | m + 1, i, hi => by
    refine Ev.head ?_
    simp only [ashlarlaw03_sameInts.l0]
    rw [w64 ((i : Int) + 1) (by omega) (by omega)]
    exact Ev.pos (by omega) (Ev.pos (by omega) (Ev.pos (by omega) (Ev.pos trivial (same_l0 l hl m (i + 1) (by omega)))))
theorem ev_unlike (l : List Int) (hl : l.length ≤ 1000000) : Ev (fun k => ashlarlaw03_Unlike.f k l l) 0 := by
  unfold ashlarlaw03_Unlike.f
  refine Ev.bind (a := true) ?_ (Ev.pos rfl (Ev.val rfl))
  unfold ashlarlaw03_sameInts.f
  exact Ev.pos rfl (same_l0 l hl l.length 0 (by omega))
end Go.Proofs.YtfjfollomgjlbaaGreat.PQ
