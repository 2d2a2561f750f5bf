/-
  The plain law, part 4: heads, descs and marks, the program's and the reference's, are the same.
-/
import Derived.Test.YtfjfollomgjlbaaGreatSp3
import Derived.Test.YtfjfollomgjlbaaGreatPb
set_option linter.unusedVariables false
set_option linter.unusedSimpArgs false
namespace Go.Proofs.YtfjfollomgjlbaaGreat.PQ
open Go.RowKit Go.Proofs.YtfjfollomgjlbaaGreatW.PrintWords Go.Proofs.YtfjfollomgjlbaaGreatW.PrintLast Go.Proofs.YtfjfollomgjlbaaGreatW.PrintMore
open Go.Proofs.YtfjfollomgjlbaaGreat.Am (putL getL crcF crcL crcB crcN tabN)
open Go.Proofs.YtfjfollomgjlbaaGreat.Run (putF_ok getF_ok putL_length rd_at)
def MH : List Nat := [74, 72, 68, 82]
def MD : List Nat := [74, 68, 83, 67]
def MK : List Nat := [74, 67, 77, 84]
noncomputable def block (M : List Nat) (e : Nat) (fs : List Nat) : List Int := O (sealN (M ++ putL e 8 ++ fours fs))
noncomputable def headS (a0 a1 : Int) : List Int × Int := if a0 < 1 ∨ a0 > 4611686018427387904 ∨ a1 < 0 ∨ a1 > 65535 then ([], 1) else (block MH a0.toNat [a1.toNat], 0)
noncomputable def markS (a0 a1 : Int) : List Int × Int := if a0 < 1 ∨ a0 > 4611686018427387904 then ([], 1) else (block MK a0.toNat [a1.toNat], 0)
def okT (t : Int) : Bool := decide (0 ≤ t) && decide (t ≤ 65535)
noncomputable def descS (a0 : Int) (l : List Int) (a2 : Int) : List Int × Int :=
  if a0 < 1 ∨ a0 > 4611686018427387904 ∨ (l.length : Int) < 1 ∨ (l.length : Int) > 24 ∨ a2 ≥ 2 ^ l.length then ([], 1)
  else if l.all okT = true then (block MD a0.toNat (l.length :: a2.toNat :: l.map Int.toNat), 0) else ([], 1)
theorem M_lt {M : List Nat} (h : M.all (fun x => decide (x < 256)) = true) : ∀ x ∈ M, x < 256 := fun x hx => by simpa using List.all_eq_true.1 h x hx
theorem ev_block (a : ByteArray) (M : List Nat) (hM : bytesOf a = O M) (hs : a.size = 4) (hl4 : M.length = 4) (hMl : M.all (fun x => decide (x < 256)) = true) (e : Nat) (he : e < 18446744073709551616) (fs : List Nat) (hf : ∀ x ∈ fs, x < 4294967296) (hl : fs.length ≤ 28) :
    Ev (fun k => journal_sealed.f k a (e : Int) (O fs)) (block M e fs) := ev_sealed a M hM hs hl4 (M_lt hMl) e he fs hf hl
theorem ev_rblock (b : List Nat) (hb : b.length ≤ 124) (h : ∀ x ∈ b, x < 256) : Ev (fun k => ashlarref11_seal.f k (O b)) (O (sealN b)) := ev_rseal (124 - b.length) b (by omega) h
theorem nat_of {a : Int} (h : 0 ≤ a) : ∃ n : Nat, a = (n : Int) := ⟨a.toNat, by omega⟩
theorem ev_head (a0 a1 : Int) : Ev (fun k => journal_Head.f k a0 a1) (headS a0 a1) := by
  unfold journal_Head.f headS
  by_cases h0 : a0 < 1
  · exact Ev.pos h0 (Ev.val (by rw [if_pos (.inl h0)]))
  refine Ev.neg h0 ?_
  by_cases h1 : a0 > 4611686018427387904
  · exact Ev.pos h1 (Ev.val (by rw [if_pos (.inr (.inl h1))]))
  refine Ev.neg h1 ?_
  by_cases h2 : a1 < 0
  · exact Ev.pos h2 (Ev.val (by rw [if_pos (.inr (.inr (.inl h2)))]))
  refine Ev.neg h2 ?_
  by_cases h3 : a1 ≥ 65536
  · exact Ev.pos h3 (Ev.val (by rw [if_pos (.inr (.inr (.inr (by omega))))]))
  refine Ev.neg h3 ?_
  rw [if_neg (by omega)]
  obtain ⟨e, rfl⟩ := nat_of (by omega : 0 ≤ a0)
  obtain ⟨x, rfl⟩ := nat_of (by omega : 0 ≤ a1)
  rw [u64w _ (by omega) (by omega), u64w _ (by omega) (by omega)]
  exact Ev.bind (ev_block _ MH (by decide) rfl rfl rfl e (by omega) [x] (by intro y hy; simp at hy; omega) (by simp)) (Ev.val rfl)
theorem ev_mark (a0 a1 : Int) (h0' : 0 ≤ a1) (h1' : a1 < 4294967296) : Ev (fun k => journal_Mark.f k a0 a1) (markS a0 a1) := by
  unfold journal_Mark.f markS
  by_cases h0 : a0 < 1
  · exact Ev.pos h0 (Ev.val (by rw [if_pos (.inl h0)]))
  refine Ev.neg h0 ?_
  by_cases h1 : a0 > 4611686018427387904
  · exact Ev.pos h1 (Ev.val (by rw [if_pos (.inr h1)]))
  refine Ev.neg h1 ?_
  rw [if_neg (by omega)]
  obtain ⟨e, rfl⟩ := nat_of (by omega : 0 ≤ a0)
  obtain ⟨x, rfl⟩ := nat_of h0'
  rw [u64w _ (by omega) (by omega), u64w _ (by omega) (by omega)]
  exact Ev.bind (ev_block _ MK (by decide) rfl rfl rfl e (by omega) [x] (by intro y hy; simp at hy; omega) (by simp)) (Ev.val rfl)
theorem block_len {M : List Nat} (hM : M.length = 4) (e : Nat) {fs : List Nat} (h : fs.length ≤ 28) : (M ++ putL e 8 ++ fours fs).length ≤ 124 := by
  simp only [List.length_append, putL_length, fours_len]; omega
theorem block_lt {M : List Nat} (hM : M.all (fun x => decide (x < 256)) = true) (e : Nat) (fs : List Nat) : ∀ x ∈ M ++ putL e 8 ++ fours fs, x < 256 := app_lt (app_lt (M_lt hM) (putL_lt _ _)) (fours_lt _)
theorem ev_rhead (a0 a1 : Int) : Ev (fun k => ashlarref11_Head.f k a0 a1) (headS a0 a1) := by
  unfold ashlarref11_Head.f
  have bad : (a0 < 1 ∨ a0 > 4611686018427387904 ∨ a1 < 0 ∨ a1 > 65535) → Ev (fun k => ashlarref11_Head.j0 k a0 a1 true) (headS a0 a1) := fun h => by
    refine Ev.head ?_
    simp only [ashlarref11_Head.j0]
    refine Ev.pos trivial (Ev.val ?_)
    unfold headS; rw [if_pos h]
  by_cases h0 : a0 < 1
  · exact Ev.pos h0 (bad (.inl h0))
  refine Ev.neg h0 ?_
  by_cases h1 : a0 > 4611686018427387904
  · exact Ev.pos h1 (bad (.inr (.inl h1)))
  refine Ev.neg h1 ?_
  by_cases h2 : a1 < 0
  · exact Ev.pos h2 (bad (.inr (.inr (.inl h2))))
  refine Ev.neg h2 ?_
  by_cases h3 : a1 > 65535
  · rw [decide_eq_true h3]; exact bad (.inr (.inr (.inr h3)))
  rw [decide_eq_false h3]
  refine Ev.head ?_
  simp only [ashlarref11_Head.j0]
  refine Ev.neg (by decide) ?_
  unfold headS
  rw [if_neg (by omega)]
  obtain ⟨e, rfl⟩ := nat_of (by omega : 0 ≤ a0)
  obtain ⟨x, rfl⟩ := nat_of (by omega : 0 ≤ a1)
  refine Ev.bind (ev_rput MH 8 e (by decide) (by decide) (by simp; omega) (by omega) (by decide)) ?_
  refine Ev.bind (ev_rput _ 4 x (by decide) (by decide) (by simp; omega) (by omega) (by simp [putL_length, MH])) ?_
  exact Ev.bind (ev_rblock _ (by simp [putL_length, MH]) (app_lt (app_lt (M_lt (M := MH) rfl) (putL_lt _ _)) (putL_lt _ _))) (Ev.val (by unfold block; rw [fours_cons]; simp [fours]))
theorem ev_rmark (a0 a1 : Int) (h0' : 0 ≤ a1) (h1' : a1 < 4294967296) : Ev (fun k => ashlarref11_Mark.f k a0 a1) (markS a0 a1) := by
  unfold ashlarref11_Mark.f
  have bad : (a0 < 1 ∨ a0 > 4611686018427387904) → Ev (fun k => ashlarref11_Mark.j0 k a0 a1 true) (markS a0 a1) := fun h => by
    refine Ev.head ?_
    simp only [ashlarref11_Mark.j0]
    refine Ev.pos trivial (Ev.val ?_)
    unfold markS; rw [if_pos h]
  by_cases h0 : a0 < 1
  · exact Ev.pos h0 (bad (.inl h0))
  refine Ev.neg h0 ?_
  by_cases h1 : a0 > 4611686018427387904
  · rw [decide_eq_true h1]; exact bad (.inr h1)
  rw [decide_eq_false h1]
  refine Ev.head ?_
  simp only [ashlarref11_Mark.j0]
  refine Ev.neg (by decide) ?_
  unfold markS
  rw [if_neg (by omega)]
  obtain ⟨e, rfl⟩ := nat_of (by omega : 0 ≤ a0)
  obtain ⟨x, rfl⟩ := nat_of h0'
  rw [w64 _ (by omega) (by omega)]
  refine Ev.bind (ev_rput MK 8 e (by decide) (by decide) (by simp; omega) (by omega) (by decide)) ?_
  refine Ev.bind (ev_rput _ 4 x (by decide) (by decide) (by simp; omega) (by omega) (by simp [putL_length, MK])) ?_
  exact Ev.bind (ev_rblock _ (by simp [putL_length, MK]) (app_lt (app_lt (M_lt (M := MK) rfl) (putL_lt _ _)) (putL_lt _ _))) (Ev.val (by unfold block; rw [fours_cons]; simp [fours]))
theorem rd_get (l : List Int) (i : Nat) (h : i < l.length) : rd l (i : Int) = l[i] := by
  unfold rd
  have : (i : Int).toNat = i := by omega
  rw [this, List.getD_eq_getElem?_getD, List.getElem?_eq_getElem h]
  rfl
theorem desc_l0 (e : Nat) (he : e < 18446744073709551616) (l : List Int) (hll : l.length ≤ 24) : ∀ (m i : Nat) (acc : List Nat), i + m = l.length → acc.length = i + 2 → (∀ x ∈ acc, x < 4294967296) →
    Ev (fun k => journal_Desc.l0 k (e : Int) (O acc) l (l.length : Int) (i : Int)) (if (l.drop i).all okT = true then (block MD e (acc ++ (l.drop i).map Int.toNat), 0) else ([], 1))
  | 0, i, acc, hi, ha, hx => by
    refine Ev.head ?_
    simp only [journal_Desc.l0]
    refine Ev.neg (by omega) ?_
    rw [List.drop_eq_nil_of_le (by omega), u64w _ (by omega) (by omega)]
    rw [if_pos (show ([] : List Int).all okT = true from rfl), List.map_nil, List.append_nil]
    exact Ev.bind (ev_block _ MD (by decide) rfl rfl rfl e he acc hx (by omega)) (Ev.val rfl)
  | m + 1, i, acc, hi, ha, hx => by
    have hlt : i < l.length := by omega
    refine Ev.head ?_
    simp only [journal_Desc.l0]
    refine Ev.pos (by omega) (Ev.pos (by omega) (Ev.pos (by omega) ?_))
    rw [rd_get l i hlt, List.drop_eq_getElem_cons hlt, List.all_cons, List.map_cons]
    by_cases h0 : l[i] < 0
    · refine Ev.pos h0 (Ev.val ?_)
      have : okT l[i] = false := by unfold okT; rw [decide_eq_false (by omega)]; rfl
      rw [this, Bool.false_and, if_neg (by decide)]
    refine Ev.neg h0 ?_
    by_cases h1 : l[i] ≥ 65536
    · refine Ev.pos h1 (Ev.val ?_)
      have : okT l[i] = false := by unfold okT; rw [decide_eq_false (by omega : ¬ l[i] ≤ 65535), Bool.and_false]
      rw [this, Bool.false_and, if_neg (by decide)]
    refine Ev.neg h1 (Ev.pos (by rw [O_len]; omega) ?_)
    have hok : okT l[i] = true := by unfold okT; rw [decide_eq_true (by omega), decide_eq_true (by omega)]; rfl
    rw [hok, Bool.true_and]
    obtain ⟨t, ht⟩ := nat_of (by omega : 0 ≤ l[i])
    rw [ht] at h1 ⊢
    rw [u64w _ (by omega) (by omega), w64 ((i : Int) + 1) (by omega) (by omega)]
    have := desc_l0 e he l hll m (i + 1) (acc ++ [t]) (by omega) (by simp; omega) (by
      intro x hx'
      rcases List.mem_append.1 hx' with h | h
      · exact hx x h
      · simp at h; omega)
    rw [O_app, List.append_assoc] at this
    exact this
theorem shr_le (a2 : Int) (n : Nat) (hn : n ≤ 24) (h0 : 0 ≤ a2) : (shr .u32 a2 (n : Int) > 0) ↔ a2 ≥ 2 ^ n := by
  unfold shr
  have : min (n : Int).toNat IntKind.u32.bits = n := by
    show min (n : Int).toNat 32 = n
    omega
  rw [this]
  have hp : (0 : Int) < 2 ^ n := Int.pow_pos (by decide)
  constructor
  · intro h
    have := (Int.le_ediv_iff_mul_le hp).1 (by omega : (1 : Int) ≤ a2 / 2 ^ n)
    omega
  · intro h
    have := (Int.le_ediv_iff_mul_le hp).2 (by omega : (1 : Int) * 2 ^ n ≤ a2)
    omega
theorem ev_desc (a0 : Int) (l : List Int) (a2 : Int) (h0' : 0 ≤ a2) (h1' : a2 < 4294967296) : Ev (fun k => journal_Desc.f k a0 l a2) (descS a0 l a2) := by
  unfold journal_Desc.f
  have bad : (a0 < 1 ∨ a0 > 4611686018427387904 ∨ (l.length : Int) < 1 ∨ (l.length : Int) > 24 ∨ a2 ≥ 2 ^ l.length) → Ev (fun k => journal_Desc.j0 k a0 l a2 true) (descS a0 l a2) := fun h => by
    refine Ev.head ?_
    simp only [journal_Desc.j0]
    refine Ev.pos trivial (Ev.val ?_)
    unfold descS; rw [if_pos h]
  by_cases h0 : a0 < 1
  · exact Ev.pos h0 (bad (.inl h0))
  refine Ev.neg h0 ?_
  by_cases h1 : a0 > 4611686018427387904
  · exact Ev.pos h1 (bad (.inr (.inl h1)))
  refine Ev.neg h1 ?_
  by_cases h2 : (l.length : Int) < 1
  · exact Ev.pos h2 (bad (.inr (.inr (.inl h2))))
  refine Ev.neg h2 ?_
  by_cases h3 : (l.length : Int) > 24
  · exact Ev.pos h3 (bad (.inr (.inr (.inr (.inl h3)))))
  refine Ev.neg h3 ?_
  have hs := shr_le a2 l.length (by omega) h0'
  by_cases h4 : a2 ≥ 2 ^ l.length
  · rw [decide_eq_true (hs.2 h4)]; exact bad (.inr (.inr (.inr (.inr h4))))
  rw [decide_eq_false (fun h => h4 (hs.1 h))]
  refine Ev.head ?_
  simp only [journal_Desc.j0]
  refine Ev.neg (by decide) ?_
  unfold descS
  rw [if_neg (by rintro (h | h | h | h | h) <;> omega)]
  obtain ⟨e, rfl⟩ := nat_of (by omega : 0 ≤ a0)
  obtain ⟨x, rfl⟩ := nat_of h0'
  rw [u64w _ (by omega) (by omega), u64w _ (by omega) (by omega)]
  exact desc_l0 e (by omega) l (by omega) l.length 0 [l.length, x] (by omega) rfl (by intro y hy; simp at hy; omega)
theorem rdesc_l0 (l : List Int) (hll : l.length ≤ 24) : ∀ (m i : Nat) (b : List Nat), i + m = l.length → b.length + 4 * m ≤ 124 → (∀ x ∈ b, x < 256) →
    Ev (fun k => ashlarref11_Desc.l0 k l (O b) (i : Int)) (if (l.drop i).all okT = true then (O (sealN (b ++ fours ((l.drop i).map Int.toNat))), 0) else ([], 1))
  | 0, i, b, hi, hb, hx => by
    refine Ev.head ?_
    simp only [ashlarref11_Desc.l0]
    refine Ev.neg (by omega) ?_
    rw [List.drop_eq_nil_of_le (by omega)]
    rw [if_pos (show ([] : List Int).all okT = true from rfl), List.map_nil, show fours [] = [] from rfl, List.append_nil]
    exact Ev.bind (ev_rblock b (by omega) hx) (Ev.val rfl)
  | m + 1, i, b, hi, hb, hx => by
    have hlt : i < l.length := by omega
    refine Ev.head ?_
    simp only [ashlarref11_Desc.l0]
    refine Ev.pos (by omega) (Ev.pos (by omega) ?_)
    rw [rd_get l i hlt, List.drop_eq_getElem_cons hlt, List.all_cons, List.map_cons]
    by_cases h0 : l[i] < 0
    · refine Ev.pos h0 (Ev.val ?_)
      have : okT l[i] = false := by unfold okT; rw [decide_eq_false (by omega)]; rfl
      rw [this, Bool.false_and, if_neg (by decide)]
    refine Ev.neg h0 ?_
    by_cases h1 : l[i] > 65535
    · refine Ev.pos h1 (Ev.val ?_)
      have : okT l[i] = false := by unfold okT; rw [decide_eq_false (by omega : ¬ l[i] ≤ 65535), Bool.and_false]
      rw [this, Bool.false_and, if_neg (by decide)]
    refine Ev.neg h1 ?_
    have hok : okT l[i] = true := by unfold okT; rw [decide_eq_true (by omega), decide_eq_true (by omega)]; rfl
    rw [hok, Bool.true_and]
    obtain ⟨t, ht⟩ := nat_of (by omega : 0 ≤ l[i])
    rw [ht] at h1 ⊢
    refine Ev.bind (ev_rput b 4 t (by decide) (by decide) (by simp; omega) (by omega) (by omega)) ?_
    rw [w64 ((i : Int) + 1) (by omega) (by omega)]
    have := rdesc_l0 l hll m (i + 1) (b ++ putL t 4) (by omega) (by rw [List.length_append, putL_length]; omega) (app_lt hx (putL_lt _ _))
    rw [List.append_assoc] at this
    exact this
theorem shl_le (a2 : Int) (n : Nat) (hn : n ≤ 24) : (a2 ≥ shl .i64 1 (n : Int)) ↔ a2 ≥ 2 ^ n := by
  have : shl .i64 1 (n : Int) = 2 ^ n := by
    have : ∀ m, m ≤ 24 → shl .i64 1 ((m : Nat) : Int) = 2 ^ m := by decide
    exact this n hn
  rw [this]
theorem ev_rdesc (a0 : Int) (l : List Int) (a2 : Int) (h0' : 0 ≤ a2) (h1' : a2 < 4294967296) : Ev (fun k => ashlarref11_Desc.f k a0 l a2) (descS a0 l a2) := by
  unfold ashlarref11_Desc.f
  have bad : (a0 < 1 ∨ a0 > 4611686018427387904 ∨ (l.length : Int) < 1 ∨ (l.length : Int) > 24 ∨ a2 ≥ 2 ^ l.length) → Ev (fun k => ashlarref11_Desc.j0 k a0 l a2 true) (descS a0 l a2) := fun h => by
    refine Ev.head ?_
    simp only [ashlarref11_Desc.j0]
    refine Ev.pos trivial (Ev.val ?_)
    unfold descS; rw [if_pos h]
  by_cases h0 : a0 < 1
  · exact Ev.pos h0 (bad (.inl h0))
  refine Ev.neg h0 ?_
  by_cases h1 : a0 > 4611686018427387904
  · exact Ev.pos h1 (bad (.inr (.inl h1)))
  refine Ev.neg h1 ?_
  by_cases h2 : (l.length : Int) < 1
  · exact Ev.pos h2 (bad (.inr (.inr (.inl h2))))
  refine Ev.neg h2 ?_
  by_cases h3 : (l.length : Int) > 24
  · exact Ev.pos h3 (bad (.inr (.inr (.inr (.inl h3)))))
  refine Ev.neg h3 ?_
  rw [w64 a2 (by omega) (by omega)]
  have hs := shl_le a2 l.length (by omega)
  by_cases h4 : a2 ≥ 2 ^ l.length
  · rw [decide_eq_true (hs.2 h4)]; exact bad (.inr (.inr (.inr (.inr h4))))
  rw [decide_eq_false (fun h => h4 (hs.1 h))]
  refine Ev.head ?_
  simp only [ashlarref11_Desc.j0]
  refine Ev.neg (by decide) ?_
  unfold descS
  rw [if_neg (by rintro (h | h | h | h | h) <;> omega)]
  obtain ⟨e, rfl⟩ := nat_of (by omega : 0 ≤ a0)
  obtain ⟨x, rfl⟩ := nat_of h0'
  rw [w64 _ (by omega) (by omega)]
  refine Ev.bind (ev_rput MD 8 e (by decide) (by decide) (by simp; omega) (by omega) (by decide)) ?_
  refine Ev.bind (ev_rput _ 4 l.length (by decide) (by decide) (by simp; omega) (by omega) (by simp [putL_length, MD])) ?_
  refine Ev.bind (ev_rput _ 4 x (by decide) (by decide) (by simp; omega) (by omega) (by simp [putL_length, MD])) ?_
  have := rdesc_l0 l (by omega) l.length 0 (MD ++ putL e 8 ++ putL l.length 4 ++ putL x 4) (by omega) (by simp [putL_length, MD]; omega) (app_lt (app_lt (app_lt (M_lt (M := MD) rfl) (putL_lt _ _)) (putL_lt _ _)) (putL_lt _ _))
  have e1 : block MD e (l.length :: x :: l.map Int.toNat) = O (sealN (MD ++ putL e 8 ++ putL l.length 4 ++ putL x 4 ++ fours (l.map Int.toNat))) := by
    unfold block
    rw [fours_cons, fours_cons]
    simp only [List.append_assoc]
  rw [List.drop_zero] at this
  show Ev _ (if l.all okT = true then (block MD e (l.length :: x :: l.map Int.toNat), 0) else ([], 1))
  rw [e1]
  exact this
end Go.Proofs.YtfjfollomgjlbaaGreat.PQ
