/-
  The plain law, part 9: JournalBack: what was put is told, and one octet that is another one is told.
-/
import Derived.Test.YtfjfollomgjlbaaGreatSp7
import Derived.Test.YtfjfollomgjlbaaGreatPj
set_option linter.unusedVariables false
set_option linter.unusedSimpArgs false
namespace Go.Proofs.YtfjfollomgjlbaaGreat.PQ
open Go.RowKit Go.Proofs.YtfjfollomgjlbaaGreatW.PrintWords Go.Proofs.YtfjfollomgjlbaaGreatW.PrintLast Go.Proofs.YtfjfollomgjlbaaGreatW.PrintMore
open Go.Proofs.YtfjfollomgjlbaaGreat.Am (putL getL crcF crcL crcB crcN tabN)
open Go.Proofs.YtfjfollomgjlbaaGreat.Run (putL_length rd_at xor8)
theorem xor_cancel {a b x : Nat} (h : a ^^^ x = b ^^^ x) : a = b := by
  have := congrArg (· ^^^ x) h
  simpa [Nat.xor_assoc, Nat.xor_self, Nat.xor_zero] using this
theorem tab_top : ∀ a, a < 16 → ∀ b, b < 16 → tabN a >>> 28 = tabN b >>> 28 → a = b := by decide
theorem crcN_inj {a b : Nat} (ha : a < 4294967296) (hb : b < 4294967296) (h : crcN a = crcN b) : a = b := by
  have ea : crcN a = tabN (a &&& 15) ^^^ (a >>> 4) := rfl
  have eb : crcN b = tabN (b &&& 15) ^^^ (b >>> 4) := rfl
  have la : a &&& 15 < 16 := by have : a &&& 15 ≤ 15 := Nat.and_le_right; omega
  have lb : b &&& 15 < 16 := by have : b &&& 15 ≤ 15 := Nat.and_le_right; omega
  have s : ∀ c : Nat, c < 4294967296 → (c >>> 4) >>> 28 = 0 := fun c hc => by
    rw [← Nat.shiftRight_add, Nat.shiftRight_eq_div_pow]
    exact Nat.div_eq_of_lt (by simpa using hc)
  rw [ea, eb] at h
  have h1 := congrArg (· >>> 28) h
  simp only [Nat.shiftRight_xor_distrib, s a ha, s b hb, Nat.xor_zero] at h1
  have h2 := tab_top _ la _ lb h1
  rw [h2, Nat.xor_comm, Nat.xor_comm (tabN _)] at h
  have h3 := xor_cancel h
  rw [nib_split a, nib_split b, h2, h3]
theorem crcB_inj {c d x y : Nat} (hc : c < 4294967296) (hd : d < 4294967296) (hx : x < 256) (hy : y < 256) (h : crcB c x = crcB d y) : c ^^^ x = d ^^^ y := by
  have h1 := Am.xor_lt c x hc (by omega)
  have h2 := Am.xor_lt d y hd (by omega)
  exact crcN_inj h1 h2 (crcN_inj (Am.crcN_ok _ h1).2 (Am.crcN_ok _ h2).2 h)
theorem crcL_inj : ∀ (l : List Nat) {c d : Nat}, (∀ x ∈ l, x < 256) → c < 4294967296 → d < 4294967296 → crcL l c = crcL l d → c = d
  | [], _, _, _, _, _, h => h
  | x :: l, c, d, hl, hc, hd, h => by
    have hx := hl x List.mem_cons_self
    have := crcL_inj l (fun y hy => hl y (List.mem_cons_of_mem _ hy)) (Am.crcB_ok c x hc hx).2 (Am.crcB_ok d x hd hx).2 h
    exact xor_cancel (crcB_inj hc hd hx hx this)
theorem crcL_app : ∀ (a b : List Nat) (c : Nat), crcL (a ++ b) c = crcL b (crcL a c)
  | [], _, _ => rfl
  | x :: a, b, c => crcL_app a b (crcB c x)
theorem crc_one {l : List Nat} (hl : ∀ x ∈ l, x < 256) {p v : Nat} (hp : p < l.length) (hv : v < 256) (h : crcF 0 (l.set p v) = crcF 0 l) : v = l[p] := by
  have e0 : ∀ m : List Nat, crcF 0 m = 4294967295 - crcL m 4294967295 := fun _ => rfl
  have b1 := (Am.crcL_ok l 4294967295 (by decide) hl).2
  have hl2 : ∀ x ∈ l.set p v, x < 256 := fun x hx => by
    rcases List.mem_or_eq_of_mem_set hx with h | h
    · exact hl x h
    · omega
  have b2 := (Am.crcL_ok (l.set p v) 4294967295 (by decide) hl2).2
  have h1 : crcL (l.set p v) 4294967295 = crcL l 4294967295 := by rw [e0, e0] at h; omega
  have e1 : l = l.take p ++ l[p] :: l.drop (p + 1) := by rw [← List.drop_eq_getElem_cons hp, List.take_append_drop]
  have e2 : l.set p v = l.take p ++ v :: l.drop (p + 1) := List.set_eq_take_append_cons_drop.trans (by rw [if_pos hp])
  have h2 : crcL (l.take p ++ v :: l.drop (p + 1)) 4294967295 = crcL (l.take p ++ l[p] :: l.drop (p + 1)) 4294967295 := by rw [← e2, ← e1]; exact h1
  rw [crcL_app, crcL_app] at h2
  have b0 := (Am.crcL_ok (l.take p) 4294967295 (by decide) (fun x hx => hl x (List.mem_of_mem_take hx))).2
  have hlp := hl _ (List.getElem_mem hp)
  have h3 := crcL_inj (l.drop (p + 1)) (fun x hx => hl x (List.mem_of_mem_drop hx)) (Am.crcB_ok _ v b0 hv).2 (Am.crcB_ok _ l[p] b0 hlp).2 h2
  have h4 := crcB_inj b0 b0 hv hlp h3
  rw [Nat.xor_comm, Nat.xor_comm _ l[p]] at h4
  exact xor_cancel h4
theorem no_two {A B : List Nat} (hA : A.length ≤ 124) (hB : B.length ≤ 124) (_oA : ∀ x ∈ A, x < 256) (oB : ∀ x ∈ B, x < 256) {p v : Nat} (hp : p < (sealN B).length) (hv : v < 256) (h : sealN A = (sealN B).set p v) : v = (sealN B)[p] := by
  have lA := pad_len hA
  have lB := pad_len hB
  have oP := pad_lt oB
  have h0 : sealN B = pad B ++ putL (crcF 0 (pad B)) 4 := rfl
  have h1 : pad A ++ putL (crcF 0 (pad A)) 4 = (pad B ++ putL (crcF 0 (pad B)) 4).set p v := h
  by_cases hq : p < 124
  · rw [List.set_append_left _ _ (by omega)] at h1
    obtain ⟨h2, h3⟩ := List.append_inj h1 (by rw [List.length_set]; omega)
    have oS : ∀ x ∈ (pad B).set p v, x < 256 := fun x hx => by
      rcases List.mem_or_eq_of_mem_set hx with h | h
      · exact oP x h
      · omega
    have h4 := congrArg getL h3
    rw [h2] at h4
    rw [getL_putL 4 _ (by simpa using crc_lt _ oS), getL_putL 4 _ (by simpa using crc_lt _ oP)] at h4
    have h5 := crc_one oP (by omega) hv h4
    rw [h5]
    exact (List.getElem_append_left (by omega)).symm
  · have hl : (sealN B).length = 128 := seal_len hB
    rw [List.set_append_right _ _ (by omega)] at h1
    obtain ⟨h2, h3⟩ := List.append_inj h1 (by omega)
    rw [h2] at h3
    have h4 : (putL (crcF 0 (pad B)) 4)[p - (pad B).length]? = some v := by
      conv => lhs; rw [h3]
      rw [List.getElem?_set_self (by rw [putL_length]; omega)]
    have h5 : (sealN B)[p]? = some v := by
      rw [h0, List.getElem?_append_right (by omega)]
      exact h4
    rw [List.getElem?_eq_getElem hp] at h5
    exact (Option.some.inj h5).symm
theorem read_changed {B : List Nat} (hB : B.length ≤ 124) (oB : ∀ x ∈ B, x < 256) {p v : Nat} (hp : p < (sealN B).length) (hv : v < 256) (hne : v ≠ (sealN B)[p]) (s : Int) (l : List Int) (a : Int) : readDescS ((sealN B).set p v) s l a = (0, [], 0, 8) := by
  have oS : ∀ x ∈ (sealN B).set p v, x < 256 := fun x hx => by
    rcases List.mem_or_eq_of_mem_set hx with h | h
    · exact seal_lt oB x h
    · omega
  unfold readDescS
  by_cases c : (descS s l a).2 = 0
  · rw [if_pos c]
    obtain ⟨_, _, _, hl, _, _, e⟩ := desc_ok c
    rw [e, if_neg]
    intro x
    have h1 := is_block (M := MD) rfl oS x
    exact hne (no_two (block_len (M := MD) rfl _ (by simp; omega)) hB (block_lt (M := MD) rfl _ _) oB hp hv h1)
  · rw [if_neg c]
theorem back_head {a0 a1 : Int} (h : (headS a0 a1).2 = 0) : Ev (fun k => journal_ReadHead.f k (headS a0 a1).1) (a0, a1, 0) := by
  obtain ⟨h1, h2, h3, h4, e⟩ := head_ok h
  obtain ⟨n, rfl⟩ := nat_of (by omega : 0 ≤ a0)
  obtain ⟨x, rfl⟩ := nat_of h3
  rw [e]
  show Ev (fun k => journal_ReadHead.f k (O (sealN (MH ++ putL n 8 ++ fours [x])))) _
  have ob := seal_lt (block_lt (M := MH) rfl n [x])
  have lb : (sealN (MH ++ putL n 8 ++ fours [x])).length = 128 := seal_len (block_len (M := MH) rfl n (by simp))
  have n1 := ev_num _ ob (by omega) 4 8 (by decide) (by decide) (by omega)
  rw [seal_seq (M := MH) rfl (by omega), Nat.mod_eq_of_lt (by omega)] at n1
  have n2 := four_num _ ob (by omega) 12 (by omega)
  have e2 := seal_four (M := MH) rfl n (fs := [x]) (i := 0) (by simp) (by show x < 4294967296; omega)
  rw [show 12 + 4 * 0 = 12 from rfl] at e2
  rw [e2] at n2
  have := ev_readHead _ n1 n2
  have e3 : readHeadS (sealN (MH ++ putL n 8 ++ fours [x])) (n : Int) (([x] : List Nat)[0] : Nat) = ((n : Int), (x : Int), 0) := by
    show readHeadS _ (n : Int) (x : Int) = _
    unfold readHeadS
    rw [if_pos h, e]
    exact if_pos (by unfold Is; rfl)
  rw [e3] at this
  exact this
theorem back_desc {a0 a3 : Int} {l : List Int} (h3 : 0 ≤ a3) (h : (descS a0 l a3).2 = 0) : ∃ B : List Nat, (descS a0 l a3).1 = O (sealN B) ∧ B.length ≤ 124 ∧ (∀ x ∈ B, x < 256) ∧ Ev (fun k => journal_ReadDesc.f k (O (sealN B))) (a0, l, a3, 0) := by
  obtain ⟨h1, h2, l1, l2, h5, hall, e⟩ := desc_ok h
  obtain ⟨n, rfl⟩ := nat_of (by omega : 0 ≤ a0)
  obtain ⟨x, rfl⟩ := nat_of h3
  have hx24 : x < 4294967296 := by
    have h6 : (2 : Nat) ^ l.length ≤ 2 ^ 24 := Nat.pow_le_pow_right (by decide) l2
    have e6 : (2 : Nat) ^ 24 = 16777216 := by decide
    have h7 : x < 2 ^ l.length := by exact_mod_cast h5
    omega
  have hfl : ∀ y ∈ l.length :: x :: l.map Int.toNat, y < 4294967296 := by
    intro y hy
    simp only [List.mem_cons] at hy
    rcases hy with rfl | rfl | hy
    · omega
    · exact hx24
    · obtain ⟨t, ht, rfl⟩ := List.mem_map.1 hy
      have := List.all_eq_true.1 hall t ht
      unfold okT at this
      simp only [Bool.and_eq_true, decide_eq_true_eq] at this
      omega
  have hlen : (l.length :: x :: l.map Int.toNat).length ≤ 28 := by simp; omega
  refine ⟨MD ++ putL n 8 ++ fours (l.length :: x :: l.map Int.toNat), by rw [e]; rfl, block_len (M := MD) rfl n hlen, block_lt (M := MD) rfl n _, ?_⟩
  have ob := seal_lt (block_lt (M := MD) rfl n (l.length :: x :: l.map Int.toNat))
  have lb : (sealN (MD ++ putL n 8 ++ fours (l.length :: x :: l.map Int.toNat))).length = 128 := seal_len (block_len (M := MD) rfl n hlen)
  have sf : ∀ (i : Nat) (hi : i < (l.length :: x :: l.map Int.toNat).length), numN (sealN (MD ++ putL n 8 ++ fours (l.length :: x :: l.map Int.toNat))) (12 + 4 * i) 4 = (l.length :: x :: l.map Int.toNat)[i] := fun i hi => seal_four (M := MD) rfl n hi (hfl _ (List.getElem_mem hi))
  have n1 := ev_num _ ob (by omega) 4 8 (by decide) (by decide) (by omega)
  rw [seal_seq (M := MD) rfl (by omega), Nat.mod_eq_of_lt (by omega)] at n1
  have n2 := four_num _ ob (by omega) 12 (by omega)
  have n3 := four_num _ ob (by omega) 16 (by omega)
  have e2 := sf 0 (by simp)
  have e3 := sf 1 (by simp)
  rw [show 12 + 4 * 0 = 12 from rfl] at e2
  rw [show 12 + 4 * 1 = 16 from rfl] at e3
  rw [e2] at n2
  rw [e3] at n3
  have n2' : Ev (fun f => journal_number.f f (O (sealN (MD ++ putL n 8 ++ fours (l.length :: x :: l.map Int.toNat)))) 12 4) ((l.length : Nat) : Int) := n2
  have n3' : Ev (fun f => journal_number.f f (O (sealN (MD ++ putL n 8 ++ fours (l.length :: x :: l.map Int.toNat)))) 16 4) ((x : Nat) : Int) := n3
  have := ev_readDesc _ n1 n3' n2' (by omega) (fun i => ((numN (sealN (MD ++ putL n 8 ++ fours (l.length :: x :: l.map Int.toNat))) (20 + 4 * i) 4 : Nat) : Int)) (fun i hi => four_num _ ob (by omega) (20 + 4 * i) (by omega))
  have em : min ((l.length : Nat) : Int).toNat 24 = l.length := by omega
  have ea : ((x : Nat) : Int) % 4294967296 = (x : Int) := by omega
  have et : tgs (fun i => ((numN (sealN (MD ++ putL n 8 ++ fours (l.length :: x :: l.map Int.toNat))) (20 + 4 * i) 4 : Nat) : Int)) l.length = l := by
    apply List.ext_getElem
    · rw [tgs_len]
    · intro i hi1 hi2
      have h8 := sf (i + 2) (by simp; omega)
      rw [show 12 + 4 * (i + 2) = 20 + 4 * i by omega] at h8
      simp only [tgs, List.getElem_map, List.getElem_range]
      rw [h8]
      have h9 : (l.length :: x :: l.map Int.toNat)[i + 2]'(by simp; omega) = l[i].toNat := by simp
      rw [h9]
      have := List.all_eq_true.1 hall l[i] (List.getElem_mem hi2)
      unfold okT at this
      simp only [Bool.and_eq_true, decide_eq_true_eq] at this
      omega
  rw [em, ea, et] at this
  have e4 : readDescS (sealN (MD ++ putL n 8 ++ fours (l.length :: x :: l.map Int.toNat))) (n : Int) l (x : Int) = ((n : Int), l, (x : Int), 0) := by
    unfold readDescS
    rw [if_pos h, e]
    exact if_pos (by unfold Is; rfl)
  rw [e4] at this
  exact this
theorem wf_u8 {a : Int} (h : (Lit.int .u8 a).wf = true) : 0 ≤ a ∧ a < 256 := by
  simp only [Lit.wf, Bool.and_eq_true, decide_eq_true_eq] at h
  have h1 : IntKind.u8.min = 0 := by decide
  have h2 : IntKind.u8.max = 255 := by decide
  omega
theorem wf_u32' {a : Int} (h : (Lit.int .u32 a).wf = true) : 0 ≤ a ∧ a < 4294967296 := by
  simp only [Lit.wf, Bool.and_eq_true, decide_eq_true_eq] at h
  have h1 : IntKind.u32.min = 0 := by decide
  have h2 : IntKind.u32.max = 4294967295 := by decide
  omega
theorem back_j1 {B : List Nat} (hB : B.length ≤ 124) (oB : ∀ x ∈ B, x < 256) (a4 a5 : Int) (h5 : 0 ≤ a5 ∧ a5 < 256) : Ev (fun k => ashlarlaw11_JournalBack.j1 k a4 a5 (O (sealN B)) false) true := by
  have lb := seal_len hB
  refine Ev.head ?_
  simp only [ashlarlaw11_JournalBack.j1]
  refine Ev.neg (by decide) ?_
  by_cases z : a5 = 0
  · exact Ev.pos z (Ev.val rfl)
  refine Ev.neg z ?_
  by_cases y : a4 < 0
  · exact Ev.pos y (Ev.val rfl)
  refine Ev.neg y ?_
  by_cases u : a4 > 127
  · exact Ev.pos u (Ev.val rfl)
  refine Ev.neg u (Ev.pos (by omega) (Ev.pos (by rw [O_len]; omega) ?_))
  obtain ⟨p, rfl⟩ := nat_of (by omega : 0 ≤ a4)
  obtain ⟨v, rfl⟩ := nat_of h5.1
  have hp : p < (sealN B).length := by omega
  rw [rd_at _ p hp]
  have hb := seal_lt oB _ (List.getElem_mem hp)
  rw [xor8 _ v hb (by omega)]
  have hw : Nat.xor (sealN B)[p] v < 256 := Nat.xor_lt_two_pow (n := 8) hb (by omega)
  have hs : (O (sealN B)).set (p : Int).toNat ((Nat.xor (sealN B)[p] v : Nat) : Int) = O ((sealN B).set p (Nat.xor (sealN B)[p] v)) := by
    rw [show (p : Int).toNat = p by omega]
    exact (List.map_set).symm
  rw [hs]
  have hne : Nat.xor (sealN B)[p] v ≠ (sealN B)[p] := by
    intro h
    have h1 : v ^^^ (sealN B)[p] = 0 ^^^ (sealN B)[p] := by rw [Nat.xor_comm v, Nat.zero_xor]; exact h
    have := xor_cancel h1
    omega
  have oS : ∀ x ∈ (sealN B).set p (Nat.xor (sealN B)[p] v), x < 256 := fun x hx => by
    rcases List.mem_or_eq_of_mem_set hx with h | h
    · exact seal_lt oB x h
    · omega
  have lS : ((sealN B).set p (Nat.xor (sealN B)[p] v)).length = 128 := by rw [List.length_set]; exact lb
  have n1 := ev_num _ oS (by omega) 4 8 (by decide) (by decide) (by omega)
  have n2 := four_num _ oS (by omega) 12 (by omega)
  have n3 := four_num _ oS (by omega) 16 (by omega)
  have p3 := ev_readDesc _ n1 n3 n2 (by omega) (fun i => ((numN ((sealN B).set p (Nat.xor (sealN B)[p] v)) (20 + 4 * i) 4 : Nat) : Int)) (fun i hi => four_num _ oS (by omega) (20 + 4 * i) (by omega))
  rw [read_changed hB oB hp hw hne] at p3
  exact Ev.bind p3 (Ev.val rfl)
theorem journalBack_pure : ashlarlaw11_JournalBack.Pure := by
  intro a0 a1 l2 a3 a4 a5 _ _ _ hl _ h3 _ h5
  obtain ⟨h30, h31⟩ := wf_u32' h3
  have h5 := wf_u8 h5
  refine Ev.rounds (g := fun k => ashlarlaw11_JournalBack.f k a0 a1 l2 a3 a4 a5) ?_
  unfold ashlarlaw11_JournalBack.f
  refine Ev.bind (ev_head a0 a1) (Ev.bind (ev_desc a0 l2 a3 h30 h31) (Ev.bind (Ev.now _) (Ev.pos rfl ?_)))
  have hj0 : Ev (fun k => ashlarlaw11_JournalBack.j0 k a0 l2 a3 a4 a5 (descS a0 l2 a3).1 (descS a0 l2 a3).2) true := by
    refine Ev.head ?_
    simp only [ashlarlaw11_JournalBack.j0]
    by_cases c : (descS a0 l2 a3).2 = 0
    · refine Ev.pos c ?_
      obtain ⟨B, e, hB, oB, hr⟩ := back_desc h30 c
      obtain ⟨_, _, _, hl24, _, _, _⟩ := desc_ok c
      rw [e]
      refine Ev.bind hr (Ev.pos (by first | rfl | trivial) (Ev.pos (by first | rfl | trivial) (Ev.pos (by first | rfl | trivial) (Ev.bind (ev_unlike _ (by show l2.length ≤ 1000000; omega)) (Ev.pos (by first | rfl | trivial) ?_)))))
      have hlen : (((O (sealN B)).length : Int) != 128) = false := by rw [O_len, seal_len hB]; rfl
      rw [hlen]
      exact back_j1 hB oB a4 a5 h5
    · refine Ev.neg c (Ev.val ?_)
      have : (descS a0 l2 a3).1 = [] := by
        unfold descS at c ⊢
        split
        · rfl
        · rename_i h
          rw [if_neg h] at c
          split
          · rename_i h2
            rw [if_pos h2] at c
            exact absurd rfl c
          · rfl
      rw [this]
      rfl
  by_cases c : (headS a0 a1).2 = 0
  · exact Ev.pos c (Ev.bind (back_head c) (Ev.pos (by first | rfl | trivial) (Ev.pos (by first | rfl | trivial) (Ev.pos (by first | rfl | trivial) hj0))))
  · exact Ev.neg c hj0
end Go.Proofs.YtfjfollomgjlbaaGreat.PQ
