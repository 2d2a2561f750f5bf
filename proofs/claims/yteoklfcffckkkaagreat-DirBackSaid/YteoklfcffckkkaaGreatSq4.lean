/-
  The plain law, part 4: DirBack.
-/
import Derived.Test.YteoklfcffckkkaaGreatSq2
import Derived.Test.YteoklfcffckkkaaGreatPj
set_option linter.unusedVariables false
namespace Go.Proofs.YteoklfcffckkkaaGreat.PQ
open Go.RowKit Go.Proofs.YteoklfcffckkkaaGreatW.PrintWords Go.Proofs.YteoklfcffckkkaaGreatW.PrintLast Go.Proofs.YteoklfcffckkkaaGreatW.PrintMore
open Go.Proofs.YteoklfcffckkkaaGreat.Am (putL getL)
open Go.Proofs.YteoklfcffckkkaaGreat.Run (putL_length)
theorem dec_cases (b : List Nat) : ((decS b).2.2.1 = false ∧ (decS b).1 = 0 ∧ (decS b).2.1 = ⟨#[]⟩) ∨ (decS b = ((decS b).1, (decS b).2.1, true, 0) ∧ (encS (decS b).1 (decS b).2.1).2 = 0 ∧ Is (encS (decS b).1 (decS b).2.1).1 b) := by
  unfold decS
  by_cases h : b.length = 32
  · rw [if_pos h]
    by_cases z : zeroB b
    · rw [if_pos z]; exact .inl ⟨rfl, rfl, rfl⟩
    rw [if_neg z]
    by_cases g : b.getD 4 0 > 27
    · rw [if_pos g]; exact .inl ⟨rfl, rfl, rfl⟩
    rw [if_neg g]
    unfold decE
    by_cases c : (encS ((numN b 0 4 : Nat) : Int) (nm b (b.getD 4 0))).2 = 0
    · rw [if_pos c]
      by_cases d : Is (encS ((numN b 0 4 : Nat) : Int) (nm b (b.getD 4 0))).1 b
      · rw [if_pos d]; exact .inr ⟨rfl, c, d⟩
      · rw [if_neg d]; exact .inl ⟨rfl, rfl, rfl⟩
    · rw [if_neg c]; exact .inl ⟨rfl, rfl, rfl⟩
  · rw [if_neg h]; exact .inl ⟨rfl, rfl, rfl⟩
theorem str_bs (s : ByteArray) : (strOfNums (O (bs s))).toList = s.toList := by
  rw [Lib.strOfNums_toList, ByteArray.toList_eq]
  unfold Lib.bytesOf O bs
  simp only [List.map_map]
  conv => rhs; rw [← List.map_id s.data.toList]
  refine List.map_congr_left fun x _ => ?_
  show UInt8.ofNat x.toNat = x
  simp
theorem dec_enc {a : Int} {s : ByteArray} (h : (encS a s).2 = 0) : ∃ b s', (encS a s).1 = O b ∧ (∀ x ∈ b, x < 256) ∧ decS b = (a, s', true, 0) ∧ s'.toList = s.toList := by
  obtain ⟨ok, e⟩ := enc_ok h
  obtain ⟨h1, h2, h3⟩ := ok
  obtain ⟨n, rfl⟩ := nat_of (by omega : 0 ≤ a)
  have hl := name_len h3
  have hlb : (bs s).length ≤ 27 := by rw [bs_len]; exact hl
  refine ⟨encL n (bs s), nm (encL n (bs s)) (bs s).length, by rw [e]; rfl, encL_lt (bs_lt s), ?_, ?_⟩
  · have len := encL_len (n := n) hlb
    have four := encL_four (n := n) hlb
    have num := encL_num (n := n) (m := bs s) (by omega)
    have hbl : (encL n (bs s)).length = 32 := len
    unfold decS
    rw [if_pos hbl, if_neg, four, if_neg (by omega), num]
    · have hn : bs (nm (encL n (bs s)) (bs s).length) = bs s := by
        rw [bs_nm _ (encL_lt (bs_lt s))]
        exact encL_name
      have hname : Sp.nameE (ofBs (nm (encL n (bs s)) (bs s).length)) = 0 := by
        have : ofBs (nm (encL n (bs s)) (bs s).length) = ofBs s := by
          have h5 : (nm (encL n (bs s)) (bs s).length).toList = s.toList := by
            rw [nm_eq, encL_name]
            exact str_bs s
          rw [ByteArray.toList_eq, ByteArray.toList_eq] at h5
          exact h5
        rw [this]
        exact h3
      have he : encS (n : Int) (nm (encL n (bs s)) (bs s).length) = (O (encL n (bs s)), 0) := by
        unfold encS
        rw [if_pos ⟨h1, h2, hname⟩, hn]
        rfl
      unfold decE
      rw [he, if_pos rfl, if_pos (by unfold Is; rfl)]
    · intro z
      have hz : List.replicate 32 0 = encL n (bs s) := by
        refine str_inj (fun x hx => ?_) (encL_lt (bs_lt s)) ?_
        · have := List.eq_of_mem_replicate hx; omega
        · unfold zeroB Is at z
          rw [O_rep]
          exact z
      rw [← hz] at num
      have h0 : numN (List.replicate 32 0) 0 4 = 0 := by decide
      omega
  · rw [nm_eq, encL_name]
    exact str_bs s
theorem back_j0 (a : Int) (s : ByteArray) (b : List Nat) (hb : ∀ x ∈ b, x < 256) : Ev (fun k => ashlarlaw15_DirBack.j0 k (O b) (decS b).2.2.1 (decS b).2.2.2 false (decS b).1 (decS b).2.1) true := by
  refine Ev.head ?_
  simp only [ashlarlaw15_DirBack.j0]
  refine Ev.neg (by decide) ?_
  rcases dec_cases b with ⟨h1, h2, h3⟩ | ⟨h1, h2, h3⟩
  · rw [h1, h2, h3]
    have hz : ((0 : Int) == 0 && ((⟨#[]⟩ : ByteArray).toList == ([] : List UInt8))) = true := by
      rw [ByteArray.toList_eq]; rfl
    by_cases c : (decS b).2.2.2 = 0
    · exact Ev.pos c (Ev.neg (by decide) (Ev.pos hz (Ev.val rfl)))
    · exact Ev.neg c (Ev.pos hz (Ev.val rfl))
  · have e3 : (decS b).2.2.1 = true := by rw [h1]
    have e4 : (decS b).2.2.2 = 0 := by rw [h1]
    rw [e3, e4]
    have hok := (enc_ok h2).1
    have hsz := name_len hok.2.2
    refine Ev.pos rfl (Ev.pos rfl (Ev.bind (ev_enc _ _ (by omega)) (Ev.pos h2 (Ev.val ?_))))
    have : (strOfNums (encS (decS b).1 (decS b).2.1).1).toList = (strOfNums (O b)).toList := h3
    rw [this]
    simp
theorem dirBack_pure (a : Int) (s : ByteArray) (l : List Int) (hs : s.size ≤ 140737488351232) (hl : l.length * 1 ≤ 140737488351232) (hw : ∀ x ∈ l, (Lit.int .u8 x).wf = true) : ∃ k, ashlarlaw15_DirBack.f k a s l = some true := by
  obtain ⟨b, rfl, hb, _⟩ := octs_of hw
  refine Ev.rounds (g := fun k => ashlarlaw15_DirBack.f k a s (O b)) ?_
  unfold ashlarlaw15_DirBack.f
  refine Ev.bind (ev_enc a s hs) (Ev.bind (ev_dec b hb) (Ev.bind (Ev.now _) (Ev.pos rfl ?_)))
  by_cases c : (encS a s).2 = 0
  · refine Ev.pos c ?_
    obtain ⟨b2, s', e1, o1, d1, t1⟩ := dec_enc c
    rw [e1]
    refine Ev.bind (ev_dec b2 o1) ?_
    rw [d1]
    refine Ev.pos (by first | rfl | trivial) (Ev.pos (by first | rfl | trivial) ?_)
    have hb1 : (!(a == a) || (!(s'.toList == s.toList))) = false := by rw [t1]; simp
    show Ev (fun k => ashlarlaw15_DirBack.j0 k (O b) (decS b).2.2.1 (decS b).2.2.2 (!(a == a) || (!(s'.toList == s.toList))) (decS b).1 (decS b).2.1) true
    rw [hb1]
    exact back_j0 a s b hb
  · refine Ev.neg c ?_
    have := back_j0 a s b hb
    rcases dec_cases b with ⟨h1, h2, h3⟩ | ⟨h1, h2, h3⟩
    · rw [h1, h2, h3]
      have hz : ((0 : Int) == 0 && ((⟨#[]⟩ : ByteArray).toList == ([] : List UInt8))) = true := by
        rw [ByteArray.toList_eq]; rfl
      by_cases c2 : (decS b).2.2.2 = 0
      · exact Ev.pos c2 (Ev.neg (by decide) (Ev.pos hz (Ev.val rfl)))
      · exact Ev.neg c2 (Ev.pos hz (Ev.val rfl))
    · have e3 : (decS b).2.2.1 = true := by rw [h1]
      have e4 : (decS b).2.2.2 = 0 := by rw [h1]
      rw [e3, e4]
      have hok := (enc_ok h2).1
      have hsz := name_len hok.2.2
      refine Ev.pos rfl (Ev.pos rfl (Ev.bind (ev_enc _ _ (by omega)) (Ev.pos h2 (Ev.val ?_))))
      have : (strOfNums (encS (decS b).1 (decS b).2.1).1).toList = (strOfNums (O b)).toList := h3
      rw [this]
      simp
theorem dirBack_walk (a : Int) (s : ByteArray) (A1 : Option Addr) (c1 : Nat) (l : List Int) (w : World) (hs : s.size ≤ 140737488351232) (hl : l.length * 1 ≤ 140737488351232) (hw : ∀ x ∈ l, (Lit.int .u8 x).wf = true) (hr : Kd.C (Kd.int .u8) w A1 l.length l) (hc : l.length ≤ c1) :
    Calls Tryz.prog 4 #[.agg #[.int .i64 a, .string s], .slice A1 l.length c1] w fun e w' => e = .returned (.bool true) ∧ Below w.heap.size w w' := by
  obtain ⟨k, h⟩ := dirBack_pure a s l hs hl hw
  exact ashlarlaw15_DirBack.calls k a s A1 c1 l true w hr hc h rfl
end Go.Proofs.YteoklfcffckkkaaGreat.PQ
