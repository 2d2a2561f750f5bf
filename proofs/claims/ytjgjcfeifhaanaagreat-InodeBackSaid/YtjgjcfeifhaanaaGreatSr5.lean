/-
  The plain law, part 5: InodeBack.
-/
import Derived.Test.YtjgjcfeifhaanaaGreatSb
import Derived.Test.YtjgjcfeifhaanaaGreatPj
set_option linter.unusedVariables false
namespace Go.Proofs.YtjgjcfeifhaanaaGreat.PQ
open Go.RowKit Go.Proofs.YtjgjcfeifhaanaaGreatW.PrintWords Go.Proofs.YtjgjcfeifhaanaaGreatW.PrintLast Go.Proofs.YtjgjcfeifhaanaaGreatW.PrintMore
open Go.Proofs.YtjgjcfeifhaanaaGreat.Am (putL getL lo64 hi64)
open Go.Proofs.YtjgjcfeifhaanaaGreat.Run (putF_ok getF_ok putL_length rd_at getL_snoc)
theorem enc_four (n0 n1 n2 n3 n4 n5 n6 n7 n8 n9 n10 n11 n12 : Nat) (i : Nat) (hi : i < [n2, n3, n4, n5, n6, n7, n8, n9, n10, n11, n12].length) (hx : [n2, n3, n4, n5, n6, n7, n8, n9, n10, n11, n12][i] < 4294967296) : numN (encN n0 n1 n2 n3 n4 n5 n6 n7 n8 n9 n10 n11 n12) (4 + 4 * i) 4 = [n2, n3, n4, n5, n6, n7, n8, n9, n10, n11, n12][i] := by
  have e : encN n0 n1 n2 n3 n4 n5 n6 n7 n8 n9 n10 n11 n12 = ([n0 % 256, 0] ++ putL n1 2 ++ fours ([n2, n3, n4, n5, n6, n7, n8, n9, n10, n11, n12].take i)) ++ (putL [n2, n3, n4, n5, n6, n7, n8, n9, n10, n11, n12][i] 4 ++ (fours ([n2, n3, n4, n5, n6, n7, n8, n9, n10, n11, n12].drop (i + 1)) ++ List.replicate 16 0)) := by
    have e2 : fours [n2, n3, n4, n5, n6, n7, n8, n9, n10, n11, n12] = fours ([n2, n3, n4, n5, n6, n7, n8, n9, n10, n11, n12].take i) ++ (putL [n2, n3, n4, n5, n6, n7, n8, n9, n10, n11, n12][i] 4 ++ fours ([n2, n3, n4, n5, n6, n7, n8, n9, n10, n11, n12].drop (i + 1))) := by
      rw [← fours_cons, ← List.drop_eq_getElem_cons hi, ← fours_app, List.take_append_drop]
    unfold encN
    rw [e2]
    simp only [List.append_assoc]
  have hl : ([n0 % 256, 0] ++ putL n1 2 ++ fours ([n2, n3, n4, n5, n6, n7, n8, n9, n10, n11, n12].take i)).length = 4 + 4 * i := by
    have h4 : ([n2, n3, n4, n5, n6, n7, n8, n9, n10, n11, n12].take i).length = i := by rw [List.length_take]; omega
    simp only [List.length_append, putL_length, List.length_cons, List.length_nil, fours_len, h4]
  have := numN_at ([n0 % 256, 0] ++ putL n1 2 ++ fours ([n2, n3, n4, n5, n6, n7, n8, n9, n10, n11, n12].take i)) (fours ([n2, n3, n4, n5, n6, n7, n8, n9, n10, n11, n12].drop (i + 1)) ++ List.replicate 16 0) [n2, n3, n4, n5, n6, n7, n8, n9, n10, n11, n12][i] 4 (by simpa using hx)
  rw [hl] at this
  rw [e]
  exact this
theorem enc_one (n0 n1 n2 n3 n4 n5 n6 n7 n8 n9 n10 n11 n12 : Nat) (h : n0 < 256) : numN (encN n0 n1 n2 n3 n4 n5 n6 n7 n8 n9 n10 n11 n12) 0 1 = n0 := by
  show n0 % 256 + 256 * 0 = n0
  omega
theorem enc_two (n0 n1 n2 n3 n4 n5 n6 n7 n8 n9 n10 n11 n12 : Nat) (h : n1 < 65536) : numN (encN n0 n1 n2 n3 n4 n5 n6 n7 n8 n9 n10 n11 n12) 2 2 = n1 := by
  have e : encN n0 n1 n2 n3 n4 n5 n6 n7 n8 n9 n10 n11 n12 = [n0 % 256, 0] ++ (putL n1 2 ++ (fours [n2, n3, n4, n5, n6, n7, n8, n9, n10, n11, n12] ++ List.replicate 16 0)) := by
    unfold encN
    simp only [List.append_assoc]
  rw [e]
  exact numN_at [n0 % 256, 0] (fours [n2, n3, n4, n5, n6, n7, n8, n9, n10, n11, n12] ++ List.replicate 16 0) n1 2 (by omega)
theorem enc_ok {a0 a1 a2 a3 a4 a5 a6 a7 a8 a9 a10 a11 a12 : Int} (h : (encS a0 a1 a2 a3 a4 a5 a6 a7 a8 a9 a10 a11 a12).2 = 0) : inodeOk a0 a1 a2 a3 a4 a5 a6 a7 a8 a9 a10 a11 a12 = true := by
  unfold encS at h
  by_cases hk : inodeOk a0 a1 a2 a3 a4 a5 a6 a7 a8 a9 a10 a11 a12 = true
  · exact hk
  · rw [if_neg hk] at h
    cases h
theorem dec_enc {a0 a1 a2 a3 a4 a5 a6 a7 a8 a9 a10 a11 a12 : Int} (h : (encS a0 a1 a2 a3 a4 a5 a6 a7 a8 a9 a10 a11 a12).2 = 0) : ∃ b, (encS a0 a1 a2 a3 a4 a5 a6 a7 a8 a9 a10 a11 a12).1 = O b ∧ (∀ x ∈ b, x < 256) ∧ decS b = (a0, a1, a2, a3, a4, a5, a6, a7, a8, a9, a10, a11, a12, 0) := by
  have hk := enc_ok h
  obtain ⟨⟨p0, q0⟩, ⟨p1, q1⟩, ⟨p2, q2⟩, ⟨p3, q3⟩, ⟨p4, q4⟩, ⟨p5, q5⟩, ⟨p6, q6⟩, ⟨p7, q7⟩, ⟨p8, q8⟩, ⟨p9, q9⟩, ⟨p10, q10⟩, ⟨p11, q11⟩, ⟨p12, q12⟩⟩ := ok_rng hk
  obtain ⟨n0, rfl⟩ := nat_of p0
  obtain ⟨n1, rfl⟩ := nat_of p1
  obtain ⟨n2, rfl⟩ := nat_of p2
  obtain ⟨n3, rfl⟩ := nat_of p3
  obtain ⟨n4, rfl⟩ := nat_of p4
  obtain ⟨n5, rfl⟩ := nat_of p5
  obtain ⟨n6, rfl⟩ := nat_of p6
  obtain ⟨n7, rfl⟩ := nat_of p7
  obtain ⟨n8, rfl⟩ := nat_of p8
  obtain ⟨n9, rfl⟩ := nat_of p9
  obtain ⟨n10, rfl⟩ := nat_of p10
  obtain ⟨n11, rfl⟩ := nat_of p11
  obtain ⟨n12, rfl⟩ := nat_of p12
  refine ⟨encN n0 n1 n2 n3 n4 n5 n6 n7 n8 n9 n10 n11 n12, by unfold encS; rw [if_pos hk]; rfl, encN_lt n0 n1 n2 n3 n4 n5 n6 n7 n8 n9 n10 n11 n12, ?_⟩
  unfold decS
  rw [if_pos (encN_len n0 n1 n2 n3 n4 n5 n6 n7 n8 n9 n10 n11 n12), enc_one n0 n1 n2 n3 n4 n5 n6 n7 n8 n9 n10 n11 n12 (by omega), enc_two n0 n1 n2 n3 n4 n5 n6 n7 n8 n9 n10 n11 n12 (by omega)]
  rw [show numN (encN n0 n1 n2 n3 n4 n5 n6 n7 n8 n9 n10 n11 n12) 4 4 = n2 from enc_four n0 n1 n2 n3 n4 n5 n6 n7 n8 n9 n10 n11 n12 0 (by simp) (by show n2 < 4294967296; omega), show numN (encN n0 n1 n2 n3 n4 n5 n6 n7 n8 n9 n10 n11 n12) 8 4 = n3 from enc_four n0 n1 n2 n3 n4 n5 n6 n7 n8 n9 n10 n11 n12 1 (by simp) (by show n3 < 4294967296; omega), show numN (encN n0 n1 n2 n3 n4 n5 n6 n7 n8 n9 n10 n11 n12) 12 4 = n4 from enc_four n0 n1 n2 n3 n4 n5 n6 n7 n8 n9 n10 n11 n12 2 (by simp) (by show n4 < 4294967296; omega), show numN (encN n0 n1 n2 n3 n4 n5 n6 n7 n8 n9 n10 n11 n12) 16 4 = n5 from enc_four n0 n1 n2 n3 n4 n5 n6 n7 n8 n9 n10 n11 n12 3 (by simp) (by show n5 < 4294967296; omega), show numN (encN n0 n1 n2 n3 n4 n5 n6 n7 n8 n9 n10 n11 n12) 20 4 = n6 from enc_four n0 n1 n2 n3 n4 n5 n6 n7 n8 n9 n10 n11 n12 4 (by simp) (by show n6 < 4294967296; omega), show numN (encN n0 n1 n2 n3 n4 n5 n6 n7 n8 n9 n10 n11 n12) 24 4 = n7 from enc_four n0 n1 n2 n3 n4 n5 n6 n7 n8 n9 n10 n11 n12 5 (by simp) (by show n7 < 4294967296; omega), show numN (encN n0 n1 n2 n3 n4 n5 n6 n7 n8 n9 n10 n11 n12) 28 4 = n8 from enc_four n0 n1 n2 n3 n4 n5 n6 n7 n8 n9 n10 n11 n12 6 (by simp) (by show n8 < 4294967296; omega), show numN (encN n0 n1 n2 n3 n4 n5 n6 n7 n8 n9 n10 n11 n12) 32 4 = n9 from enc_four n0 n1 n2 n3 n4 n5 n6 n7 n8 n9 n10 n11 n12 7 (by simp) (by show n9 < 4294967296; omega), show numN (encN n0 n1 n2 n3 n4 n5 n6 n7 n8 n9 n10 n11 n12) 36 4 = n10 from enc_four n0 n1 n2 n3 n4 n5 n6 n7 n8 n9 n10 n11 n12 8 (by simp) (by show n10 < 4294967296; omega), show numN (encN n0 n1 n2 n3 n4 n5 n6 n7 n8 n9 n10 n11 n12) 40 4 = n11 from enc_four n0 n1 n2 n3 n4 n5 n6 n7 n8 n9 n10 n11 n12 9 (by simp) (by show n11 < 4294967296; omega), show numN (encN n0 n1 n2 n3 n4 n5 n6 n7 n8 n9 n10 n11 n12) 44 4 = n12 from enc_four n0 n1 n2 n3 n4 n5 n6 n7 n8 n9 n10 n11 n12 10 (by simp) (by show n12 < 4294967296; omega)]
  unfold decE
  rw [if_pos h, if_pos]
  unfold Is encS
  rw [if_pos hk]
  rfl
theorem dec_cases (b : List Nat) (hb : ∀ x ∈ b, x < 256) : decS b = bad ∨ ∃ a0 a1 a2 a3 a4 a5 a6 a7 a8 a9 a10 a11 a12 : Int, decS b = (a0, a1, a2, a3, a4, a5, a6, a7, a8, a9, a10, a11, a12, 0) ∧ (encS a0 a1 a2 a3 a4 a5 a6 a7 a8 a9 a10 a11 a12).2 = 0 ∧ Is (encS a0 a1 a2 a3 a4 a5 a6 a7 a8 a9 a10 a11 a12).1 b ∧ fits13 a0 a1 a2 a3 a4 a5 a6 a7 a8 a9 a10 a11 a12 = true := by
  unfold decS
  by_cases h : b.length = 64
  · rw [if_pos h]
    unfold decE
    split
    · rename_i h1
      split
      · rename_i h2
        exact .inr ⟨_, _, _, _, _, _, _, _, _, _, _, _, _, rfl, h1, h2, fits_nums b hb⟩
      · exact .inl rfl
    · exact .inl rfl
  · rw [if_neg h]
    exact .inl rfl
theorem back_j0 (b : List Nat) (hb : ∀ x ∈ b, x < 256) : Ev (fun k => ashlarlaw13_InodeBack.j0 k (O b) ((decS b).2.2.2.2.2.2.2.2.2.2.2.2.2) false ((decS b).1) ((decS b).2.1) ((decS b).2.2.1) ((decS b).2.2.2.1) ((decS b).2.2.2.2.1) ((decS b).2.2.2.2.2.1) ((decS b).2.2.2.2.2.2.1) ((decS b).2.2.2.2.2.2.2.1) ((decS b).2.2.2.2.2.2.2.2.1) ((decS b).2.2.2.2.2.2.2.2.2.1) ((decS b).2.2.2.2.2.2.2.2.2.2.1) ((decS b).2.2.2.2.2.2.2.2.2.2.2.1) ((decS b).2.2.2.2.2.2.2.2.2.2.2.2.1)) true := by
  refine Ev.head ?_
  simp only [ashlarlaw13_InodeBack.j0]
  refine Ev.neg (by simp) ?_
  rcases dec_cases b hb with h | ⟨a0, a1, a2, a3, a4, a5, a6, a7, a8, a9, a10, a11, a12, h, h1, h2, h3⟩
  · rw [h]
    exact Ev.neg (by decide) (Ev.val rfl)
  · rw [h]
    refine Ev.pos rfl (Ev.bind (ev_enc a0 a1 a2 a3 a4 a5 a6 a7 a8 a9 a10 a11 a12 h3) (Ev.pos h1 (Ev.val ?_)))
    exact beq_iff_eq.mpr h2
theorem inodeBack_pure (a0 : Int) (a1 : Int) (a2 : Int) (a3 : Int) (a4 : Int) (a5 : Int) (a6 : Int) (a7 : Int) (a8 : Int) (a9 : Int) (a10 : Int) (a11 : Int) (a12 : Int) (l : List Int) (hfit : fits13 a0 a1 a2 a3 a4 a5 a6 a7 a8 a9 a10 a11 a12 = true) (hl : l.length * 1 ≤ 140737488351232) (hw : ∀ x ∈ l, (Lit.int .u8 x).wf = true) : ∃ k, ashlarlaw13_InodeBack.f k a0 a1 a2 a3 a4 a5 a6 a7 a8 a9 a10 a11 a12 l = some true := by
  obtain ⟨b, rfl, hb, _⟩ := octs_of hw
  refine Ev.rounds (g := fun k => ashlarlaw13_InodeBack.f k a0 a1 a2 a3 a4 a5 a6 a7 a8 a9 a10 a11 a12 (O b)) ?_
  unfold ashlarlaw13_InodeBack.f
  refine Ev.bind (ev_enc a0 a1 a2 a3 a4 a5 a6 a7 a8 a9 a10 a11 a12 hfit) (Ev.bind (ev_dec b hb) (Ev.bind (Ev.now _) (Ev.pos rfl ?_)))
  by_cases h : (encS a0 a1 a2 a3 a4 a5 a6 a7 a8 a9 a10 a11 a12).2 = 0
  · refine Ev.pos h ?_
    obtain ⟨c, e1, hc, e2⟩ := dec_enc h
    rw [e1]
    refine Ev.bind (ev_dec c hc) ?_
    rw [e2]
    refine Ev.pos rfl ?_
    simp only [beq_self_eq_true, Bool.not_true, Bool.or_self]
    exact back_j0 b hb
  · refine Ev.neg h ?_
    rcases dec_cases b hb with g | ⟨v0, v1, v2, v3, v4, v5, v6, v7, v8, v9, v10, v11, v12, g, h1, h2, h3⟩
    · rw [g]
      exact Ev.neg (by decide) (Ev.val rfl)
    · rw [g]
      refine Ev.pos rfl (Ev.bind (ev_enc _ _ _ _ _ _ _ _ _ _ _ _ _ h3) (Ev.pos h1 (Ev.val ?_)))
      exact beq_iff_eq.mpr h2
theorem inodeBack_walk (a0 : Int) (a1 : Int) (a2 : Int) (a3 : Int) (a4 : Int) (a5 : Int) (a6 : Int) (a7 : Int) (a8 : Int) (a9 : Int) (a10 : Int) (a11 : Int) (a12 : Int) (A1 : Option Addr) (c1 : Nat) (l : List Int) (w : World) (hfit : fits13 a0 a1 a2 a3 a4 a5 a6 a7 a8 a9 a10 a11 a12 = true) (hl : l.length * 1 ≤ 140737488351232) (hw : ∀ x ∈ l, (Lit.int .u8 x).wf = true) (hr : Kd.C (Kd.int .u8) w A1 l.length l) (hc : l.length ≤ c1) :
    Calls Tryz.prog 4 #[.agg #[.int .i64 a0, .int .i64 a1, .int .i64 a2, .int .i64 a3, .int .i64 a4, .int .i64 a5, .int .i64 a6, .int .i64 a7, .int .i64 a8, .int .i64 a9, .int .i64 a10, .int .i64 a11, .int .i64 a12], .slice A1 l.length c1] w fun e w' => e = .returned (.bool true) ∧ Below w.heap.size w w' := by
  obtain ⟨k, h⟩ := inodeBack_pure a0 a1 a2 a3 a4 a5 a6 a7 a8 a9 a10 a11 a12 l hfit hl hw
  exact ashlarlaw13_InodeBack.calls k a0 a1 a2 a3 a4 a5 a6 a7 a8 a9 a10 a11 a12 A1 c1 l true w hr hc h rfl
end Go.Proofs.YtjgjcfeifhaanaaGreat.PQ
