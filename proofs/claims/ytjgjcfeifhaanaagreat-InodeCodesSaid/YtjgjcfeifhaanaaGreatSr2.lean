/-
  The plain law, part 2: a file's bytes, by the program and by the reference.
-/
import Derived.Test.YtjgjcfeifhaanaaGreatSr1
import Derived.Test.YtjgjcfeifhaanaaGreatPe
set_option linter.unusedVariables false
namespace Go.Proofs.YtjgjcfeifhaanaaGreat.PQ
open Go.RowKit Go.Proofs.YtjgjcfeifhaanaaGreatW.PrintWords Go.Proofs.YtjgjcfeifhaanaaGreatW.PrintLast Go.Proofs.YtjgjcfeifhaanaaGreatW.PrintMore
open Go.Proofs.YtjgjcfeifhaanaaGreat.Am (putL getL lo64 hi64)
open Go.Proofs.YtjgjcfeifhaanaaGreat.Run (putF_ok getF_ok putL_length rd_at getL_snoc)
def fours (l : List Nat) : List Nat := l.flatMap (fun x => putL x 4)
theorem fours_cons (x : Nat) (l : List Nat) : fours (x :: l) = putL x 4 ++ fours l := rfl
def encN (n0 n1 n2 n3 n4 n5 n6 n7 n8 n9 n10 n11 n12 : Nat) : List Nat := [n0 % 256, 0] ++ putL n1 2 ++ fours [n2, n3, n4, n5, n6, n7, n8, n9, n10, n11, n12] ++ List.replicate 16 0
theorem evT_cut {i : Nat} {m : Int} {x y : Tr} {v : List Int} (h : evT (.cut i m x y) v = true) : (v.getD i 0 ≤ m ∧ evT x v = true) ∨ (m < v.getD i 0 ∧ evT y v = true) := by
  unfold evT at h
  by_cases hm : v.getD i 0 ≤ m
  · rw [if_pos hm] at h; exact .inl ⟨hm, h⟩
  · rw [if_neg hm] at h; exact .inr ⟨by omega, h⟩
theorem evT_two {i : Nat} {a b : Int} {x : Tr} {v : List Int} (h : evT (.cut i (a - 1) fT (.cut i b x fT)) v = true) : a ≤ v.getD i 0 ∧ v.getD i 0 ≤ b ∧ evT x v = true := by
  rcases evT_cut h with ⟨_, h⟩ | ⟨h1, h⟩
  · cases h
  rcases evT_cut h with ⟨h2, h⟩ | ⟨_, h⟩
  · exact ⟨by omega, h2, h⟩
  · cases h
theorem evT_R {x : Tr} {v : List Int} : ∀ {l : List Nat}, evT (tR x l) v = true → (∀ i ∈ l, 0 ≤ v.getD i 0 ∧ v.getD i 0 ≤ 65535) ∧ evT x v = true
  | [], h => ⟨fun i hi => (by cases hi), h⟩
  | i :: l, h => by
    obtain ⟨h1, h2, h3⟩ := evT_two (a := 0) h
    obtain ⟨h4, h5⟩ := evT_R h3
    refine ⟨fun j hj => ?_, h5⟩
    rcases List.mem_cons.1 hj with rfl | hj
    · exact ⟨h1, h2⟩
    · exact h4 j hj
theorem evT_RF {v : List Int} : ∀ {l : List Nat}, evT (tR fT l) v = true → False
  | l, h => by
    have h2 := (evT_R h).2
    cases h2
theorem evT_Z {v : List Int} : ∀ {l : List Nat}, evT (tZ l) v = true → ∀ i ∈ l, 0 ≤ v.getD i 0 ∧ v.getD i 0 ≤ 65535
  | [], _, i, hi => by cases hi
  | i :: l, h, j, hj => by
    rcases evT_cut h with ⟨_, h⟩ | ⟨h1, h⟩
    · cases h
    rcases evT_cut h with ⟨h2, h⟩ | ⟨_, h⟩
    · rcases List.mem_cons.1 hj with rfl | hj
      · exact ⟨by omega, by omega⟩
      · exact evT_Z h j hj
    · rcases evT_cut h with ⟨_, h⟩ | ⟨_, h⟩
      · exact (evT_RF h).elim
      · cases h
theorem ok_rng {a0 a1 a2 a3 a4 a5 a6 a7 a8 a9 a10 a11 a12 : Int} (h : inodeOk a0 a1 a2 a3 a4 a5 a6 a7 a8 a9 a10 a11 a12 = true) : (0 ≤ a0 ∧ a0 ≤ 2) ∧ (0 ≤ a1 ∧ a1 ≤ 200) ∧ (0 ≤ a2 ∧ a2 ≤ 136192) ∧ (0 ≤ a3 ∧ a3 ≤ 65535) ∧ (0 ≤ a4 ∧ a4 ≤ 65535) ∧ (0 ≤ a5 ∧ a5 ≤ 65535) ∧ (0 ≤ a6 ∧ a6 ≤ 65535) ∧ (0 ≤ a7 ∧ a7 ≤ 65535) ∧ (0 ≤ a8 ∧ a8 ≤ 65535) ∧ (0 ≤ a9 ∧ a9 ≤ 65535) ∧ (0 ≤ a10 ∧ a10 ≤ 65535) ∧ (0 ≤ a11 ∧ a11 ≤ 65535) ∧ (0 ≤ a12 ∧ a12 ≤ 65535) := by
  unfold inodeOk tI at h
  obtain ⟨p1, p2, h⟩ := evT_two (a := 0) h
  obtain ⟨p3, p4, h⟩ := evT_two (a := 0) h
  obtain ⟨p5, p6, h⟩ := evT_two (a := 0) h
  have key : ∀ i ∈ l10, 0 ≤ [a0, a1, a2, a3, a4, a5, a6, a7, a8, a9, a10, a11, a12].getD i 0 ∧ [a0, a1, a2, a3, a4, a5, a6, a7, a8, a9, a10, a11, a12].getD i 0 ≤ 65535 := by
    unfold t1 at h
    rcases evT_cut h with ⟨_, h⟩ | ⟨_, h⟩
    · unfold t0 at h
      rcases evT_cut h with ⟨_, h⟩ | ⟨_, h⟩
      · rcases evT_cut h with ⟨_, h⟩ | ⟨_, h⟩
        · exact evT_Z h
        · exact (evT_RF h).elim
      · exact (evT_RF h).elim
    · exact (evT_R h).1
  exact ⟨⟨p1, p2⟩, ⟨p3, p4⟩, ⟨p5, p6⟩, key 3 (by decide), key 4 (by decide), key 5 (by decide), key 6 (by decide), key 7 (by decide), key 8 (by decide), key 9 (by decide), key 10 (by decide), key 11 (by decide), key 12 (by decide)⟩
theorem fits_of {x : Int} (h0 : -9223372036854775808 ≤ x) (h1 : x ≤ 9223372036854775807) : fits x = true := by
  unfold fits
  have e1 : lo64 = -9223372036854775808 := by decide
  have e2 : hi64 = 9223372036854775807 := by decide
  rw [e1, e2]
  simp [h0, h1]
noncomputable def encS (a0 : Int) (a1 : Int) (a2 : Int) (a3 : Int) (a4 : Int) (a5 : Int) (a6 : Int) (a7 : Int) (a8 : Int) (a9 : Int) (a10 : Int) (a11 : Int) (a12 : Int) : List Int × Int := if inodeOk a0 a1 a2 a3 a4 a5 a6 a7 a8 a9 a10 a11 a12 = true then (O (encN a0.toNat a1.toNat a2.toNat a3.toNat a4.toNat a5.toNat a6.toNat a7.toNat a8.toNat a9.toNat a10.toNat a11.toNat a12.toNat), 0) else ([], 1)
theorem enc_l0 (fs : List Nat) (hf : ∀ x ∈ fs, x < 4294967296) (hfl : fs.length ≤ 11) : ∀ (m i : Nat) (b : List Nat), i + m = fs.length → b.length + 4 * m = 48 →
    Ev (fun k => inode_Encode.l0 k (O b) (O fs) (fs.length : Int) (i : Int)) (O (b ++ fours (fs.drop i) ++ List.replicate 16 0), 0)
  | 0, i, b, hi, hl => by
    refine Ev.head ?_
    simp only [inode_Encode.l0]
    refine Ev.neg (by omega) ?_
    have hw : wrap64 (64 - ((O b).length : Int)) = ((16 : Nat) : Int) := by rw [O_len, w64 _ (by omega) (by omega)]; omega
    rw [hw]
    have hd : fs.drop i = [] := List.drop_eq_nil_of_le (by omega)
    rw [hd, show fours [] = [] from rfl, List.append_nil]
    refine Ev.pos (by omega) (Ev.pos (by rw [O_len]; omega) (Ev.val ?_))
    rw [O_app, O_rep]
    rfl
  | m + 1, i, b, hi, hl => by
    have hlt : i < fs.length := by omega
    refine Ev.head ?_
    simp only [inode_Encode.l0]
    refine Ev.pos (by omega) (Ev.pos (by omega) (Ev.pos (by rw [O_len]; omega) ?_))
    have hx := hf _ (List.getElem_mem hlt)
    have hr : rd (O fs) (i : Int) = ((fs[i] : Nat) : Int) := rd_at fs i hlt
    rw [hr, u64w _ (by omega) (by omega)]
    refine Ev.bind (ev_put (n := 4) (by decide) (by decide) (by simpa using hx)) ?_
    refine Ev.pos (by simp only [O_len, putL_length]; omega) ?_
    rw [w64 ((i : Int) + 1) (by omega) (by omega), ← O_app]
    have := enc_l0 fs hf hfl m (i + 1) (b ++ putL fs[i] 4) (by omega) (by rw [List.length_append, putL_length]; omega)
    rw [List.drop_eq_getElem_cons hlt, fours_cons, ← List.append_assoc]
    exact this
theorem ev_enc (a0 : Int) (a1 : Int) (a2 : Int) (a3 : Int) (a4 : Int) (a5 : Int) (a6 : Int) (a7 : Int) (a8 : Int) (a9 : Int) (a10 : Int) (a11 : Int) (a12 : Int) (hfit : fits13 a0 a1 a2 a3 a4 a5 a6 a7 a8 a9 a10 a11 a12 = true) : Ev (fun k => inode_Encode.f k a0 a1 a2 a3 a4 a5 a6 a7 a8 a9 a10 a11 a12) (encS a0 a1 a2 a3 a4 a5 a6 a7 a8 a9 a10 a11 a12) := by
  unfold inode_Encode.f encS inode_may.f
  rw [if_pos hfit]
  refine Ev.bind (Ev.now _) ?_
  by_cases hk : inodeOk a0 a1 a2 a3 a4 a5 a6 a7 a8 a9 a10 a11 a12 = true
  · rw [if_pos hk]
    refine Ev.pos hk ?_
    obtain ⟨⟨p0, q0⟩, ⟨p1, q1⟩, ⟨p2, q2⟩, ⟨p3, q3⟩, ⟨p4, q4⟩, ⟨p5, q5⟩, ⟨p6, q6⟩, ⟨p7, q7⟩, ⟨p8, q8⟩, ⟨p9, q9⟩, ⟨p10, q10⟩, ⟨p11, q11⟩, ⟨p12, q12⟩⟩ := ok_rng hk
    obtain ⟨n0, rfl⟩ := nat_of p0
    obtain ⟨n1, rfl⟩ := nat_of p1
    obtain ⟨n2, rfl⟩ := nat_of p2
    obtain ⟨n3, rfl⟩ := nat_of p3
    obtain ⟨n4, rfl⟩ := nat_of p4
    obtain ⟨n5, rfl⟩ := nat_of p5
    obtain ⟨n6, rfl⟩ := nat_of p6
    obtain ⟨n7, rfl⟩ := nat_of p7
    obtain ⟨n8, rfl⟩ := nat_of p8
    obtain ⟨n9, rfl⟩ := nat_of p9
    obtain ⟨n10, rfl⟩ := nat_of p10
    obtain ⟨n11, rfl⟩ := nat_of p11
    obtain ⟨n12, rfl⟩ := nat_of p12
    refine Ev.bind (Ev.now _) (Ev.bind (Ev.now _) (Ev.pos (by simp) (Ev.bind (Ev.now _) ?_)))
    have e1 : ([((n2 : Nat) : Int), ((n3 : Nat) : Int), ((n4 : Nat) : Int), ((n5 : Nat) : Int), ((n6 : Nat) : Int), ((n7 : Nat) : Int), ((n8 : Nat) : Int), ((n9 : Nat) : Int), ((n10 : Nat) : Int)] ++ [((n11 : Nat) : Int), ((n12 : Nat) : Int)] : List Int) = O [n2, n3, n4, n5, n6, n7, n8, n9, n10, n11, n12] := rfl
    have e2 : ([((n0 : Nat) : Int) % 256, 0, ((n1 : Nat) : Int) % 256, (((n1 : Nat) : Int) / 256) % 256] : List Int) = O ([n0 % 256, 0] ++ putL n1 2) := by
      rw [O_app, putL_leb]
      simp only [O, leb, List.map_cons, List.map_nil, List.cons_append, List.nil_append]
      rfl
    rw [e1, e2]
    have := enc_l0 [n2, n3, n4, n5, n6, n7, n8, n9, n10, n11, n12] (by intro x hx; simp only [List.mem_cons, List.not_mem_nil, or_false] at hx; omega) (by simp) 11 0 ([n0 % 256, 0] ++ putL n1 2) rfl (by simp only [List.length_append, putL_length, List.length_cons, List.length_nil])
    exact this
  · rw [if_neg hk]
    exact Ev.neg hk (Ev.val rfl)
end Go.Proofs.YtjgjcfeifhaanaaGreat.PQ
