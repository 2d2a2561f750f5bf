/-
  The plain law, part 3: a file's bytes by the reference; the file that bytes are, by both.
-/
import Derived.Test.YtjgjcfeifhaanaaGreatSr2
import Derived.Test.YtjgjcfeifhaanaaGreatPt
import Derived.Test.YtjgjcfeifhaanaaGreatPv
set_option linter.unusedVariables false
namespace Go.Proofs.YtjgjcfeifhaanaaGreat.PQ
open Go.RowKit Go.Proofs.YtjgjcfeifhaanaaGreatW.PrintWords Go.Proofs.YtjgjcfeifhaanaaGreatW.PrintLast Go.Proofs.YtjgjcfeifhaanaaGreatW.PrintMore
open Go.Proofs.YtjgjcfeifhaanaaGreat.Am (putL getL lo64 hi64)
open Go.Proofs.YtjgjcfeifhaanaaGreat.Run (putF_ok getF_ok putL_length rd_at getL_snoc)
theorem ev_rput (b : List Nat) (n x : Nat) (h1 : 1 ≤ n) (h8 : n ≤ 8) (hx : x < 256 ^ n) (hx2 : x < 18446744073709551616) (hb : b.length ≤ 1000) : Ev (fun k => ashlarref13_put.f k (O b) (x : Int) (n : Int)) (O (b ++ putL x n)) := by
  unfold ashlarref13_put.f
  rw [u64w _ (by omega) (by omega)]
  refine Ev.bind (refPut h1 h8 hx) ?_
  rw [← putL_leb, O_app]
  exact Ev.pos (by simp only [O_len, putL_length]; omega) (Ev.val rfl)
theorem renc_l1 : ∀ (m : Nat) (b : List Nat), b.length + m = 64 → Ev (fun k => ashlarref13_Encode.l1 k (O b)) (O (b ++ List.replicate m 0), 0)
  | 0, b, h => by
    refine Ev.head ?_
    simp only [ashlarref13_Encode.l1]
    exact Ev.neg (by rw [O_len]; omega) (Ev.val (by simp))
  | m + 1, b, h => by
    refine Ev.head ?_
    simp only [ashlarref13_Encode.l1]
    refine Ev.pos (by rw [O_len]; omega) (Ev.pos (by rw [O_len]; omega) ?_)
    have ih := renc_l1 m (b ++ [0]) (by simp; omega)
    rw [O_app b, List.append_assoc] at ih
    rw [List.replicate_succ]
    exact ih
theorem renc_l0 (n0 n1 n2 n3 n4 n5 n6 n7 n8 n9 n10 n11 n12 : Nat) (hs : n11 < 4294967296) (hd : n12 < 4294967296) (hf : ∀ x ∈ [n3, n4, n5, n6, n7, n8, n9, n10], x < 4294967296) : ∀ (m i : Nat) (b : List Nat), i + m = 8 → b.length + 4 * m = 40 →
    Ev (fun k => ashlarref13_Encode.l0 k (O b) (i : Int) ((n0 : Nat) : Int) ((n1 : Nat) : Int) ((n2 : Nat) : Int) ((n3 : Nat) : Int) ((n4 : Nat) : Int) ((n5 : Nat) : Int) ((n6 : Nat) : Int) ((n7 : Nat) : Int) ((n8 : Nat) : Int) ((n9 : Nat) : Int) ((n10 : Nat) : Int) ((n11 : Nat) : Int) ((n12 : Nat) : Int)) (O (b ++ fours (([n3, n4, n5, n6, n7, n8, n9, n10] ++ [n11, n12]).drop i) ++ List.replicate 16 0), 0)
  | 0, i, b, hi, hl => by
    refine Ev.head ?_
    simp only [ashlarref13_Encode.l0]
    refine Ev.neg (by omega) ?_
    refine Ev.bind (ev_rput b 4 n11 (by decide) (by decide) (by simpa using hs) (by omega) (by omega)) ?_
    refine Ev.bind (ev_rput (b ++ putL n11 4) 4 n12 (by decide) (by decide) (by simpa using hd) (by omega) (by rw [List.length_append, putL_length]; omega)) ?_
    have := renc_l1 16 (b ++ putL n11 4 ++ putL n12 4) (by simp only [List.length_append, putL_length]; omega)
    have hi8 : i = 8 := by omega
    subst hi8
    have e : ([n3, n4, n5, n6, n7, n8, n9, n10] ++ [n11, n12]).drop 8 = [n11, n12] := rfl
    rw [e, fours_cons, fours_cons, show fours [] = [] from rfl, List.append_nil, ← List.append_assoc]
    exact this
  | m + 1, i, b, hi, hl => by
    have hlt : i < [n3, n4, n5, n6, n7, n8, n9, n10].length := by simp; omega
    refine Ev.head ?_
    simp only [ashlarref13_Encode.l0]
    refine Ev.pos (by omega) (Ev.pos (by omega) ?_)
    have hx := hf _ (List.getElem_mem hlt)
    have hr : rd (O [n3, n4, n5, n6, n7, n8, n9, n10]) (i : Int) = (([n3, n4, n5, n6, n7, n8, n9, n10][i] : Nat) : Int) := rd_at [n3, n4, n5, n6, n7, n8, n9, n10] i hlt
    have hr2 : rd [((n3 : Nat) : Int), ((n4 : Nat) : Int), ((n5 : Nat) : Int), ((n6 : Nat) : Int), ((n7 : Nat) : Int), ((n8 : Nat) : Int), ((n9 : Nat) : Int), ((n10 : Nat) : Int)] (i : Int) = (([n3, n4, n5, n6, n7, n8, n9, n10][i] : Nat) : Int) := hr
    rw [hr2]
    refine Ev.bind (ev_rput b 4 _ (by decide) (by decide) (by simpa using hx) (by omega) (by omega)) ?_
    rw [w64 ((i : Int) + 1) (by omega) (by omega)]
    have := renc_l0 n0 n1 n2 n3 n4 n5 n6 n7 n8 n9 n10 n11 n12 hs hd hf m (i + 1) (b ++ putL [n3, n4, n5, n6, n7, n8, n9, n10][i] 4) (by omega) (by rw [List.length_append, putL_length]; omega)
    have hlt2 : i < ([n3, n4, n5, n6, n7, n8, n9, n10] ++ [n11, n12]).length := by rw [List.length_append]; omega
    have e2 : ([n3, n4, n5, n6, n7, n8, n9, n10] ++ [n11, n12])[i] = [n3, n4, n5, n6, n7, n8, n9, n10][i] := List.getElem_append_left hlt
    rw [List.drop_eq_getElem_cons hlt2, fours_cons, ← List.append_assoc, e2]
    exact this
theorem ev_renc (a0 : Int) (a1 : Int) (a2 : Int) (a3 : Int) (a4 : Int) (a5 : Int) (a6 : Int) (a7 : Int) (a8 : Int) (a9 : Int) (a10 : Int) (a11 : Int) (a12 : Int) (hfit : fits13 a0 a1 a2 a3 a4 a5 a6 a7 a8 a9 a10 a11 a12 = true) : Ev (fun k => ashlarref13_Encode.f k a0 a1 a2 a3 a4 a5 a6 a7 a8 a9 a10 a11 a12) (encS a0 a1 a2 a3 a4 a5 a6 a7 a8 a9 a10 a11 a12) := by
  unfold ashlarref13_Encode.f encS ashlarref13_May.f
  rw [if_pos hfit]
  refine Ev.bind (Ev.now _) ?_
  by_cases hk : inodeOk a0 a1 a2 a3 a4 a5 a6 a7 a8 a9 a10 a11 a12 = true
  · rw [if_pos hk]
    refine Ev.pos hk ?_
    obtain ⟨⟨p0, q0⟩, ⟨p1, q1⟩, ⟨p2, q2⟩, ⟨p3, q3⟩, ⟨p4, q4⟩, ⟨p5, q5⟩, ⟨p6, q6⟩, ⟨p7, q7⟩, ⟨p8, q8⟩, ⟨p9, q9⟩, ⟨p10, q10⟩, ⟨p11, q11⟩, ⟨p12, q12⟩⟩ := ok_rng hk
    obtain ⟨n0, rfl⟩ := nat_of p0
    obtain ⟨n1, rfl⟩ := nat_of p1
    obtain ⟨n2, rfl⟩ := nat_of p2
    obtain ⟨n3, rfl⟩ := nat_of p3
    obtain ⟨n4, rfl⟩ := nat_of p4
    obtain ⟨n5, rfl⟩ := nat_of p5
    obtain ⟨n6, rfl⟩ := nat_of p6
    obtain ⟨n7, rfl⟩ := nat_of p7
    obtain ⟨n8, rfl⟩ := nat_of p8
    obtain ⟨n9, rfl⟩ := nat_of p9
    obtain ⟨n10, rfl⟩ := nat_of p10
    obtain ⟨n11, rfl⟩ := nat_of p11
    obtain ⟨n12, rfl⟩ := nat_of p12
    have e2 : ([((n0 : Nat) : Int) % 256, 0] : List Int) = O [n0 % 256, 0] := rfl
    rw [e2]
    refine Ev.bind (ev_rput _ 2 n1 (by decide) (by decide) (by omega) (by omega) (by simp)) ?_
    refine Ev.bind (ev_rput _ 4 n2 (by decide) (by decide) (by omega) (by omega) (by simp only [List.length_append, putL_length, List.length_cons, List.length_nil]; omega)) ?_
    have := renc_l0 n0 n1 n2 n3 n4 n5 n6 n7 n8 n9 n10 n11 n12 (by omega) (by omega) (by intro x hx; simp only [List.mem_cons, List.not_mem_nil, or_false] at hx; omega) 8 0 ([n0 % 256, 0] ++ putL n1 2 ++ putL n2 4) rfl (by simp only [List.length_append, putL_length, List.length_cons, List.length_nil])
    have e3 : ([n0 % 256, 0] ++ putL n1 2 ++ putL n2 4) ++ fours (([n3, n4, n5, n6, n7, n8, n9, n10] ++ [n11, n12]).drop 0) ++ List.replicate 16 0 = encN n0 n1 n2 n3 n4 n5 n6 n7 n8 n9 n10 n11 n12 := by
      unfold encN
      rw [fours_cons n2, ← List.append_assoc ([n0 % 256, 0] ++ putL n1 2)]
      rfl
    rw [e3] at this
    exact this
  · rw [if_neg hk]
    exact Ev.neg hk (Ev.val rfl)
theorem ev_get (b : List Nat) (hb : ∀ x ∈ b, x < 256) (h : b.length = 64) (k n : Nat) (h1 : 1 ≤ n) (h8 : n ≤ 8) (hk : k + n ≤ 64) : Ev (fun f => octets_Get.f f (O b) (k : Int) (n : Int)) (((numN b k n : Nat) : Int), 0) :=
  Ev.of (fun f => octets_Get.mono _ _ _ f) (getF_ok b k n hb (by omega) h1 h8 (by omega))
theorem num_lt (b : List Nat) (hb : ∀ x ∈ b, x < 256) (k : Nat) : numN b k 4 < 4294967296 := by
  have := numN_lt b hb k 4
  simpa using this
theorem ev_rnum (b : List Nat) (hb : ∀ x ∈ b, x < 256) (h : b.length = 64) (k n : Nat) (h1 : 1 ≤ n) (h8 : n ≤ 4) (hk : k + n ≤ 64) : Ev (fun f => ashlarref13_number.f f (O b) (k : Int) (n : Int)) ((numN b k n : Nat) : Int) := by
  unfold ashlarref13_number.f
  refine Ev.bind (ev_rget b hb (by omega) k n h1 (by omega) (by omega)) (Ev.val ?_)
  have h2 := numN_lt b hb k n
  have h3 : 256 ^ n ≤ 256 ^ 4 := Nat.pow_le_pow_right (by decide) h8
  have h4 : (256 : Nat) ^ 4 = 4294967296 := by decide
  exact w64 _ (by omega) (by omega)
abbrev Dec := Int × Int × Int × Int × Int × Int × Int × Int × Int × Int × Int × Int × Int × Int
def bad : Dec := (0, 0, 0, 0, 0, 0, 0, 0, 0, 0, 0, 0, 0, 8)
noncomputable def Is (c : List Int) (b : List Nat) : Prop := (strOfNums c).toList = (strOfNums (O b)).toList
noncomputable instance (c : List Int) (b : List Nat) : Decidable (Is c b) := inferInstanceAs (Decidable (_ = _))
noncomputable def decE (b : List Nat) (a0 : Int) (a1 : Int) (a2 : Int) (a3 : Int) (a4 : Int) (a5 : Int) (a6 : Int) (a7 : Int) (a8 : Int) (a9 : Int) (a10 : Int) (a11 : Int) (a12 : Int) : Dec := if (encS a0 a1 a2 a3 a4 a5 a6 a7 a8 a9 a10 a11 a12).2 = 0 then (if Is (encS a0 a1 a2 a3 a4 a5 a6 a7 a8 a9 a10 a11 a12).1 b then (a0, a1, a2, a3, a4, a5, a6, a7, a8, a9, a10, a11, a12, 0) else bad) else bad
noncomputable def decS (b : List Nat) : Dec := if b.length = 64 then decE b ((numN b 0 1 : Nat) : Int) ((numN b 2 2 : Nat) : Int) ((numN b 4 4 : Nat) : Int) ((numN b 8 4 : Nat) : Int) ((numN b 12 4 : Nat) : Int) ((numN b 16 4 : Nat) : Int) ((numN b 20 4 : Nat) : Int) ((numN b 24 4 : Nat) : Int) ((numN b 28 4 : Nat) : Int) ((numN b 32 4 : Nat) : Int) ((numN b 36 4 : Nat) : Int) ((numN b 40 4 : Nat) : Int) ((numN b 44 4 : Nat) : Int) else bad
theorem ev_two {α : Type} {c d : Prop} [Decidable c] [Decidable d] (x y : α) : Ev (fun _ : Nat => if c then (if d then some x else some y) else some y) (if c then (if d then x else y) else y) := by
  by_cases hc : c <;> by_cases hd : d <;> simp only [hc, hd, if_true, if_false] <;> exact Ev.now _
noncomputable def vec (b : List Nat) (s i j : Nat) : Int := if j < i then ((numN b (s + 4 * j) 4 : Nat) : Int) else 0
theorem vec_step (b : List Nat) (s i j : Nat) (q : Int) (hq : q = (j : Int)) : (if (i : Int) = q then ((numN b (s + 4 * i) 4 : Nat) : Int) else vec b s i j) = vec b s (i + 1) j := by
  subst hq
  unfold vec
  by_cases h : i = j
  · subst h
    rw [if_pos rfl, if_pos (by omega)]
  · rw [if_neg (by omega)]
    by_cases h2 : j < i
    · rw [if_pos h2, if_pos (by omega)]
    · rw [if_neg h2, if_neg (by omega)]
theorem numN_one (b : List Nat) (h : 0 < b.length) : numN b 0 1 = b.getD 0 0 := by
  cases b with
  | nil => cases h
  | cons x l => rfl
theorem numN_two (b : List Nat) (h : b.length = 64) : numN b 2 2 = b.getD 2 0 + 256 * b.getD 3 0 := by
  match b, h with
  | x :: y :: z :: u :: l, _ =>
    show getL [z, u] = _
    simp [getL]
theorem rd_d (b : List Nat) (i : Nat) (h : i < b.length) : rd (O b) (i : Int) = ((b.getD i 0 : Nat) : Int) := by
  have hr : rd (O b) (i : Int) = ((b[i] : Nat) : Int) := rd_at b i h
  rw [hr, List.getD_eq_getElem?_getD, List.getElem?_eq_getElem h]
  rfl
theorem getD_lt (b : List Nat) (hb : ∀ x ∈ b, x < 256) (i : Nat) (h : i < b.length) : b.getD i 0 < 256 := by
  rw [List.getD_eq_getElem?_getD, List.getElem?_eq_getElem h]
  exact hb _ (List.getElem_mem h)
theorem fits_nums (b : List Nat) (hb : ∀ x ∈ b, x < 256) : fits13 ((numN b 0 1 : Nat) : Int) ((numN b 2 2 : Nat) : Int) ((numN b 4 4 : Nat) : Int) ((numN b 8 4 : Nat) : Int) ((numN b 12 4 : Nat) : Int) ((numN b 16 4 : Nat) : Int) ((numN b 20 4 : Nat) : Int) ((numN b 24 4 : Nat) : Int) ((numN b 28 4 : Nat) : Int) ((numN b 32 4 : Nat) : Int) ((numN b 36 4 : Nat) : Int) ((numN b 40 4 : Nat) : Int) ((numN b 44 4 : Nat) : Int) = true := by
  unfold fits13
  have h4 : ∀ k, fits ((numN b k 4 : Nat) : Int) = true := fun k => by
    have := num_lt b hb k
    exact fits_of (by omega) (by omega)
  have h1 : fits ((numN b 0 1 : Nat) : Int) = true := by
    have := numN_lt b hb 0 1
    exact fits_of (by omega) (by omega)
  have h2 : fits ((numN b 2 2 : Nat) : Int) = true := by
    have := numN_lt b hb 2 2
    exact fits_of (by omega) (by omega)
  simp only [h4, h1, h2, Bool.and_self]
theorem dec_l0 (b : List Nat) (hb : ∀ x ∈ b, x < 256) (h : b.length = 64) : ∀ (m i : Nat), i + m = 11 → Ev (fun k => inode_Decode.l0 k (O b) (i : Int) (vec b 4 i 0) (vec b 4 i 1) (vec b 4 i 2) (vec b 4 i 3) (vec b 4 i 4) (vec b 4 i 5) (vec b 4 i 6) (vec b 4 i 7) (vec b 4 i 8) (vec b 4 i 9) (vec b 4 i 10)) (decE b ((numN b 0 1 : Nat) : Int) ((numN b 2 2 : Nat) : Int) ((numN b 4 4 : Nat) : Int) ((numN b 8 4 : Nat) : Int) ((numN b 12 4 : Nat) : Int) ((numN b 16 4 : Nat) : Int) ((numN b 20 4 : Nat) : Int) ((numN b 24 4 : Nat) : Int) ((numN b 28 4 : Nat) : Int) ((numN b 32 4 : Nat) : Int) ((numN b 36 4 : Nat) : Int) ((numN b 40 4 : Nat) : Int) ((numN b 44 4 : Nat) : Int))
  | 0, i, hi => by
    have hi11 : i = 11 := by omega
    subst hi11
    refine Ev.head ?_
    simp only [inode_Decode.l0]
    refine Ev.neg (by omega) ?_
    refine Ev.pos (by rw [O_len]; omega) (Ev.pos (by rw [O_len]; omega) (Ev.pos (by rw [O_len]; omega) ?_))
    have g0 := getD_lt b hb 0 (by omega)
    have g2 := getD_lt b hb 2 (by omega)
    have g3 := getD_lt b hb 3 (by omega)
    have r0 : rd (O b) 0 = ((b.getD 0 0 : Nat) : Int) := rd_d b 0 (by omega)
    have r2 : rd (O b) 2 = ((b.getD 2 0 : Nat) : Int) := rd_d b 2 (by omega)
    have r3 : rd (O b) 3 = ((b.getD 3 0 : Nat) : Int) := rd_d b 3 (by omega)
    have e0 : wrap64 (rd (O b) 0) = ((numN b 0 1 : Nat) : Int) := by rw [r0, w64 _ (by omega) (by omega), numN_one b (by omega)]
    have e1 : wrap64 (wrap64 (rd (O b) 2) + wrap64 (wrap64 (rd (O b) 3) * 256)) = ((numN b 2 2 : Nat) : Int) := by
      rw [r2, r3, w64 ((b.getD 2 0 : Nat) : Int) (by omega) (by omega), w64 ((b.getD 3 0 : Nat) : Int) (by omega) (by omega), w64 (((b.getD 3 0 : Nat) : Int) * 256) (by omega) (by omega), w64 _ (by omega) (by omega), numN_two b h]
      omega
    rw [e0, e1]
    rw [show vec b 4 11 0 = ((numN b 4 4 : Nat) : Int) from rfl, show vec b 4 11 1 = ((numN b 8 4 : Nat) : Int) from rfl, show vec b 4 11 2 = ((numN b 12 4 : Nat) : Int) from rfl, show vec b 4 11 3 = ((numN b 16 4 : Nat) : Int) from rfl, show vec b 4 11 4 = ((numN b 20 4 : Nat) : Int) from rfl, show vec b 4 11 5 = ((numN b 24 4 : Nat) : Int) from rfl, show vec b 4 11 6 = ((numN b 28 4 : Nat) : Int) from rfl, show vec b 4 11 7 = ((numN b 32 4 : Nat) : Int) from rfl, show vec b 4 11 8 = ((numN b 36 4 : Nat) : Int) from rfl, show vec b 4 11 9 = ((numN b 40 4 : Nat) : Int) from rfl, show vec b 4 11 10 = ((numN b 44 4 : Nat) : Int) from rfl]
    refine Ev.bind (ev_enc _ _ _ _ _ _ _ _ _ _ _ _ _ (fits_nums b hb)) ?_
    unfold decE
    exact ev_two _ _
  | m + 1, i, hi => by
    refine Ev.head ?_
    simp only [inode_Decode.l0]
    refine Ev.pos (by omega) (Ev.pos (by omega) ?_)
    have ea : wrap64 (4 + wrap64 (4 * (i : Int))) = ((4 + 4 * i : Nat) : Int) := by rw [w64 (4 * (i : Int)) (by omega) (by omega), w64 _ (by omega) (by omega)]; omega
    rw [ea]
    refine Ev.bind (ev_get b hb h (4 + 4 * i) 4 (by decide) (by decide) (by omega)) ?_
    have hn := num_lt b hb (4 + 4 * i)
    simp only []
    rw [w64 ((i : Int) + 1) (by omega) (by omega), w64 ((numN b (4 + 4 * i) 4 : Nat) : Int) (by omega) (by omega)]
    rw [vec_step b 4 i 0 0 rfl, vec_step b 4 i 1 1 rfl, vec_step b 4 i 2 2 rfl, vec_step b 4 i 3 3 rfl, vec_step b 4 i 4 4 rfl, vec_step b 4 i 5 5 rfl, vec_step b 4 i 6 6 rfl, vec_step b 4 i 7 7 rfl, vec_step b 4 i 8 8 rfl, vec_step b 4 i 9 9 rfl, vec_step b 4 i 10 10 rfl]
    exact dec_l0 b hb h m (i + 1) (by omega)
theorem ev_dec (b : List Nat) (hb : ∀ x ∈ b, x < 256) : Ev (fun k => inode_Decode.f k (O b)) (decS b) := by
  unfold inode_Decode.f decS
  by_cases h : b.length = 64
  · rw [if_pos h]
    refine Ev.pos (by rw [O_len]; omega) ?_
    exact dec_l0 b hb h 11 0 rfl
  · rw [if_neg h]
    exact Ev.neg (by rw [O_len]; omega) (Ev.val rfl)
theorem rdec_l0 (b : List Nat) (hb : ∀ x ∈ b, x < 256) (h : b.length = 64) : ∀ (m i : Nat), i + m = 8 → Ev (fun k => ashlarref13_Decode.l0 k (O b) (i : Int) ((numN b 0 1 : Nat) : Int) ((numN b 2 2 : Nat) : Int) ((numN b 4 4 : Nat) : Int) (vec b 8 i 0) (vec b 8 i 1) (vec b 8 i 2) (vec b 8 i 3) (vec b 8 i 4) (vec b 8 i 5) (vec b 8 i 6) (vec b 8 i 7) ((numN b 40 4 : Nat) : Int) ((numN b 44 4 : Nat) : Int)) (decE b ((numN b 0 1 : Nat) : Int) ((numN b 2 2 : Nat) : Int) ((numN b 4 4 : Nat) : Int) ((numN b 8 4 : Nat) : Int) ((numN b 12 4 : Nat) : Int) ((numN b 16 4 : Nat) : Int) ((numN b 20 4 : Nat) : Int) ((numN b 24 4 : Nat) : Int) ((numN b 28 4 : Nat) : Int) ((numN b 32 4 : Nat) : Int) ((numN b 36 4 : Nat) : Int) ((numN b 40 4 : Nat) : Int) ((numN b 44 4 : Nat) : Int))
  | 0, i, hi => by
    have hi8 : i = 8 := by omega
    subst hi8
    refine Ev.head ?_
    simp only [ashlarref13_Decode.l0]
    refine Ev.neg (by omega) ?_
    rw [show vec b 8 8 0 = ((numN b 8 4 : Nat) : Int) from rfl, show vec b 8 8 1 = ((numN b 12 4 : Nat) : Int) from rfl, show vec b 8 8 2 = ((numN b 16 4 : Nat) : Int) from rfl, show vec b 8 8 3 = ((numN b 20 4 : Nat) : Int) from rfl, show vec b 8 8 4 = ((numN b 24 4 : Nat) : Int) from rfl, show vec b 8 8 5 = ((numN b 28 4 : Nat) : Int) from rfl, show vec b 8 8 6 = ((numN b 32 4 : Nat) : Int) from rfl, show vec b 8 8 7 = ((numN b 36 4 : Nat) : Int) from rfl]
    refine Ev.bind (ev_renc _ _ _ _ _ _ _ _ _ _ _ _ _ (fits_nums b hb)) ?_
    unfold decE
    exact ev_two _ _
  | m + 1, i, hi => by
    refine Ev.head ?_
    simp only [ashlarref13_Decode.l0]
    refine Ev.pos (by omega) (Ev.pos (by omega) ?_)
    have ea : wrap64 (8 + wrap64 (4 * (i : Int))) = ((8 + 4 * i : Nat) : Int) := by rw [w64 (4 * (i : Int)) (by omega) (by omega), w64 _ (by omega) (by omega)]; omega
    rw [ea]
    refine Ev.bind (ev_rnum b hb h (8 + 4 * i) 4 (by decide) (by decide) (by omega)) ?_
    rw [w64 ((i : Int) + 1) (by omega) (by omega)]
    rw [vec_step b 8 i 0 0 rfl, vec_step b 8 i 1 1 rfl, vec_step b 8 i 2 2 rfl, vec_step b 8 i 3 3 rfl, vec_step b 8 i 4 4 rfl, vec_step b 8 i 5 5 rfl, vec_step b 8 i 6 6 rfl, vec_step b 8 i 7 7 rfl]
    exact rdec_l0 b hb h m (i + 1) (by omega)
theorem ev_rdec (b : List Nat) (hb : ∀ x ∈ b, x < 256) : Ev (fun k => ashlarref13_Decode.f k (O b)) (decS b) := by
  unfold ashlarref13_Decode.f decS
  by_cases h : b.length = 64
  · rw [if_pos h]
    refine Ev.pos (by rw [O_len]; omega) ?_
    refine Ev.bind (ev_rnum b hb h 0 1 (by decide) (by decide) (by decide)) (Ev.bind (ev_rnum b hb h 2 2 (by decide) (by decide) (by decide)) (Ev.bind (ev_rnum b hb h 4 4 (by decide) (by decide) (by decide)) (Ev.bind (ev_rnum b hb h 40 4 (by decide) (by decide) (by decide)) (Ev.bind (ev_rnum b hb h 44 4 (by decide) (by decide) (by decide)) ?_))))
    exact rdec_l0 b hb h 8 0 rfl
  · rw [if_neg h]
    exact Ev.neg (by rw [O_len]; omega) (Ev.val rfl)
end Go.Proofs.YtjgjcfeifhaanaaGreat.PQ
