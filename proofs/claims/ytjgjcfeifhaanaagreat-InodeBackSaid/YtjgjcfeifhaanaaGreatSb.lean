/-
  The plain law: a file's bytes, and the file that bytes are, by the program.
-/
import Derived.Test.YtjgjcfeifhaanaaGreatPe
import Derived.Test.YtjgjcfeifhaanaaGreatPv
import Derived.Test.YtjgjcfeifhaanaaGreatOc2
import Derived.Lib.Bytes
set_option linter.unusedVariables false
namespace Go.Proofs.YtjgjcfeifhaanaaGreat.PQ
open Go.RowKit Go.Proofs.YtjgjcfeifhaanaaGreatW.PrintWords Go.Proofs.YtjgjcfeifhaanaaGreatW.PrintLast Go.Proofs.YtjgjcfeifhaanaaGreatW.PrintMore
open Go.Proofs.YtjgjcfeifhaanaaGreat.Am (putL getL)
open Go.Proofs.YtjgjcfeifhaanaaGreat.Run (putF_ok getF_ok putL_length rd_at getL_snoc)
theorem Ev.head {α : Type} {g : Nat → Option α} {r : α} (h : Ev (fun k => g (k + 1)) r) : Ev g r := Ev.step (f := fun k => g (k + 1)) (fun _ => rfl) h
theorem Ev.pos {α : Type} {f g : Nat → Option α} {r : α} {c : Prop} [Decidable c] (hc : c) (h : Ev f r) : Ev (fun k => if c then f k else g k) r := by
  simp only [if_pos hc]; exact h
theorem Ev.neg {α : Type} {f g : Nat → Option α} {r : α} {c : Prop} [Decidable c] (hc : ¬ c) (h : Ev g r) : Ev (fun k => if c then f k else g k) r := by
  simp only [if_neg hc]; exact h
theorem Ev.val {α : Type} {r q : α} (h : q = r) : Ev (fun _ => some q) r := by subst h; exact Ev.now _
theorem Ev.same {α : Type} {g : Nat → Option α} {r q : α} (hg : ∀ k, LeO (g k) (g (k + 1))) {k : Nat} (h : g k = some q) (h2 : Ev g r) : q = r := by
  obtain ⟨K, hK⟩ := h2
  obtain ⟨L, hL⟩ := Ev.of hg h
  have h1 := hK (max K L) (Nat.le_max_left _ _)
  have h2 := hL (max K L) (Nat.le_max_right _ _)
  rw [h1] at h2
  exact (Option.some.inj h2).symm
def leb : Nat → Nat → List Int
  | 0, _ => []
  | n + 1, x => ((x % 256 : Nat) : Int) :: leb n (x / 256)
theorem w64 (n : Int) (h0 : -9223372036854775808 ≤ n) (h : n < 9223372036854775808) : wrap64 n = n := by unfold wrap64; omega
theorem u64w (n : Int) (h0 : 0 ≤ n) (h : n < 18446744073709551616) : IntKind.u64.wrap n = n := by
  unfold IntKind.wrap
  have h2 : (2 : Int) ^ IntKind.u64.bits = 18446744073709551616 := by decide
  have h3 : IntKind.u64.signed = false := rfl
  simp only [h2, h3, Bool.false_and, Bool.false_eq_true, if_false]
  omega
abbrev O (l : List Nat) : List Int := l.map Int.ofNat
theorem O_app (a b : List Nat) : O (a ++ b) = O a ++ O b := List.map_append
theorem O_len (a : List Nat) : (O a).length = a.length := List.length_map _
theorem O_rep (n : Nat) : O (List.replicate n 0) = List.replicate n 0 := List.map_replicate
theorem putL_leb : ∀ n x, O (putL x n) = leb n x
  | 0, _ => rfl
  | n + 1, x => by
    show Int.ofNat (x % 256) :: O (putL (x >>> 8) n) = _
    rw [putL_leb n, Nat.shiftRight_eq_div_pow]
    rfl
theorem putL_lt : ∀ n x, ∀ y ∈ putL x n, y < 256
  | 0, _, y, h => by cases h
  | n + 1, x, y, h => by
    rcases List.mem_cons.1 h with rfl | h
    · exact Nat.mod_lt _ (by decide)
    · exact putL_lt n _ y h
theorem ev_put {n x : Nat} (h1 : 1 ≤ n) (h8 : n ≤ 8) (hx : x < 256 ^ n) : Ev (fun k => octets_Put.f k (x : Int) (n : Int)) (O (putL x n), 0) :=
  Ev.of (fun k => octets_Put.mono _ _ k) (putF_ok x n h1 h8 (by
    rw [Nat.shiftRight_eq_div_pow, Nat.div_eq_of_lt]
    rw [Nat.pow_mul]
    exact hx))
theorem app_lt {a b : List Nat} (ha : ∀ x ∈ a, x < 256) (hb : ∀ x ∈ b, x < 256) : ∀ x ∈ a ++ b, x < 256 := by
  intro x hx
  rcases List.mem_append.1 hx with hx | hx
  · exact ha x hx
  · exact hb x hx
theorem nat_of {a : Int} (h : 0 ≤ a) : ∃ n : Nat, a = (n : Int) := ⟨a.toNat, by omega⟩
theorem getL_lt : ∀ l : List Nat, (∀ x ∈ l, x < 256) → getL l < 256 ^ l.length
  | [], _ => by decide
  | x :: l, h => by
    have h1 := h x List.mem_cons_self
    have h2 := getL_lt l (fun y hy => h y (List.mem_cons_of_mem _ hy))
    show x + 256 * getL l < 256 ^ (l.length + 1)
    rw [Nat.pow_succ]
    omega
theorem getL_putL : ∀ n x, x < 256 ^ n → getL (putL x n) = x
  | 0, x, h => by simp at h; subst h; rfl
  | n + 1, x, h => by
    show x % 256 + 256 * getL (putL (x >>> 8) n) = x
    have h8 : x >>> 8 = x / 256 := by rw [Nat.shiftRight_eq_div_pow]
    rw [h8, getL_putL n _ (by rw [Nat.pow_succ] at h; omega)]
    omega
noncomputable def numN (l : List Nat) (k n : Nat) : Nat := getL ((l.drop k).take n)
theorem numN_lt (l : List Nat) (hb : ∀ x ∈ l, x < 256) (k n : Nat) : numN l k n < 256 ^ n := by
  have h := getL_lt ((l.drop k).take n) (fun x hx => hb x (List.mem_of_mem_drop (List.mem_of_mem_take hx)))
  have h2 : ((l.drop k).take n).length ≤ n := by rw [List.length_take]; omega
  exact Nat.lt_of_lt_of_le h (Nat.pow_le_pow_right (by decide) h2)
theorem str_inj {a b : List Nat} (ha : ∀ x ∈ a, x < 256) (hb : ∀ x ∈ b, x < 256) (h : (strOfNums (O a)).toList = (strOfNums (O b)).toList) : a = b := by
  rw [Lib.strOfNums_toList, Lib.strOfNums_toList] at h
  have e : ∀ l : List Nat, Lib.bytesOf (O l) = l.map UInt8.ofNat := fun l => by
    unfold Lib.bytesOf O
    rw [List.map_map]
    rfl
  have h3 : a.map UInt8.ofNat = b.map UInt8.ofNat := by rw [← e, ← e]; exact h
  clear h
  induction a generalizing b with
  | nil => cases b with
    | nil => rfl
    | cons => cases h3
  | cons x a ih => cases b with
    | nil => cases h3
    | cons y b =>
      simp only [List.map_cons, List.cons.injEq] at h3
      have hx := ha x List.mem_cons_self
      have hy := hb y List.mem_cons_self
      have h4 := congrArg UInt8.toNat h3.1
      rw [UInt8.toNat_ofNat', UInt8.toNat_ofNat', Nat.mod_eq_of_lt hx, Nat.mod_eq_of_lt hy] at h4
      rw [h4, ih (fun z hz => ha z (List.mem_cons_of_mem _ hz)) (fun z hz => hb z (List.mem_cons_of_mem _ hz)) h3.2]
theorem numN_at (A R : List Nat) (x n : Nat) (hx : x < 256 ^ n) : numN (A ++ (putL x n ++ R)) A.length n = x := by
  unfold numN
  rw [List.drop_left, List.take_left' (putL_length x n), getL_putL n x hx]
theorem octs_of {l : List Int} (h : ∀ x ∈ l, (Lit.int .u8 x).wf = true) : ∃ b : List Nat, l = O b ∧ (∀ x ∈ b, x < 256) ∧ b.length = l.length := by
  refine ⟨l.map Int.toNat, ?_, ?_, by simp⟩
  · induction l with
    | nil => rfl
    | cons x l ih =>
      have h1 := h x List.mem_cons_self
      simp only [Lit.wf, Bool.and_eq_true, decide_eq_true_eq] at h1
      have h2 : IntKind.u8.min = 0 := by decide
      simp only [O, List.map_cons, List.cons.injEq]
      exact ⟨by show x = ((x.toNat : Nat) : Int); omega, ih (fun y hy => h y (List.mem_cons_of_mem _ hy))⟩
  · intro x hx
    obtain ⟨y, hy, rfl⟩ := List.mem_map.1 hx
    have h1 := h y hy
    simp only [Lit.wf, Bool.and_eq_true, decide_eq_true_eq] at h1
    have h2 : IntKind.u8.min = 0 := by decide
    have h3 : IntKind.u8.max = 255 := by decide
    omega
open Go.Proofs.YtjgjcfeifhaanaaGreat.Am (putL getL lo64 hi64)
def fours (l : List Nat) : List Nat := l.flatMap (fun x => putL x 4)
theorem fours_cons (x : Nat) (l : List Nat) : fours (x :: l) = putL x 4 ++ fours l := rfl
theorem fours_app (a b : List Nat) : fours (a ++ b) = fours a ++ fours b := List.flatMap_append
theorem fours_len : ∀ l : List Nat, (fours l).length = 4 * l.length
  | [] => rfl
  | x :: l => by rw [fours_cons, List.length_append, putL_length, fours_len l, List.length_cons]; omega
theorem fours_lt : ∀ l : List Nat, ∀ x ∈ fours l, x < 256
  | [], x, h => by cases h
  | y :: l, x, h => by
    rw [fours_cons] at h
    rcases List.mem_append.1 h with h | h
    · exact putL_lt _ _ x h
    · exact fours_lt l x h
def encN (n0 n1 n2 n3 n4 n5 n6 n7 n8 n9 n10 n11 n12 : Nat) : List Nat := [n0 % 256, 0] ++ putL n1 2 ++ fours [n2, n3, n4, n5, n6, n7, n8, n9, n10, n11, n12] ++ List.replicate 16 0
theorem encN_len (n0 n1 n2 n3 n4 n5 n6 n7 n8 n9 n10 n11 n12 : Nat) : (encN n0 n1 n2 n3 n4 n5 n6 n7 n8 n9 n10 n11 n12).length = 64 := by
  unfold encN
  simp only [List.length_append, putL_length, List.length_cons, List.length_nil, fours_len, List.length_replicate]
theorem encN_lt (n0 n1 n2 n3 n4 n5 n6 n7 n8 n9 n10 n11 n12 : Nat) : ∀ x ∈ encN n0 n1 n2 n3 n4 n5 n6 n7 n8 n9 n10 n11 n12, x < 256 := by
  unfold encN
  refine app_lt (app_lt (app_lt ?_ (putL_lt _ _)) (fours_lt _)) ?_
  · intro x hx
    simp only [List.mem_cons, List.not_mem_nil, or_false] at hx
    rcases hx with rfl | rfl
    · exact Nat.mod_lt _ (by decide)
    · decide
  · intro x hx
    rw [List.eq_of_mem_replicate hx]
    decide
def In (lo hi x : Int) : Prop := lo ≤ x ∧ x ≤ hi
theorem evT_cut {i : Nat} {m : Int} {x y : Tr} {v : List Int} (h : evT (.cut i m x y) v = true) : (v.getD i 0 ≤ m ∧ evT x v = true) ∨ (m < v.getD i 0 ∧ evT y v = true) := by
  unfold evT at h
  by_cases hm : v.getD i 0 ≤ m
  · rw [if_pos hm] at h; exact .inl ⟨hm, h⟩
  · rw [if_neg hm] at h; exact .inr ⟨by omega, h⟩
theorem evT_two {i : Nat} {a b : Int} {x : Tr} {v : List Int} (h : evT (.cut i (a - 1) fT (.cut i b x fT)) v = true) : a ≤ v.getD i 0 ∧ v.getD i 0 ≤ b ∧ evT x v = true := by
  rcases evT_cut h with ⟨_, h⟩ | ⟨h1, h⟩
  · cases h
  rcases evT_cut h with ⟨h2, h⟩ | ⟨_, h⟩
  · exact ⟨by omega, h2, h⟩
  · cases h
theorem evT_R {x : Tr} {v : List Int} : ∀ {l : List Nat}, evT (tR x l) v = true → (∀ i ∈ l, 0 ≤ v.getD i 0 ∧ v.getD i 0 ≤ 65535) ∧ evT x v = true
  | [], h => ⟨fun i hi => (by cases hi), h⟩
  | i :: l, h => by
    obtain ⟨h1, h2, h3⟩ := evT_two (a := 0) h
    obtain ⟨h4, h5⟩ := evT_R h3
    refine ⟨fun j hj => ?_, h5⟩
    rcases List.mem_cons.1 hj with rfl | hj
    · exact ⟨h1, h2⟩
    · exact h4 j hj
theorem evT_RF {v : List Int} : ∀ {l : List Nat}, evT (tR fT l) v = true → False
  | l, h => by
    have h2 := (evT_R h).2
    cases h2
theorem evT_Z {v : List Int} : ∀ {l : List Nat}, evT (tZ l) v = true → ∀ i ∈ l, 0 ≤ v.getD i 0 ∧ v.getD i 0 ≤ 65535
  | [], _, i, hi => by cases hi
  | i :: l, h, j, hj => by
    rcases evT_cut h with ⟨_, h⟩ | ⟨h1, h⟩
    · cases h
    rcases evT_cut h with ⟨h2, h⟩ | ⟨_, h⟩
    · rcases List.mem_cons.1 hj with rfl | hj
      · exact ⟨by omega, by omega⟩
      · exact evT_Z h j hj
    · rcases evT_cut h with ⟨_, h⟩ | ⟨_, h⟩
      · exact (evT_RF h).elim
      · cases h
theorem ok_rng {a0 a1 a2 a3 a4 a5 a6 a7 a8 a9 a10 a11 a12 : Int} (h : inodeOk a0 a1 a2 a3 a4 a5 a6 a7 a8 a9 a10 a11 a12 = true) : (0 ≤ a0 ∧ a0 ≤ 2) ∧ (0 ≤ a1 ∧ a1 ≤ 200) ∧ (0 ≤ a2 ∧ a2 ≤ 136192) ∧ (0 ≤ a3 ∧ a3 ≤ 65535) ∧ (0 ≤ a4 ∧ a4 ≤ 65535) ∧ (0 ≤ a5 ∧ a5 ≤ 65535) ∧ (0 ≤ a6 ∧ a6 ≤ 65535) ∧ (0 ≤ a7 ∧ a7 ≤ 65535) ∧ (0 ≤ a8 ∧ a8 ≤ 65535) ∧ (0 ≤ a9 ∧ a9 ≤ 65535) ∧ (0 ≤ a10 ∧ a10 ≤ 65535) ∧ (0 ≤ a11 ∧ a11 ≤ 65535) ∧ (0 ≤ a12 ∧ a12 ≤ 65535) := by
  unfold inodeOk tI at h
  obtain ⟨p1, p2, h⟩ := evT_two (a := 0) h
  obtain ⟨p3, p4, h⟩ := evT_two (a := 0) h
  obtain ⟨p5, p6, h⟩ := evT_two (a := 0) h
  have key : ∀ i ∈ l10, 0 ≤ [a0, a1, a2, a3, a4, a5, a6, a7, a8, a9, a10, a11, a12].getD i 0 ∧ [a0, a1, a2, a3, a4, a5, a6, a7, a8, a9, a10, a11, a12].getD i 0 ≤ 65535 := by
    unfold t1 at h
    rcases evT_cut h with ⟨_, h⟩ | ⟨_, h⟩
    · unfold t0 at h
      rcases evT_cut h with ⟨_, h⟩ | ⟨_, h⟩
      · rcases evT_cut h with ⟨_, h⟩ | ⟨_, h⟩
        · exact evT_Z h
        · exact (evT_RF h).elim
      · exact (evT_RF h).elim
    · exact (evT_R h).1
  exact ⟨⟨p1, p2⟩, ⟨p3, p4⟩, ⟨p5, p6⟩, key 3 (by decide), key 4 (by decide), key 5 (by decide), key 6 (by decide), key 7 (by decide), key 8 (by decide), key 9 (by decide), key 10 (by decide), key 11 (by decide), key 12 (by decide)⟩
theorem fits_of {x : Int} (h0 : -9223372036854775808 ≤ x) (h1 : x ≤ 9223372036854775807) : fits x = true := by
  unfold fits
  have e1 : lo64 = -9223372036854775808 := by decide
  have e2 : hi64 = 9223372036854775807 := by decide
  rw [e1, e2]
  simp [h0, h1]
noncomputable def encS (a0 : Int) (a1 : Int) (a2 : Int) (a3 : Int) (a4 : Int) (a5 : Int) (a6 : Int) (a7 : Int) (a8 : Int) (a9 : Int) (a10 : Int) (a11 : Int) (a12 : Int) : List Int × Int := if inodeOk a0 a1 a2 a3 a4 a5 a6 a7 a8 a9 a10 a11 a12 = true then (O (encN a0.toNat a1.toNat a2.toNat a3.toNat a4.toNat a5.toNat a6.toNat a7.toNat a8.toNat a9.toNat a10.toNat a11.toNat a12.toNat), 0) else ([], 1)
theorem enc_l0 (fs : List Nat) (hf : ∀ x ∈ fs, x < 4294967296) (hfl : fs.length ≤ 11) : ∀ (m i : Nat) (b : List Nat), i + m = fs.length → b.length + 4 * m = 48 →
    Ev (fun k => inode_Encode.l0 k (O b) (O fs) (fs.length : Int) (i : Int)) (O (b ++ fours (fs.drop i) ++ List.replicate 16 0), 0)
  | 0, i, b, hi, hl => by
    refine Ev.head ?_
    simp only [inode_Encode.l0]
    refine Ev.neg (by omega) ?_
    have hw : wrap64 (64 - ((O b).length : Int)) = ((16 : Nat) : Int) := by rw [O_len, w64 _ (by omega) (by omega)]; omega
    rw [hw]
    have hd : fs.drop i = [] := List.drop_eq_nil_of_le (by omega)
    rw [hd, show fours [] = [] from rfl, List.append_nil]
    refine Ev.pos (by omega) (Ev.pos (by rw [O_len]; omega) (Ev.val ?_))
    rw [O_app, O_rep]
    rfl
  | m + 1, i, b, hi, hl => by
    have hlt : i < fs.length := by omega
    refine Ev.head ?_
    simp only [inode_Encode.l0]
    refine Ev.pos (by omega) (Ev.pos (by omega) (Ev.pos (by rw [O_len]; omega) ?_))
    have hx := hf _ (List.getElem_mem hlt)
    have hr : rd (O fs) (i : Int) = ((fs[i] : Nat) : Int) := rd_at fs i hlt
    rw [hr, u64w _ (by omega) (by omega)]
    refine Ev.bind (ev_put (n := 4) (by decide) (by decide) (by simpa using hx)) ?_
    refine Ev.pos (by simp only [O_len, putL_length]; omega) ?_
    rw [w64 ((i : Int) + 1) (by omega) (by omega), ← O_app]
    have := enc_l0 fs hf hfl m (i + 1) (b ++ putL fs[i] 4) (by omega) (by rw [List.length_append, putL_length]; omega)
    rw [List.drop_eq_getElem_cons hlt, fours_cons, ← List.append_assoc]
    exact this
theorem ev_enc (a0 : Int) (a1 : Int) (a2 : Int) (a3 : Int) (a4 : Int) (a5 : Int) (a6 : Int) (a7 : Int) (a8 : Int) (a9 : Int) (a10 : Int) (a11 : Int) (a12 : Int) (hfit : fits13 a0 a1 a2 a3 a4 a5 a6 a7 a8 a9 a10 a11 a12 = true) : Ev (fun k => inode_Encode.f k a0 a1 a2 a3 a4 a5 a6 a7 a8 a9 a10 a11 a12) (encS a0 a1 a2 a3 a4 a5 a6 a7 a8 a9 a10 a11 a12) := by
  unfold inode_Encode.f encS inode_may.f
  rw [if_pos hfit]
  refine Ev.bind (Ev.now _) ?_
  by_cases hk : inodeOk a0 a1 a2 a3 a4 a5 a6 a7 a8 a9 a10 a11 a12 = true
  · rw [if_pos hk]
    refine Ev.pos hk ?_
    obtain ⟨⟨p0, q0⟩, ⟨p1, q1⟩, ⟨p2, q2⟩, ⟨p3, q3⟩, ⟨p4, q4⟩, ⟨p5, q5⟩, ⟨p6, q6⟩, ⟨p7, q7⟩, ⟨p8, q8⟩, ⟨p9, q9⟩, ⟨p10, q10⟩, ⟨p11, q11⟩, ⟨p12, q12⟩⟩ := ok_rng hk
    obtain ⟨n0, rfl⟩ := nat_of p0
    obtain ⟨n1, rfl⟩ := nat_of p1
    obtain ⟨n2, rfl⟩ := nat_of p2
    obtain ⟨n3, rfl⟩ := nat_of p3
    obtain ⟨n4, rfl⟩ := nat_of p4
    obtain ⟨n5, rfl⟩ := nat_of p5
    obtain ⟨n6, rfl⟩ := nat_of p6
    obtain ⟨n7, rfl⟩ := nat_of p7
    obtain ⟨n8, rfl⟩ := nat_of p8
    obtain ⟨n9, rfl⟩ := nat_of p9
    obtain ⟨n10, rfl⟩ := nat_of p10
    obtain ⟨n11, rfl⟩ := nat_of p11
    obtain ⟨n12, rfl⟩ := nat_of p12
    refine Ev.bind (Ev.now _) (Ev.bind (Ev.now _) (Ev.pos (by simp) (Ev.bind (Ev.now _) ?_)))
    have e1 : ([((n2 : Nat) : Int), ((n3 : Nat) : Int), ((n4 : Nat) : Int), ((n5 : Nat) : Int), ((n6 : Nat) : Int), ((n7 : Nat) : Int), ((n8 : Nat) : Int), ((n9 : Nat) : Int), ((n10 : Nat) : Int)] ++ [((n11 : Nat) : Int), ((n12 : Nat) : Int)] : List Int) = O [n2, n3, n4, n5, n6, n7, n8, n9, n10, n11, n12] := rfl
    have e2 : ([((n0 : Nat) : Int) % 256, 0, ((n1 : Nat) : Int) % 256, (((n1 : Nat) : Int) / 256) % 256] : List Int) = O ([n0 % 256, 0] ++ putL n1 2) := by
      rw [O_app, putL_leb]
      simp only [O, leb, List.map_cons, List.map_nil, List.cons_append, List.nil_append]
      rfl
    rw [e1, e2]
    have := enc_l0 [n2, n3, n4, n5, n6, n7, n8, n9, n10, n11, n12] (by intro x hx; simp only [List.mem_cons, List.not_mem_nil, or_false] at hx; omega) (by simp) 11 0 ([n0 % 256, 0] ++ putL n1 2) rfl (by simp only [List.length_append, putL_length, List.length_cons, List.length_nil])
    exact this
  · rw [if_neg hk]
    exact Ev.neg hk (Ev.val rfl)
theorem ev_get (b : List Nat) (hb : ∀ x ∈ b, x < 256) (h : b.length = 64) (k n : Nat) (h1 : 1 ≤ n) (h8 : n ≤ 8) (hk : k + n ≤ 64) : Ev (fun f => octets_Get.f f (O b) (k : Int) (n : Int)) (((numN b k n : Nat) : Int), 0) :=
  Ev.of (fun f => octets_Get.mono _ _ _ f) (getF_ok b k n hb (by omega) h1 h8 (by omega))
theorem num_lt (b : List Nat) (hb : ∀ x ∈ b, x < 256) (k : Nat) : numN b k 4 < 4294967296 := by
  have := numN_lt b hb k 4
  simpa using this
abbrev Dec := Int × Int × Int × Int × Int × Int × Int × Int × Int × Int × Int × Int × Int × Int
def bad : Dec := (0, 0, 0, 0, 0, 0, 0, 0, 0, 0, 0, 0, 0, 8)
noncomputable def Is (c : List Int) (b : List Nat) : Prop := (strOfNums c).toList = (strOfNums (O b)).toList
noncomputable instance (c : List Int) (b : List Nat) : Decidable (Is c b) := inferInstanceAs (Decidable (_ = _))
noncomputable def decE (b : List Nat) (a0 : Int) (a1 : Int) (a2 : Int) (a3 : Int) (a4 : Int) (a5 : Int) (a6 : Int) (a7 : Int) (a8 : Int) (a9 : Int) (a10 : Int) (a11 : Int) (a12 : Int) : Dec := if (encS a0 a1 a2 a3 a4 a5 a6 a7 a8 a9 a10 a11 a12).2 = 0 then (if Is (encS a0 a1 a2 a3 a4 a5 a6 a7 a8 a9 a10 a11 a12).1 b then (a0, a1, a2, a3, a4, a5, a6, a7, a8, a9, a10, a11, a12, 0) else bad) else bad
noncomputable def decS (b : List Nat) : Dec := if b.length = 64 then decE b ((numN b 0 1 : Nat) : Int) ((numN b 2 2 : Nat) : Int) ((numN b 4 4 : Nat) : Int) ((numN b 8 4 : Nat) : Int) ((numN b 12 4 : Nat) : Int) ((numN b 16 4 : Nat) : Int) ((numN b 20 4 : Nat) : Int) ((numN b 24 4 : Nat) : Int) ((numN b 28 4 : Nat) : Int) ((numN b 32 4 : Nat) : Int) ((numN b 36 4 : Nat) : Int) ((numN b 40 4 : Nat) : Int) ((numN b 44 4 : Nat) : Int) else bad
theorem ev_two {α : Type} {c d : Prop} [Decidable c] [Decidable d] (x y : α) : Ev (fun _ : Nat => if c then (if d then some x else some y) else some y) (if c then (if d then x else y) else y) := by
  by_cases hc : c <;> by_cases hd : d <;> simp only [hc, hd, if_true, if_false] <;> exact Ev.now _
noncomputable def vec (b : List Nat) (s i j : Nat) : Int := if j < i then ((numN b (s + 4 * j) 4 : Nat) : Int) else 0
theorem vec_step (b : List Nat) (s i j : Nat) (q : Int) (hq : q = (j : Int)) : (if (i : Int) = q then ((numN b (s + 4 * i) 4 : Nat) : Int) else vec b s i j) = vec b s (i + 1) j := by
  subst hq
  unfold vec
  by_cases h : i = j
  · subst h
    rw [if_pos rfl, if_pos (by omega)]
  · rw [if_neg (by omega)]
    by_cases h2 : j < i
    · rw [if_pos h2, if_pos (by omega)]
    · rw [if_neg h2, if_neg (by omega)]
theorem numN_one (b : List Nat) (h : 0 < b.length) : numN b 0 1 = b.getD 0 0 := by
  cases b with
  | nil => cases h
  | cons x l => rfl
theorem numN_two (b : List Nat) (h : b.length = 64) : numN b 2 2 = b.getD 2 0 + 256 * b.getD 3 0 := by
  match b, h with
  | x :: y :: z :: u :: l, _ =>
    show getL [z, u] = _
    simp [getL]
theorem rd_d (b : List Nat) (i : Nat) (h : i < b.length) : rd (O b) (i : Int) = ((b.getD i 0 : Nat) : Int) := by
  have hr : rd (O b) (i : Int) = ((b[i] : Nat) : Int) := rd_at b i h
  rw [hr, List.getD_eq_getElem?_getD, List.getElem?_eq_getElem h]
  rfl
theorem getD_lt (b : List Nat) (hb : ∀ x ∈ b, x < 256) (i : Nat) (h : i < b.length) : b.getD i 0 < 256 := by
  rw [List.getD_eq_getElem?_getD, List.getElem?_eq_getElem h]
  exact hb _ (List.getElem_mem h)
theorem fits_nums (b : List Nat) (hb : ∀ x ∈ b, x < 256) : fits13 ((numN b 0 1 : Nat) : Int) ((numN b 2 2 : Nat) : Int) ((numN b 4 4 : Nat) : Int) ((numN b 8 4 : Nat) : Int) ((numN b 12 4 : Nat) : Int) ((numN b 16 4 : Nat) : Int) ((numN b 20 4 : Nat) : Int) ((numN b 24 4 : Nat) : Int) ((numN b 28 4 : Nat) : Int) ((numN b 32 4 : Nat) : Int) ((numN b 36 4 : Nat) : Int) ((numN b 40 4 : Nat) : Int) ((numN b 44 4 : Nat) : Int) = true := by
  unfold fits13
  have h4 : ∀ k, fits ((numN b k 4 : Nat) : Int) = true := fun k => by
    have := num_lt b hb k
    exact fits_of (by omega) (by omega)
  have h1 : fits ((numN b 0 1 : Nat) : Int) = true := by
    have := numN_lt b hb 0 1
    exact fits_of (by omega) (by omega)
  have h2 : fits ((numN b 2 2 : Nat) : Int) = true := by
    have := numN_lt b hb 2 2
    exact fits_of (by omega) (by omega)
  simp only [h4, h1, h2, Bool.and_self]
theorem dec_l0 (b : List Nat) (hb : ∀ x ∈ b, x < 256) (h : b.length = 64) : ∀ (m i : Nat), i + m = 11 → Ev (fun k => inode_Decode.l0 k (O b) (i : Int) (vec b 4 i 0) (vec b 4 i 1) (vec b 4 i 2) (vec b 4 i 3) (vec b 4 i 4) (vec b 4 i 5) (vec b 4 i 6) (vec b 4 i 7) (vec b 4 i 8) (vec b 4 i 9) (vec b 4 i 10)) (decE b ((numN b 0 1 : Nat) : Int) ((numN b 2 2 : Nat) : Int) ((numN b 4 4 : Nat) : Int) ((numN b 8 4 : Nat) : Int) ((numN b 12 4 : Nat) : Int) ((numN b 16 4 : Nat) : Int) ((numN b 20 4 : Nat) : Int) ((numN b 24 4 : Nat) : Int) ((numN b 28 4 : Nat) : Int) ((numN b 32 4 : Nat) : Int) ((numN b 36 4 : Nat) : Int) ((numN b 40 4 : Nat) : Int) ((numN b 44 4 : Nat) : Int))
  | 0, i, hi => by
    have hi11 : i = 11 := by omega
    subst hi11
    refine Ev.head ?_
    simp only [inode_Decode.l0]
    refine Ev.neg (by omega) ?_
    refine Ev.pos (by rw [O_len]; omega) (Ev.pos (by rw [O_len]; omega) (Ev.pos (by rw [O_len]; omega) ?_))
    have g0 := getD_lt b hb 0 (by omega)
    have g2 := getD_lt b hb 2 (by omega)
    have g3 := getD_lt b hb 3 (by omega)
    have r0 : rd (O b) 0 = ((b.getD 0 0 : Nat) : Int) := rd_d b 0 (by omega)
    have r2 : rd (O b) 2 = ((b.getD 2 0 : Nat) : Int) := rd_d b 2 (by omega)
    have r3 : rd (O b) 3 = ((b.getD 3 0 : Nat) : Int) := rd_d b 3 (by omega)
    have e0 : wrap64 (rd (O b) 0) = ((numN b 0 1 : Nat) : Int) := by rw [r0, w64 _ (by omega) (by omega), numN_one b (by omega)]
    have e1 : wrap64 (wrap64 (rd (O b) 2) + wrap64 (wrap64 (rd (O b) 3) * 256)) = ((numN b 2 2 : Nat) : Int) := by
      rw [r2, r3, w64 ((b.getD 2 0 : Nat) : Int) (by omega) (by omega), w64 ((b.getD 3 0 : Nat) : Int) (by omega) (by omega), w64 (((b.getD 3 0 : Nat) : Int) * 256) (by omega) (by omega), w64 _ (by omega) (by omega), numN_two b h]
      omega
    rw [e0, e1]
    rw [show vec b 4 11 0 = ((numN b 4 4 : Nat) : Int) from rfl, show vec b 4 11 1 = ((numN b 8 4 : Nat) : Int) from rfl, show vec b 4 11 2 = ((numN b 12 4 : Nat) : Int) from rfl, show vec b 4 11 3 = ((numN b 16 4 : Nat) : Int) from rfl, show vec b 4 11 4 = ((numN b 20 4 : Nat) : Int) from rfl, show vec b 4 11 5 = ((numN b 24 4 : Nat) : Int) from rfl, show vec b 4 11 6 = ((numN b 28 4 : Nat) : Int) from rfl, show vec b 4 11 7 = ((numN b 32 4 : Nat) : Int) from rfl, show vec b 4 11 8 = ((numN b 36 4 : Nat) : Int) from rfl, show vec b 4 11 9 = ((numN b 40 4 : Nat) : Int) from rfl, show vec b 4 11 10 = ((numN b 44 4 : Nat) : Int) from rfl]
    refine Ev.bind (ev_enc _ _ _ _ _ _ _ _ _ _ _ _ _ (fits_nums b hb)) ?_
    unfold decE
    exact ev_two _ _
  | m + 1, i, hi => by
    refine Ev.head ?_
    simp only [inode_Decode.l0]
    refine Ev.pos (by omega) (Ev.pos (by omega) ?_)
    have ea : wrap64 (4 + wrap64 (4 * (i : Int))) = ((4 + 4 * i : Nat) : Int) := by rw [w64 (4 * (i : Int)) (by omega) (by omega), w64 _ (by omega) (by omega)]; omega
    rw [ea]
    refine Ev.bind (ev_get b hb h (4 + 4 * i) 4 (by decide) (by decide) (by omega)) ?_
    have hn := num_lt b hb (4 + 4 * i)
    simp only []
    rw [w64 ((i : Int) + 1) (by omega) (by omega), w64 ((numN b (4 + 4 * i) 4 : Nat) : Int) (by omega) (by omega)]
    rw [vec_step b 4 i 0 0 rfl, vec_step b 4 i 1 1 rfl, vec_step b 4 i 2 2 rfl, vec_step b 4 i 3 3 rfl, vec_step b 4 i 4 4 rfl, vec_step b 4 i 5 5 rfl, vec_step b 4 i 6 6 rfl, vec_step b 4 i 7 7 rfl, vec_step b 4 i 8 8 rfl, vec_step b 4 i 9 9 rfl, vec_step b 4 i 10 10 rfl]
    exact dec_l0 b hb h m (i + 1) (by omega)
theorem ev_dec (b : List Nat) (hb : ∀ x ∈ b, x < 256) : Ev (fun k => inode_Decode.f k (O b)) (decS b) := by
  unfold inode_Decode.f decS
  by_cases h : b.length = 64
  · rw [if_pos h]
    refine Ev.pos (by rw [O_len]; omega) ?_
    exact dec_l0 b hb h 11 0 rfl
  · rw [if_neg h]
    exact Ev.neg (by rw [O_len]; omega) (Ev.val rfl)
end Go.Proofs.YtjgjcfeifhaanaaGreat.PQ
