/-
  The plain law, part 2: entries as octets, and back: the program's and the reference's way.
-/
import Derived.Test.YteoklfcffckkkaaGreatSq1
set_option linter.unusedVariables false
namespace Go.Proofs.YteoklfcffckkkaaGreat.PQ
open Go.RowKit Go.Proofs.YteoklfcffckkkaaGreatW.PrintWords Go.Proofs.YteoklfcffckkkaaGreatW.PrintLast Go.Proofs.YteoklfcffckkkaaGreatW.PrintMore
open Go.Proofs.YteoklfcffckkkaaGreat.Am (putL getL)
open Go.Proofs.YteoklfcffckkkaaGreat.Run (putF_ok getF_ok putL_length rd_at getL_snoc)
theorem wrap_one {i : Int} (h0 : 0 ≤ i) (h : i < 9223372036854775807) : wrap64 (i + 1) = i + 1 := by unfold wrap64; omega
theorem bt_at (s : ByteArray) (n : Nat) (h : n < s.size) : ∃ x : UInt8, (ofBs s)[n]? = some x ∧ bt s n = x.toNat := by
  refine ⟨s[n]'h, getElem_ofBs s n h, ?_⟩
  unfold bt
  rw [dif_pos (by simpa using h)]
  rfl
theorem nameL (s : ByteArray) (hs : s.size ≤ 140737488351232) (h3 : ¬(ofBs s = [] ∨ ofBs s = [46] ∨ ofBs s = [46, 46])) : ∀ (d : Nat) (i : Nat), i + d = s.size → clean ((ofBs s).take i) →
    Ev (fun k => ashlarref14_Name.l0 k s i) (Sp.nameE (ofBs s)) := by
  intro d
  induction d with
  | zero =>
    intro i hi hc
    obtain rfl : i = s.size := by omega
    rw [List.take_of_length_le (by rw [size_ofBs]; exact Nat.le_refl _)] at hc
    refine Ev.head ?_
    simp only [ashlarref14_Name.l0]
    refine Ev.neg (by omega) ?_
    have : Sp.nameE (ofBs s) = if 27 < s.size then 26 else 0 := by
      unfold Sp.nameE
      rw [if_neg, size_ofBs]
      rintro (h | h | h | h | h)
      · exact h3 (.inl h)
      · exact h3 (.inr (.inl h))
      · exact h3 (.inr (.inr h))
      · exact hc.1 h
      · exact hc.2 h
    rw [this]
    by_cases h : 27 < s.size
    · exact Ev.pos (by omega) (Ev.val (by rw [if_pos h]))
    · exact Ev.neg (by omega) (Ev.val (by rw [if_neg h]))
  | succ d ih =>
    intro i hi hc
    have hlt : i < s.size := by omega
    obtain ⟨x, hx, hb⟩ := bt_at s i hlt
    refine Ev.head ?_
    simp only [ashlarref14_Name.l0, hb]
    refine Ev.pos (by omega) (Ev.pos (by omega) ?_)
    by_cases h0 : (x.toNat : Int) = 0
    · have : x = 0 := UInt8.toNat_inj.1 (by simpa using h0)
      subst this
      refine Ev.pos h0 (Ev.val ?_)
      unfold Sp.nameE
      rw [if_pos (.inr (.inr (.inr (.inr (List.mem_of_getElem? hx)))))]
    · refine Ev.neg h0 ?_
      by_cases h47 : (x.toNat : Int) = 47
      · have : x = 47 := UInt8.toNat_inj.1 (by simpa using (by omega : x.toNat = 47))
        subst this
        refine Ev.pos h47 (Ev.val ?_)
        unfold Sp.nameE
        rw [if_pos (.inr (.inr (.inr (.inl (List.mem_of_getElem? hx)))))]
      · rw [wrap_one (by omega) (by omega)]
        refine Ev.neg h47 (ih (i + 1) (by omega) (clean_succ hc hx ?_))
        simp only [List.contains_cons, List.contains_nil, Bool.or_false, Bool.or_eq_false_iff, beq_eq_false_iff_ne]
        exact ⟨fun e => h47 (by rw [e]; rfl), fun e => h0 (by rw [e]; rfl)⟩
theorem refName (s : ByteArray) (hs : s.size ≤ 140737488351232) : Ev (fun k => ashlarref14_Name.f k s) (Sp.nameE (ofBs s)) := by
  have bad : (ofBs s = [] ∨ ofBs s = [46] ∨ ofBs s = [46, 46]) → Ev (fun k => ashlarref14_Name.j0 k s true) (Sp.nameE (ofBs s)) := fun h => by
    refine Ev.head ?_
    simp only [ashlarref14_Name.j0]
    refine Ev.pos trivial (Ev.val ?_)
    unfold Sp.nameE
    rw [if_pos]
    rcases h with h | h | h
    · exact .inl h
    · exact .inr (.inl h)
    · exact .inr (.inr (.inl h))
  unfold ashlarref14_Name.f
  rw [toList_ofBs]
  by_cases h1 : ofBs s = []
  · exact Ev.pos h1 (bad (.inl h1))
  · refine Ev.neg h1 ?_
    by_cases h2 : ofBs s = [46]
    · exact Ev.pos h2 (bad (.inr (.inl h2)))
    · refine Ev.neg h2 ?_
      by_cases h3 : ofBs s = [46, 46]
      · rw [show (ofBs s == [46, 46]) = true by simp [h3]]
        exact bad (.inr (.inr h3))
      · rw [show (ofBs s == [46, 46]) = false by simp [h3]]
        refine Ev.head ?_
        simp only [ashlarref14_Name.j0]
        exact Ev.neg (by simp) (nameL s hs (by rintro (h | h | h) <;> contradiction) s.size 0 (by omega) (by simp [clean]))
def bs (s : ByteArray) : List Nat := s.data.toList.map UInt8.toNat
theorem bs_len (s : ByteArray) : (bs s).length = s.size := by unfold bs; rw [List.length_map, Array.length_toList]; rfl
theorem bs_lt (s : ByteArray) : ∀ x ∈ bs s, x < 256 := by
  intro x hx
  obtain ⟨y, _, rfl⟩ := List.mem_map.1 hx
  exact y.toNat_lt
theorem bytesOf_bs (s : ByteArray) : bytesOf s = O (bs s) := by
  unfold bytesOf O bs
  rw [List.map_map]
  rfl
def encL (n : Nat) (m : List Nat) : List Nat := putL n 4 ++ [m.length % 256] ++ m ++ List.replicate (27 - m.length) 0
theorem encL_len {n : Nat} {m : List Nat} (h : m.length ≤ 27) : (encL n m).length = 32 := by
  unfold encL
  simp only [List.length_append, putL_length, List.length_singleton, List.length_replicate]
  omega
theorem encL_lt {n : Nat} {m : List Nat} (h : ∀ x ∈ m, x < 256) : ∀ x ∈ encL n m, x < 256 := by
  unfold encL
  refine app_lt (app_lt (app_lt (putL_lt _ _) ?_) h) ?_
  · intro x hx
    simp only [List.mem_singleton] at hx
    rw [hx]
    exact Nat.mod_lt _ (by decide)
  · intro x hx
    have := List.eq_of_mem_replicate hx
    omega
def encOk (a : Int) (s : ByteArray) : Prop := 1 ≤ a ∧ a ≤ 255 ∧ Sp.nameE (ofBs s) = 0
instance (a : Int) (s : ByteArray) : Decidable (encOk a s) := inferInstanceAs (Decidable (_ ∧ _ ∧ _))
noncomputable def encS (a : Int) (s : ByteArray) : List Int × Int := if encOk a s then (O (encL a.toNat (bs s)), 0) else ([], 1)
theorem name_len {s : ByteArray} (h : Sp.nameE (ofBs s) = 0) : s.size ≤ 27 := by
  unfold Sp.nameE at h
  split at h
  · exact absurd h (by decide)
  · split at h
    · exact absurd h (by decide)
    · rename_i h2
      rw [size_ofBs] at h2
      omega
theorem ev_enc (a : Int) (s : ByteArray) (hs : s.size ≤ 140737488351232) : Ev (fun k => dir_Encode.f k a s) (encS a s) := by
  unfold dir_Encode.f encS
  by_cases h0 : a < 1
  · exact Ev.pos h0 (Ev.val (by rw [if_neg (fun h => by have := h.1; omega)]))
  refine Ev.neg h0 ?_
  by_cases h1 : a ≥ 256
  · exact Ev.pos h1 (Ev.val (by rw [if_neg (fun h => by have := h.2.1; omega)]))
  refine Ev.neg h1 ?_
  refine Ev.bind (a := Sp.nameE (ofBs s)) ⟨0, fun k _ => by unfold path_Name.f; rw [if_pos hs]⟩ ?_
  by_cases h2 : Sp.nameE (ofBs s) = 0
  · refine Ev.pos h2 ?_
    have hl := name_len h2
    rw [if_pos (show encOk a s from ⟨by omega, by omega, h2⟩)]
    obtain ⟨n, rfl⟩ := nat_of (by omega : 0 ≤ a)
    rw [u64w _ (by omega) (by omega)]
    refine Ev.bind (ev_put (n := 4) (by decide) (by decide) (by simp; omega)) ?_
    refine Ev.pos (by simp only [O_len, putL_length]; omega) (Ev.bind (Ev.now _) ?_)
    refine Ev.pos (by omega) (Ev.pos (by simp only [List.length_append, O_len, putL_length, List.length_singleton]; omega) (Ev.bind (Ev.now _) ?_))
    have e1 : O (putL n 4) ++ [(s.size : Int) % 256] ++ bytesOf s = O (putL n 4 ++ [(bs s).length % 256] ++ bs s) := by
      rw [bytesOf_bs, O_app, O_app, bs_len]
      rfl
    rw [e1]
    have hlen : (O (putL n 4 ++ [(bs s).length % 256] ++ bs s)).length = 5 + s.size := by
      simp only [O_len, List.length_append, putL_length, List.length_singleton, bs_len]
    rw [hlen, w64 _ (by omega) (by omega)]
    refine Ev.pos (by omega) (Ev.pos (by omega) (Ev.val ?_))
    have e2 : (32 - ((5 + s.size : Nat) : Int)).toNat = 27 - (bs s).length := by rw [bs_len]; omega
    rw [e2, ← O_rep, ← O_app]
    rfl
  · exact Ev.neg h2 (Ev.val (by rw [if_neg (fun h => h2 h.2.2)]))
theorem renc_l1 (a : Int) : ∀ (m : Nat) (b : List Nat), b.length + m = 32 → Ev (fun k => ashlarref15_Encode.l1 k (O b)) (O (b ++ List.replicate m 0), 0)
  | 0, b, h => by
    refine Ev.head ?_
    unfold ashlarref15_Encode.l1
    exact Ev.neg (by rw [O_len]; omega) (Ev.val (by simp))
  | m + 1, b, h => by
    refine Ev.head ?_
    unfold ashlarref15_Encode.l1
    refine Ev.pos (by rw [O_len]; omega) (Ev.pos (by rw [O_len]; omega) ?_)
    have ih := renc_l1 a m (b ++ [0]) (by simp; omega)
    rw [O_app b, List.append_assoc] at ih
    rw [List.replicate_succ]
    exact ih
theorem bt_bs (s : ByteArray) (i : Nat) (h : i < s.size) : bt s (i : Int) = (((bs s)[i]'(by rw [bs_len]; exact h) : Nat) : Int) := by
  obtain ⟨x, hx, hb⟩ := bt_at s i h
  rw [hb]
  unfold bs
  rw [List.getElem_map]
  have hx2 : s.data.toList[i]? = some x := hx
  have := (List.getElem?_eq_some_iff.1 hx2).2
  rw [this]
theorem renc_l0 (a : Int) (s : ByteArray) (hs : s.size ≤ 27) (n : Nat) : ∀ (m i : Nat), i + m = s.size → Ev (fun k => ashlarref15_Encode.l0 k (O (putL n 4 ++ [(bs s).length % 256] ++ (bs s).take i)) (i : Int) a s) (O (encL n (bs s)), 0)
  | 0, i, h => by
    refine Ev.head ?_
    simp only [ashlarref15_Encode.l0]
    refine Ev.neg (by omega) ?_
    have e : (bs s).take i = bs s := List.take_of_length_le (by rw [bs_len]; omega)
    rw [e]
    have := renc_l1 a (27 - (bs s).length) (putL n 4 ++ [(bs s).length % 256] ++ bs s) (by simp only [List.length_append, putL_length, List.length_singleton, bs_len]; omega)
    exact this
  | m + 1, i, h => by
    have hlt : i < s.size := by omega
    refine Ev.head ?_
    simp only [ashlarref15_Encode.l0]
    refine Ev.pos (by omega) (Ev.pos (by omega) (Ev.pos (by simp only [O_len, List.length_append, putL_length, List.length_singleton, List.length_take]; omega) ?_))
    rw [bt_bs s i hlt, wrap_one (by omega) (by omega)]
    have ih := renc_l0 a s hs n m (i + 1) (by omega)
    have e : (bs s).take (i + 1) = (bs s).take i ++ [(bs s)[i]'(by rw [bs_len]; exact hlt)] := by
      rw [List.take_add_one, List.getElem?_eq_getElem (by rw [bs_len]; exact hlt)]
      rfl
    rw [e, ← List.append_assoc, O_app _ [_]] at ih
    exact ih
theorem ev_renc (a : Int) (s : ByteArray) (hs : s.size ≤ 140737488351232) : Ev (fun k => ashlarref15_Encode.f k a s) (encS a s) := by
  unfold ashlarref15_Encode.f encS
  have hmay : Ev (fun k => ashlarref15_May.f k a s) (decide (encOk a s)) := by
    unfold ashlarref15_May.f
    by_cases h0 : a ≥ 1
    · refine Ev.pos h0 ?_
      by_cases h1 : a ≤ 255
      · refine Ev.pos h1 (Ev.bind (refName s hs) (Ev.val ?_))
        by_cases h2 : Sp.nameE (ofBs s) = 0
        · rw [decide_eq_true (show encOk a s from ⟨h0, h1, h2⟩)]; simpa using h2
        · rw [decide_eq_false (fun h : encOk a s => h2 h.2.2)]; simpa using h2
      · exact Ev.neg h1 (Ev.val (decide_eq_false (fun h : encOk a s => h1 h.2.1)).symm)
    · exact Ev.neg h0 (Ev.val (decide_eq_false (fun h : encOk a s => h0 h.1)).symm)
  refine Ev.bind hmay ?_
  by_cases h : encOk a s
  · rw [if_pos h]
    refine Ev.pos (decide_eq_true h) ?_
    have hl := name_len h.2.2
    have ha := h.1
    have hb := h.2.1
    obtain ⟨n, rfl⟩ := nat_of (by omega : 0 ≤ a)
    rw [u64w _ (by omega) (by omega)]
    refine Ev.bind (refPut (n := 4) (by decide) (by decide) (by simp; omega)) ?_
    rw [← putL_leb]
    refine Ev.pos (by simp only [O_len, putL_length]; omega) ?_
    have := renc_l0 (n : Int) s hl n s.size 0 (by omega)
    have e : O (putL n 4 ++ [(bs s).length % 256] ++ (bs s).take 0) = O (putL n 4) ++ [(s.size : Int) % 256] := by
      rw [List.take_zero, List.append_nil, O_app, bs_len]
      rfl
    rw [e] at this
    exact this
  · rw [if_neg h]
    exact Ev.neg (by simp [h]) (Ev.val rfl)
noncomputable def nm (b : List Nat) (n : Nat) : ByteArray := strOfNums (((O b).take (5 + n)).drop 5)
theorem nm_eq (b : List Nat) (n : Nat) : nm b n = strOfNums (O ((b.take (5 + n)).drop 5)) := by
  unfold nm O
  rw [← List.map_take, ← List.map_drop]
theorem str_size (l : List Int) : (strOfNums l).size = l.length := by
  unfold strOfNums
  show (List.map _ l).toArray.size = _
  simp
theorem nm_size (b : List Nat) (n : Nat) (h : 5 + n ≤ b.length) : (nm b n).size = n := by
  rw [nm_eq, str_size, O_len, List.length_drop, List.length_take]
  omega
theorem bs_str {m : List Nat} (h : ∀ x ∈ m, x < 256) : bs (strOfNums (O m)) = m := by
  unfold bs strOfNums O
  simp only [List.map_map]
  conv => rhs; rw [← List.map_id m]
  refine List.map_congr_left fun x hx => ?_
  show (UInt8.ofNat x).toNat = x
  rw [UInt8.toNat_ofNat', Nat.mod_eq_of_lt (h x hx)]
theorem bs_nm (b : List Nat) (hb : ∀ x ∈ b, x < 256) (n : Nat) : bs (nm b n) = (b.take (5 + n)).drop 5 := by
  rw [nm_eq]
  exact bs_str (fun x hx => hb x (List.mem_of_mem_take (List.mem_of_mem_drop hx)))
abbrev Dec := Int × ByteArray × Bool × Int
noncomputable def bad : Dec := (0, ⟨#[]⟩, false, 8)
noncomputable def Is (c : List Int) (b : List Nat) : Prop := (strOfNums c).toList = (strOfNums (O b)).toList
noncomputable instance (c : List Int) (b : List Nat) : Decidable (Is c b) := inferInstanceAs (Decidable (_ = _))
noncomputable def decE (b : List Nat) (a : Int) (s : ByteArray) : Dec := if (encS a s).2 = 0 then (if Is (encS a s).1 b then (a, s, true, 0) else bad) else bad
noncomputable def zeroB (b : List Nat) : Prop := Is (List.replicate 32 0) b
noncomputable instance (b : List Nat) : Decidable (zeroB b) := inferInstanceAs (Decidable (_ = _))
noncomputable def decS (b : List Nat) : Dec :=
  if b.length = 32 then (if zeroB b then (0, ⟨#[]⟩, false, 0) else if b.getD 4 0 > 27 then bad else decE b ((numN b 0 4 : Nat) : Int) (nm b (b.getD 4 0))) else bad
theorem ev_two {α : Type} {c d : Prop} [Decidable c] [Decidable d] (x y : α) : Ev (fun _ : Nat => if c then (if d then some x else some y) else some y) (if c then (if d then x else y) else y) := by
  by_cases h : c
  · by_cases g : d
    · simp only [if_pos h, if_pos g]; exact Ev.now _
    · simp only [if_pos h, if_neg g]; exact Ev.now _
  · simp only [if_neg h]; exact Ev.now _
theorem enc_ok {a : Int} {s : ByteArray} (h : (encS a s).2 = 0) : encOk a s ∧ encS a s = (O (encL a.toNat (bs s)), 0) := by
  unfold encS at h ⊢
  by_cases c : encOk a s
  · exact ⟨c, by rw [if_pos c]⟩
  · rw [if_neg c] at h; exact absurd h (by decide)
theorem is_enc {n : Nat} {m : List Nat} (hm : ∀ x ∈ m, x < 256) {b : List Nat} (hb : ∀ x ∈ b, x < 256) (h : Is (O (encL n m)) b) : encL n m = b := str_inj (encL_lt hm) hb h
theorem encL_four {n : Nat} {m : List Nat} (h : m.length ≤ 27) : (encL n m).getD 4 0 = m.length := by
  unfold encL
  have hl : (putL n 4).length = 4 := putL_length n 4
  rw [List.append_assoc, List.append_assoc, List.getD_eq_getElem?_getD, List.getElem?_append_right (by omega), hl]
  show m.length % 256 = m.length
  omega
theorem encL_num {n : Nat} {m : List Nat} (hn : n < 4294967296) : numN (encL n m) 0 4 = n := by
  have : encL n m = [] ++ (putL n 4 ++ ([m.length % 256] ++ m ++ List.replicate (27 - m.length) 0)) := by
    unfold encL
    simp only [List.append_assoc, List.nil_append]
  rw [this]
  exact numN_at [] _ n 4 (by simpa using hn)
theorem encL_name {n : Nat} {m : List Nat} : ((encL n m).take (5 + m.length)).drop 5 = m := by
  unfold encL
  have hl : (putL n 4 ++ [m.length % 256]).length = 5 := by simp [putL_length]
  have h2 : (putL n 4 ++ [m.length % 256] ++ m).length = 5 + m.length := by rw [List.length_append, hl]
  rw [List.take_left' h2, List.drop_left' hl]
theorem octs4 (b : List Nat) (i : Nat) (h : i < b.length) : rd (O b) (i : Int) = ((b.getD i 0 : Nat) : Int) := by
  rw [rd_at b i h, List.getD_eq_getElem?_getD, List.getElem?_eq_getElem h]
  rfl
theorem ev_num4 (b : List Nat) (hb : ∀ x ∈ b, x < 256) (h : b.length = 32) : Ev (fun k => octets_Get.f k (O b) 0 4) (((numN b 0 4 : Nat) : Int), 0) :=
  Ev.of (fun f => octets_Get.mono _ _ _ f) (getF_ok b 0 4 hb (by omega) (by decide) (by decide) (by omega))
theorem num4_lt (b : List Nat) (hb : ∀ x ∈ b, x < 256) : numN b 0 4 < 4294967296 := by
  have := numN_lt b hb 0 4
  simpa using this
theorem ev_rdec (b : List Nat) (hb : ∀ x ∈ b, x < 256) : Ev (fun k => ashlarref15_Decode.f k (O b)) (decS b) := by
  unfold ashlarref15_Decode.f decS
  by_cases h : b.length = 32
  · rw [if_pos h]
    refine Ev.pos (by rw [O_len, h]; rfl) (Ev.pos (by decide) ?_)
    by_cases z : zeroB b
    · rw [if_pos z]
      exact Ev.pos (Eq.symm z) (Ev.val rfl)
    rw [if_neg z]
    refine Ev.neg (fun e => z (Eq.symm e)) (Ev.bind (ev_rget b hb (by omega) 0 4 (by decide) (by decide) (by omega)) (Ev.pos (by rw [O_len, h]; decide) ?_))
    have e4 : rd (O b) 4 = ((b.getD 4 0 : Nat) : Int) := octs4 b 4 (by omega)
    rw [e4]
    by_cases g : b.getD 4 0 > 27
    · rw [if_pos g]
      exact Ev.pos (by omega) (Ev.val rfl)
    rw [if_neg g]
    have hn := num4_lt b hb
    refine Ev.neg (by omega) ?_
    rw [w64 ((b.getD 4 0 : Nat) : Int) (by omega) (by omega), w64 (5 + ((b.getD 4 0 : Nat) : Int)) (by omega) (by omega), w64 _ (by show -9223372036854775808 ≤ ((numN b 0 4 : Nat) : Int); omega) (by show ((numN b 0 4 : Nat) : Int) < _; omega)]
    refine Ev.pos (by omega) (Ev.pos (by rw [O_len, h]; omega) ?_)
    have e5 : (5 + ((b.getD 4 0 : Nat) : Int)).toNat = 5 + b.getD 4 0 := by omega
    rw [e5]
    refine Ev.bind (ev_renc _ (nm b (b.getD 4 0)) (by rw [nm_size b _ (by omega)]; omega)) ?_
    exact ev_two _ _
  · rw [if_neg h]
    exact Ev.neg (by rw [O_len]; omega) (Ev.val rfl)
theorem ev_dec (b : List Nat) (hb : ∀ x ∈ b, x < 256) : Ev (fun k => dir_Decode.f k (O b)) (decS b) := by
  unfold dir_Decode.f decS
  by_cases h : b.length = 32
  · rw [if_pos h]
    refine Ev.pos (by rw [O_len, h]; rfl) (Ev.pos (by decide) ?_)
    by_cases z : zeroB b
    · rw [if_pos z]
      exact Ev.pos (Eq.symm z) (Ev.val rfl)
    rw [if_neg z]
    refine Ev.neg (fun e => z (Eq.symm e)) (Ev.bind (ev_num4 b hb h) (Ev.pos (by rw [O_len, h]; decide) ?_))
    have e4 : rd (O b) 4 = ((b.getD 4 0 : Nat) : Int) := octs4 b 4 (by omega)
    have h255 : b.getD 4 0 < 256 := by
      rw [List.getD_eq_getElem?_getD, List.getElem?_eq_getElem (by omega : 4 < b.length)]
      exact hb _ (List.getElem_mem _)
    have hmn : mn ((b.getD 4 0 : Nat) : Int) 27 = ((min (b.getD 4 0) 27 : Nat) : Int) := by unfold mn; split <;> omega
    have hn := num4_lt b hb
    rw [e4, w64 ((b.getD 4 0 : Nat) : Int) (by omega) (by omega), hmn, w64 (5 + ((min (b.getD 4 0) 27 : Nat) : Int)) (by omega) (by omega), w64 _ (by show -9223372036854775808 ≤ ((numN b 0 4 : Nat) : Int); omega) (by show ((numN b 0 4 : Nat) : Int) < _; omega)]
    refine Ev.pos (by omega) (Ev.pos (by rw [O_len, h]; omega) ?_)
    have e5 : (5 + ((min (b.getD 4 0) 27 : Nat) : Int)).toNat = 5 + min (b.getD 4 0) 27 := by omega
    rw [e5]
    refine Ev.bind (ev_enc _ (nm b (min (b.getD 4 0) 27)) (by rw [nm_size b _ (by omega)]; omega)) ?_
    by_cases g : b.getD 4 0 > 27
    · rw [if_pos g]
      have e6 : min (b.getD 4 0) 27 = 27 := by omega
      rw [e6]
      have e7 : decE b ((numN b 0 4 : Nat) : Int) (nm b 27) = bad := by
        unfold decE
        by_cases c : (encS ((numN b 0 4 : Nat) : Int) (nm b 27)).2 = 0
        · rw [if_pos c]
          obtain ⟨_, e⟩ := enc_ok c
          rw [e, if_neg]
          intro x
          have x2 := is_enc (bs_lt _) hb x
          have x3 : (encL ((numN b 0 4 : Nat) : Int).toNat (bs (nm b 27))).getD 4 0 = b.getD 4 0 := by rw [x2]
          have hsz : (bs (nm b 27)).length = 27 := by rw [bs_len, nm_size b 27 (by omega)]
          rw [encL_four (by omega), hsz] at x3
          omega
        · rw [if_neg c]
      rw [← e7]
      exact ev_two _ _
    · rw [if_neg g]
      have e6 : min (b.getD 4 0) 27 = b.getD 4 0 := by omega
      rw [e6]
      exact ev_two _ _
  · rw [if_neg h]
    exact Ev.neg (by rw [O_len]; omega) (Ev.val rfl)
end Go.Proofs.YteoklfcffckkkaaGreat.PQ
