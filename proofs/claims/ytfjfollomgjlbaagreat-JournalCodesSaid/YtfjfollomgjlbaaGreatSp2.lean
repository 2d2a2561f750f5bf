/-
  The plain law, part 2: what a sealed block is, and that the program's way to it and the reference's come to the same.
-/
import Derived.Test.YtfjfollomgjlbaaGreatSp1
import Derived.Test.YtfjfollomgjlbaaGreatPa
import Derived.Test.YtfjfollomgjlbaaGreatOc2
set_option linter.unusedVariables false
set_option linter.unusedSimpArgs false
namespace Go.Proofs.YtfjfollomgjlbaaGreat.PQ
open Go.RowKit Go.Proofs.YtfjfollomgjlbaaGreatW.PrintWords Go.Proofs.YtfjfollomgjlbaaGreatW.PrintLast Go.Proofs.YtfjfollomgjlbaaGreatW.PrintMore
open Go.Proofs.YtfjfollomgjlbaaGreat.Am (putL getL crcF crcL crcB crcN)
open Go.Proofs.YtfjfollomgjlbaaGreat.Run (putF_ok getF_ok putL_length rd_at)
abbrev O (l : List Nat) : List Int := l.map Int.ofNat
theorem O_app (a b : List Nat) : O (a ++ b) = O a ++ O b := List.map_append
theorem O_len (a : List Nat) : (O a).length = a.length := List.length_map _
theorem O_rep (n : Nat) : O (List.replicate n 0) = List.replicate n 0 := List.map_replicate
theorem putL_leb : ∀ n x, O (putL x n) = leb n x
  | 0, _ => rfl
  | n + 1, x => by
    show Int.ofNat (x % 256) :: O (putL (x >>> 8) n) = _
    rw [putL_leb n, Nat.shiftRight_eq_div_pow]
    rfl
theorem putL_lt : ∀ n x, ∀ y ∈ putL x n, y < 256
  | 0, _, y, h => by cases h
  | n + 1, x, y, h => by
    rcases List.mem_cons.1 h with rfl | h
    · exact Nat.mod_lt _ (by decide)
    · exact putL_lt n _ y h
theorem ev_put {n x : Nat} (h1 : 1 ≤ n) (h8 : n ≤ 8) (hx : x < 256 ^ n) : Ev (fun k => octets_Put.f k (x : Int) (n : Int)) (O (putL x n), 0) :=
  Ev.of (fun k => octets_Put.mono _ _ k) (putF_ok x n h1 h8 (by
    rw [Nat.shiftRight_eq_div_pow, Nat.div_eq_of_lt]
    rw [Nat.pow_mul]
    exact hx))
theorem crc_lt (l : List Nat) (hl : ∀ x ∈ l, x < 256) : crcF 0 l < 4294967296 := by
  obtain ⟨_, q⟩ := Am.crcL_ok l 4294967295 (by decide) hl
  have h : crcF 0 l = 4294967295 - crcL l 4294967295 := rfl
  omega
theorem ev_crc (l : List Nat) (hl : ∀ x ∈ l, x < 256) (hn : l.length ≤ 1000) : Ev (fun k => octets_Crc.f k 0 (O l)) ((crcF 0 l : Nat) : Int) := by
  refine ⟨0, fun k _ => ?_⟩
  unfold octets_Crc.f
  rw [if_pos (by rw [O_len]; omega)]
  have := Am.crcF_ok 0 l (by decide) hl
  rw [Run.crcZ_eq]
  exact congrArg some this
def pad (b : List Nat) : List Nat := b ++ List.replicate (124 - b.length) 0
noncomputable def sealN (b : List Nat) : List Nat := pad b ++ putL (crcF 0 (pad b)) 4
theorem pad_len {b : List Nat} (h : b.length ≤ 124) : (pad b).length = 124 := by simp [pad]; omega
theorem pad_lt {b : List Nat} (h : ∀ x ∈ b, x < 256) : ∀ x ∈ pad b, x < 256 := by
  intro x hx
  rcases List.mem_append.1 hx with hx | hx
  · exact h x hx
  · have := List.eq_of_mem_replicate hx; omega
theorem seal_len {b : List Nat} (h : b.length ≤ 124) : (sealN b).length = 128 := by
  unfold sealN
  rw [List.length_append, pad_len h, putL_length]
theorem seal_lt {b : List Nat} (h : ∀ x ∈ b, x < 256) : ∀ x ∈ sealN b, x < 256 := by
  intro x hx
  rcases List.mem_append.1 hx with hx | hx
  · exact pad_lt h x hx
  · exact putL_lt _ _ x hx
def fours (l : List Nat) : List Nat := l.flatMap (fun x => putL x 4)
theorem fours_cons (x : Nat) (l : List Nat) : fours (x :: l) = putL x 4 ++ fours l := rfl
theorem fours_app (a b : List Nat) : fours (a ++ b) = fours a ++ fours b := List.flatMap_append
theorem fours_len : ∀ l : List Nat, (fours l).length = 4 * l.length
  | [] => rfl
  | x :: l => by rw [fours_cons, List.length_append, putL_length, fours_len l, List.length_cons]; omega
theorem fours_lt : ∀ l : List Nat, ∀ x ∈ fours l, x < 256 := by
  intro l x hx
  obtain ⟨y, _, h⟩ := List.mem_flatMap.1 hx
  exact putL_lt _ _ x h
theorem app_lt {a b : List Nat} (ha : ∀ x ∈ a, x < 256) (hb : ∀ x ∈ b, x < 256) : ∀ x ∈ a ++ b, x < 256 := by
  intro x hx
  rcases List.mem_append.1 hx with hx | hx
  · exact ha x hx
  · exact hb x hx
theorem sealed_l0 (fs : List Nat) (hf : ∀ x ∈ fs, x < 4294967296) (hfl : fs.length ≤ 28) : ∀ (m i : Nat) (b : List Nat), i + m = fs.length → (∀ x ∈ b, x < 256) → b.length + 4 * m ≤ 124 →
    Ev (fun k => journal_sealed.l0 k (O b) (O fs) (fs.length : Int) (i : Int)) (O (sealN (b ++ fours (fs.drop i))))
  | 0, i, b, hi, hb, hl => by
    refine Ev.head ?_
    simp only [journal_sealed.l0]
    refine Ev.neg (by omega) ?_
    have hw : wrap64 (124 - ((O b).length : Int)) = ((124 - b.length : Nat) : Int) := by rw [O_len, w64 _ (by omega) (by omega)]; omega
    rw [hw]
    have hd : fs.drop i = [] := List.drop_eq_nil_of_le (by omega)
    rw [hd, show fours [] = [] from rfl, List.append_nil]
    refine Ev.pos (by omega) (Ev.pos (by rw [O_len]; omega) (Ev.bind (Ev.now _) ?_))
    have hp : O b ++ List.replicate ((124 - b.length : Nat) : Int).toNat 0 = O (pad b) := by
      unfold pad
      rw [O_app, O_rep]
      congr 1
    rw [hp]
    have hc := crc_lt _ (pad_lt hb)
    refine Ev.bind (ev_crc _ (pad_lt hb) (by rw [pad_len (by omega)]; omega)) ?_
    rw [u64w _ (by omega) (by omega)]
    refine Ev.bind (ev_put (n := 4) (by decide) (by decide) (by simpa using hc)) ?_
    refine Ev.pos ?_ (Ev.val ?_)
    · simp only [O_len, pad_len (by omega : b.length ≤ 124), putL_length]; omega
    · unfold sealN; rw [O_app]
  | m + 1, i, b, hi, hb, hl => by
    have hlt : i < fs.length := by omega
    refine Ev.head ?_
    simp only [journal_sealed.l0]
    refine Ev.pos (by omega) (Ev.pos (by omega) (Ev.pos (by rw [O_len]; omega) ?_))
    rw [rd_at fs i hlt]
    refine Ev.bind (ev_put (n := 4) (by decide) (by decide) (by simpa using hf _ (List.getElem_mem hlt))) ?_
    refine Ev.pos (by simp only [O_len, putL_length]; omega) ?_
    rw [w64 ((i : Int) + 1) (by omega) (by omega), ← O_app]
    have := sealed_l0 fs hf hfl m (i + 1) (b ++ putL fs[i] 4) (by omega) (app_lt hb (putL_lt _ _)) (by rw [List.length_append, putL_length]; omega)
    rw [List.drop_eq_getElem_cons hlt, fours_cons, ← List.append_assoc]
    exact this
theorem ev_sealed (a : ByteArray) (M : List Nat) (hM : bytesOf a = O M) (hs : a.size = 4) (hl4 : M.length = 4) (hMl : ∀ x ∈ M, x < 256) (e : Nat) (he : e < 18446744073709551616) (fs : List Nat) (hf : ∀ x ∈ fs, x < 4294967296) (hl : fs.length ≤ 28) :
    Ev (fun k => journal_sealed.f k a (e : Int) (O fs)) (O (sealN (M ++ putL e 8 ++ fours fs))) := by
  unfold journal_sealed.f
  refine Ev.pos (by decide) (Ev.bind (Ev.now _) ?_)
  refine Ev.pos (by rw [hs]; decide) (Ev.bind (Ev.now _) (Ev.bind (ev_put (n := 8) (by decide) (by decide) (by simpa using he)) ?_))
  rw [hM, show List.replicate 0 (0 : Int) ++ O M = O M from rfl]
  refine Ev.pos (by simp only [O_len, putL_length]; omega) ?_
  simp only [← O_app, O_len]
  have := sealed_l0 fs hf hl fs.length 0 (M ++ putL e 8) (by omega) (app_lt hMl (putL_lt _ _)) (by rw [List.length_append, putL_length]; omega)
  simpa using this
end Go.Proofs.YtfjfollomgjlbaaGreat.PQ
