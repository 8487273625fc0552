/- The matrix of two words one after the other is the product, and all determinants are 1: for all codes. -/
import Derived.Test.YtnoopmbhdlfkbaaDoorSayFnMatrices
namespace Go.Proofs.YtnoopmbhdlfkbaaDoor.Pure
open Go.RowKit Go.Proofs.YtnoopmbhdlfkbaaDoor.S Go.Proofs.YtnoopmbhdlfkbaaDoorW.PrintWords Go.Proofs.YtnoopmbhdlfkbaaDoorW.PrintLast
set_option linter.unusedVariables false
set_option linter.unusedSimpArgs false

theorem ev_up {α : Type} {g : Nat → Option α} {r : α} (h : Ev (fun k => g (k + 1)) r) : Ev g r := Ev.step (fun _ => rfl) h
theorem ev_k {α : Type} {g : Nat → Option α} {r : α} {n : Nat} (h : ∀ k, n < k → g k = some r) : Ev g r := ⟨n + 1, fun k hk => h k (by omega)⟩

theorem pw_wf {a : Int} (h : (Lit.int .i64 a).wf = true) : -9223372036854775808 ≤ a ∧ a ≤ 9223372036854775807 := by
  simp [Lit.wf, IntKind.min, IntKind.max, IntKind.signed, IntKind.bits] at h
  omega
theorem pw_wrap {a : Int} (h0 : -9223372036854775808 ≤ a) (h1 : a ≤ 9223372036854775807) : wrap64 a = a := by
  unfold wrap64
  omega

theorem and255 (x : Int) : 0 ≤ Go.bits .and .i64 x 255 ∧ Go.bits .and .i64 x 255 ≤ 255 := by
  have h : (BitVec.ofInt 64 x &&& BitVec.ofInt 64 255).toNat ≤ 255 := by
    rw [BitVec.toNat_and]
    exact Nat.le_trans Nat.and_le_right (by decide)
  show 0 ≤ IntKind.i64.wrap ((BitVec.ofInt 64 x &&& BitVec.ofInt 64 255).toNat : Int) ∧ IntKind.i64.wrap ((BitVec.ofInt 64 x &&& BitVec.ofInt 64 255).toNat : Int) ≤ 255
  generalize (BitVec.ofInt 64 x &&& BitVec.ofInt 64 255).toNat = n at *
  rw [IntKind.wrap_i64]
  omega
theorem byte_some (l : List Int) (hl : l.length ≤ 4611686018427387904) (i h : Int) (hi : 0 ≤ i) : ∃ v i' h', spec_l01Byte.f l i h = some (v, i', h') ∧ 0 ≤ v ∧ v ≤ 255 ∧ 0 ≤ i' := by
  unfold spec_l01Byte.f
  by_cases h1 : i < (l.length : Int)
  · simp only [if_pos h1, if_pos hi]
    exact ⟨_, _, _, rfl, (and255 _).1, (and255 _).2, by rw [pw_wrap (by omega) (by omega)]; omega⟩
  · simp only [if_neg h1]
    exact ⟨_, _, _, rfl, (and255 _).1, (and255 _).2, hi⟩
theorem below_some (l : List Int) (hl : l.length ≤ 4611686018427387904) (i h : Int) (hi : 0 ≤ i) (n : Int) (h1 : 1 ≤ n) (h2 : n ≤ 256) : ∃ v i' h', spec_l01Below.f l i h n = some (v, i', h') ∧ 0 ≤ v ∧ v < n ∧ 0 ≤ i' := by
  obtain ⟨v, i', h', e, v0, v1, hi'⟩ := byte_some l hl i h hi
  unfold spec_l01Below.f
  simp only [if_neg (show ¬ n ≤ 0 by omega), if_pos h2, e, Option.bind_some, if_neg (show ¬ n = 0 by omega)]
  refine ⟨_, _, _, rfl, ?_, ?_, hi'⟩
  · exact Int.tmod_nonneg _ v0
  · rw [Int.tmod_eq_emod_of_nonneg v0]
    exact Int.emod_lt_of_pos _ (by omega)
theorem new_l0 (l : List Int) (hl : l.length ≤ 4611686018427387904) : ∀ (d : Nat) (x i : Int), 0 ≤ i → i + d = 4000 → ∃ h, Ev (fun k => spec_l01New.l0 k l x i) (l, 0, h)
  | 0, x, i, h0, h1 => by
    by_cases h : i < (l.length : Int)
    · refine ⟨x, ev_up ?_⟩
      simp only [spec_l01New.l0, if_pos h, if_neg (show ¬ i < 4000 by omega)]
      exact Ev.now _
    · refine ⟨x, ev_up ?_⟩
      simp only [spec_l01New.l0, if_neg h]
      exact Ev.now _
  | d + 1, x, i, h0, h1 => by
    by_cases h : i < (l.length : Int)
    · obtain ⟨r, hr⟩ := new_l0 l hl d (Go.bits .and .i64 (wrap64 ((wrap64 ((wrap64 (x * 109)) + (wrap64 (rd l i)))) + 7)) 1073741823) (i + 1) (by omega) (by omega)
      refine ⟨r, ev_up ?_⟩
      simp only [spec_l01New.l0, if_pos h, if_pos (show i < 4000 by omega), if_pos h0, pw_wrap (a := i + 1) (by omega) (by omega)]
      exact hr
    · refine ⟨x, ev_up ?_⟩
      simp only [spec_l01New.l0, if_neg h]
      exact Ev.now _
theorem new_some (l : List Int) (hl : l.length ≤ 4611686018427387904) : ∃ h, Ev (fun k => spec_l01New.f k l) (l, 0, h) := by
  unfold spec_l01New.f
  exact new_l0 l hl 4000 _ 0 (by omega) (by omega)
theorem skip_l0 (l : List Int) (hl : l.length ≤ 4611686018427387904) (n : Int) (hn : n ≤ 1000000) : ∀ (d : Nat) (i s1 s2 : Int), 0 ≤ i → i + d = n → 0 ≤ s1 → ∃ t1 t2, Ev (fun k => spec_l20New.l0 k l n i s1 s2) (l, t1, t2) ∧ 0 ≤ t1
  | 0, i, s1, s2, h0, h1, hs => by
    refine ⟨s1, s2, ev_up ?_, hs⟩
    simp only [spec_l20New.l0, if_neg (show ¬ i < n by omega)]
    exact Ev.now _
  | d + 1, i, s1, s2, h0, h1, hs => by
    obtain ⟨v, t1, t2, e, _, _, ht⟩ := byte_some l hl s1 s2 hs
    obtain ⟨u1, u2, hr, hu⟩ := skip_l0 l hl n hn d (i + 1) t1 t2 (by omega) (by omega) ht
    refine ⟨u1, u2, ev_up ?_, hu⟩
    simp only [spec_l20New.l0, if_pos (show i < n by omega), e, Option.bind_some, pw_wrap (a := i + 1) (by omega) (by omega)]
    exact hr
theorem skip_some (l : List Int) (hl : l.length ≤ 4611686018427387904) (n : Int) (h0 : 0 ≤ n) (hn : n ≤ 1000000) : ∃ t1 t2, Ev (fun k => spec_l20New.f k l n) (l, t1, t2) ∧ 0 ≤ t1 := by
  obtain ⟨h, e⟩ := new_some l hl
  obtain ⟨t1, t2, hr, ht⟩ := skip_l0 l hl n hn n.toNat 0 0 h (by omega) (by omega) (by omega)
  unfold spec_l20New.f
  exact ⟨t1, t2, Ev.bind e hr, ht⟩
/-- A number in decimals. -/
def decB (u : Nat) : ByteArray := ⟨(Go.Lib.decDigits u).toArray⟩
def itoaB (n : Int) : ByteArray := ⟨(Go.Lib.itoa n).toArray⟩
theorem nDig_le : ∀ (d u : Nat), u < 10 ^ (d + 1) → Go.Lib.nDigits u ≤ d + 1
  | 0, u, h => by rw [Go.Lib.nDigits_small (by simpa using h)]; omega
  | d + 1, u, h => by
    by_cases hu : u < 10
    · rw [Go.Lib.nDigits_small hu]; omega
    · rw [Go.Lib.nDigits_big hu]
      have := nDig_le d (u / 10) (by rw [Nat.pow_succ] at h; omega)
      omega
theorem decB_size (u : Nat) : (decB u).size = Go.Lib.nDigits u := by
  show (Go.Lib.decDigits u).toArray.size = _
  rw [List.size_toArray, Go.Lib.decDigits_length]
theorem bytes_app (a b : List UInt8) : (⟨a.toArray⟩ : ByteArray) ++ ⟨b.toArray⟩ = ⟨(a ++ b).toArray⟩ := by
  apply ByteArray.ext
  rw [ByteArray.data_append]
  simp
theorem app_assocB (a b c : ByteArray) : a ++ b ++ c = a ++ (b ++ c) := by
  apply ByteArray.ext
  simp [ByteArray.data_append, Array.append_assoc]
theorem one_strB (n : Int) (u : Nat) (h : n = ((u : Nat) : Int)) : strOfNums [n] = ⟨[UInt8.ofNat u].toArray⟩ := by
  subst h
  simp [strOfNums]
theorem strOne_size (n : Int) : (strOfNums [n]).size = 1 := id rfl
theorem decB_small {u : Nat} (h : u < 10) : decB u = strOfNums [(48 + (u : Int))] := by
  rw [one_strB _ (48 + u) (by omega)]
  unfold decB
  rw [Go.Lib.decDigits, dif_pos h]
theorem decB_big {u : Nat} (h : ¬ u < 10) : decB u = decB (u / 10) ++ strOfNums [(48 + (u : Int) % 10)] := by
  rw [one_strB _ (48 + u % 10) (by omega)]
  unfold decB
  rw [bytes_app, Go.Lib.decDigits, dif_neg h]
theorem itoaB_pos {n : Int} (h : 0 ≤ n) : itoaB n = decB n.toNat := by
  unfold itoaB Go.Lib.itoa decB
  rw [if_neg (by omega)]
theorem itoaB_neg {n : Int} (h : n < 0) : itoaB n = (⟨#[45]⟩ : ByteArray) ++ decB n.natAbs := by
  unfold itoaB Go.Lib.itoa decB
  rw [if_pos h, show (⟨#[45]⟩ : ByteArray) = ⟨[45].toArray⟩ from rfl, bytes_app]
  rfl
theorem itoaB_size {n : Int} (h0 : -9223372036854775808 ≤ n) (h1 : n ≤ 9223372036854775807) : (itoaB n).size ≤ 20 := by
  by_cases h : 0 ≤ n
  · rw [itoaB_pos h, decB_size]
    have := nDig_le 18 n.toNat (by omega)
    omega
  · rw [itoaB_neg (by omega), ByteArray.size_append, decB_size]
    have := nDig_le 18 n.natAbs (by omega)
    show 1 + _ ≤ 20
    omega
theorem impl_fmtint {n : Int} (h0 : -9223372036854775808 ≤ n) (h1 : n ≤ 9223372036854775807) : impl_FormatInt.f n = some (itoaB n) := by
  unfold impl_FormatInt.f strconv_Itoa.f
  rw [if_pos ⟨h0, h1⟩]
  rfl
theorem i64_wf {x : Int} (h : (Lit.int .i64 x).wf = true) : -9223372036854775808 ≤ x ∧ x ≤ 9223372036854775807 := pw_wf h

/-- A word, as a text. -/
def wordB (ws : List UInt8) : ByteArray := ⟨ws.toArray⟩
def letters : List UInt8 := [84, 116, 83, 115]
def GoodW (ws : List UInt8) : Prop := ∀ c ∈ ws, c ∈ letters
theorem wordB_size (ws : List UInt8) : (wordB ws).size = ws.length := by
  have h : (wordB ws).size = ws.toArray.size := rfl
  rw [h, List.size_toArray]
theorem wordB_app (a b : List UInt8) : wordB a ++ wordB b = wordB (a ++ b) := bytes_app a b
theorem bt_mid (p s : List UInt8) (c : UInt8) : bt (wordB (p ++ c :: s)) (p.length : Int) = (c.toNat : Int) := by
  have h : ((p.length : Nat) : Int).toNat < (wordB (p ++ c :: s)).size := by rw [wordB_size]; simp
  unfold bt
  rw [dif_pos h]
  have e : (wordB (p ++ c :: s))[((p.length : Nat) : Int).toNat]'h = c := by
    show (p ++ c :: s).toArray[((p.length : Nat) : Int).toNat]'_ = c
    simp
  rw [e]
theorem wordOk_l0 (ws : List UInt8) (hl : ws.length ≤ 40) (hg : GoodW ws) : ∀ (suf pre : List UInt8), ws = pre ++ suf → Ev (fun k => impl_WordOk.l0 k (wordB ws) (pre.length : Int)) true
  | [], pre, e => by
    refine ev_up ?_
    have e2 : ws = pre := by simpa using e
    subst e2
    simp only [impl_WordOk.l0, wordB_size, if_neg (show ¬ ((ws.length : Int) < ws.length) by omega), decide_eq_true (show (ws.length : Int) ≤ 40 by omega)]
    exact Ev.now _
  | c :: suf, pre, e => by
    refine ev_up ?_
    have hlen : ws.length = pre.length + suf.length + 1 := by rw [e]; simp; omega
    have hc := hg c (by rw [e]; simp)
    have hb : bt (wordB ws) (pre.length : Int) = (c.toNat : Int) := by rw [e]; exact bt_mid _ _ _
    have hw : wrap64 ((pre.length : Int) + 1) = ((pre ++ [c]).length : Int) := by rw [pw_wrap (by omega) (by omega)]; simp
    have hi : ∃ z : Int, strings_IndexByte.f (⟨#[84, 116, 83, 115]⟩ : ByteArray) (c.toNat : Int) = some z ∧ ¬ z < 0 := by
      simp only [letters, List.mem_cons, List.not_mem_nil, or_false] at hc
      rcases hc with rfl | rfl | rfl | rfl
      · exact ⟨0, by decide, by omega⟩
      · exact ⟨1, by decide, by omega⟩
      · exact ⟨2, by decide, by omega⟩
      · exact ⟨3, by decide, by omega⟩
    obtain ⟨z, hz, hz0⟩ := hi
    simp only [impl_WordOk.l0, wordB_size, if_pos (show ((pre.length : Int) < ws.length) by omega), if_pos (show (0 ≤ (pre.length : Int)) by omega), hb, hz, Option.bind_some, if_neg hz0, hw]
    exact wordOk_l0 ws hl hg suf (pre ++ [c]) (by simp [e])
theorem wordOk (ws : List UInt8) (hl : ws.length ≤ 40) (hg : GoodW ws) : Ev (fun k => impl_WordOk.f k (wordB ws)) true := wordOk_l0 ws hl hg ws [] rfl
theorem str_some (l : List Int) (hl : l.length ≤ 4611686018427387904) (i h : Int) (hi : 0 ≤ i) : ∃ c i' h', spec_l01Str.f l i h [(⟨#[84]⟩ : ByteArray), (⟨#[83]⟩ : ByteArray), (⟨#[116]⟩ : ByteArray), (⟨#[115]⟩ : ByteArray), (⟨#[84]⟩ : ByteArray)] = some (wordB [c], i', h') ∧ c ∈ letters ∧ 0 ≤ i' := by
  obtain ⟨v, i', h', e, v0, v1, hi'⟩ := below_some l hl i h hi 5 (by omega) (by omega)
  unfold spec_l01Str.f
  simp only [List.length_cons, List.length_nil, show (((0 + 1 + 1 + 1 + 1 + 1 : Nat) : Int)) = 5 from rfl, e, Option.bind_some, if_pos v0, if_pos v1]
  have hv : v = 0 ∨ v = 1 ∨ v = 2 ∨ v = 3 ∨ v = 4 := by omega
  rcases hv with rfl | rfl | rfl | rfl | rfl
  · exact ⟨84, i', h', rfl, by decide, hi'⟩
  · exact ⟨83, i', h', rfl, by decide, hi'⟩
  · exact ⟨116, i', h', rfl, by decide, hi'⟩
  · exact ⟨115, i', h', rfl, by decide, hi'⟩
  · exact ⟨84, i', h', rfl, by decide, hi'⟩
theorem word_l0 (l : List Int) (hl : l.length ≤ 4611686018427387904) : ∀ (n : Nat) (ws : List UInt8) (i h : Int), n ≤ 100 → ws.length + n ≤ 100 → GoodW ws → 0 ≤ i → ∃ vs i' h', Ev (fun k => spec_l05Word.l0 k (wordB ws) (n : Int) l i h) (wordB vs, i', h') ∧ GoodW vs ∧ vs.length = ws.length + n
  | 0, ws, i, h, _, _, hg, _ => by
    refine ⟨ws, i, h, ev_up ?_, hg, rfl⟩
    simp only [spec_l05Word.l0, if_neg (show ¬ ((0 : Nat) : Int) > 0 by omega)]
    exact Ev.now _
  | n + 1, ws, i, h, hn, hw, hg, hi => by
    obtain ⟨c, i', h', e, hc, hi'⟩ := str_some l hl i h hi
    obtain ⟨vs, i2, h2, hr, hv, hlen⟩ := word_l0 l hl n (ws ++ [c]) i' h' (by omega) (by simp; omega) (fun x hx => by
      rcases List.mem_append.1 hx with hx | hx
      · exact hg x hx
      · simp at hx; subst hx; exact hc) hi'
    refine ⟨vs, i2, h2, ev_up ?_, hv, by rw [hlen]; simp; omega⟩
    have hw2 : wrap64 (((n + 1 : Nat) : Int) - 1) = (n : Int) := by rw [pw_wrap (by omega) (by omega)]; omega
    simp only [spec_l05Word.l0, if_pos (show ((n + 1 : Nat) : Int) > 0 by omega), e, Option.bind_some, wordB_size, wordB_app, hw2]
    refine Ev.congr (f := fun k => _) (fun k => if_pos (by simp; omega)) ?_
    exact hr
theorem word_some (l : List Int) (hl : l.length ≤ 4611686018427387904) (n : Int) (h0 : 0 ≤ n) (hn : n ≤ 1000000) : ∃ ws, Ev (fun k => spec_MakeWord.f k l n) (wordB ws) ∧ GoodW ws ∧ ws.length ≤ 6 := by
  obtain ⟨t1, t2, e, ht⟩ := skip_some l hl n h0 hn
  obtain ⟨v, i', h', e2, v0, v1, hi⟩ := below_some l hl t1 t2 ht 7 (by omega) (by omega)
  have ev : v = ((v.toNat : Nat) : Int) := by omega
  obtain ⟨vs, i2, h2, hr, hv, hlen⟩ := word_l0 l hl v.toNat [] i' h' (by omega) (by simp; omega) (by intro c hc; simp at hc) hi
  unfold spec_MakeWord.f
  refine ⟨vs, Ev.bind e ?_, hv, by rw [hlen]; simp; omega⟩
  refine Ev.bind (a := (wordB vs, i2, h2)) ?_ (Ev.now _)
  unfold spec_l05Word.f
  simp only [show wrap64 (6 + 1) = 7 from by unfold wrap64; omega, e2, Option.bind_some]
  rw [← ev] at hr
  exact hr

def joinOf (l : List ByteArray) (sep : ByteArray) : ByteArray := ⟨(joinB l sep).toArray⟩
def tot (l : List ByteArray) (sep : ByteArray) : Nat := match l with
  | [] => 0
  | x :: xs => x.size + sep.size + tot xs sep
theorem tot_append (sep : ByteArray) : ∀ (a b : List ByteArray), tot (a ++ b) sep = tot a sep + tot b sep
  | [], b => by simp [tot]
  | x :: a, b => by simp only [List.cons_append, tot, tot_append sep a b]; omega
theorem join_two (sep a : List UInt8) (xs : List (List UInt8)) (h : xs ≠ []) : Go.Lib.join (a :: xs) sep = a ++ sep ++ Go.Lib.join xs sep := by
  cases xs with
  | nil => exact absurd rfl h
  | cons b t => simp [Go.Lib.join, List.intercalate]
theorem join_snoc (sep x : List UInt8) : ∀ (xs : List (List UInt8)), xs ≠ [] → Go.Lib.join (xs ++ [x]) sep = Go.Lib.join xs sep ++ sep ++ x
  | [], h => absurd rfl h
  | [a], _ => by simp [Go.Lib.join, List.intercalate]
  | a :: b :: t, _ => by
    rw [List.cons_append, join_two sep a _ (by simp), join_snoc sep x (b :: t) (by simp), join_two sep a (b :: t) (by simp)]
    simp [List.append_assoc]
theorem bytes_self (x : ByteArray) : (⟨x.data.toList.toArray⟩ : ByteArray) = x := by
  apply ByteArray.ext
  simp
theorem joinOf_nil (sep : ByteArray) : joinOf [] sep = ⟨#[]⟩ := by simp [joinOf, joinB, Go.Lib.join, List.intercalate]
theorem joinOf_one (x sep : ByteArray) : joinOf [x] sep = x := by
  simp [joinOf, joinB, Go.Lib.join, List.intercalate]
theorem joinOf_snoc (l : List ByteArray) (x sep : ByteArray) (h : l ≠ []) : joinOf (l ++ [x]) sep = joinOf l sep ++ sep ++ x := by
  unfold joinOf joinB
  rw [List.map_append, List.map_cons, List.map_nil, join_snoc _ _ _ (by simpa using h), ← bytes_app, ← bytes_app, bytes_self, bytes_self]
theorem joinOf_size (sep : ByteArray) : ∀ (l : List ByteArray), (joinOf l sep).size ≤ tot l sep
  | [] => by rw [joinOf_nil]; exact Nat.zero_le _
  | [x] => by rw [joinOf_one]; simp only [tot]; omega
  | x :: y :: l => by
    have h : joinOf (x :: y :: l) sep = x ++ sep ++ joinOf (y :: l) sep := by
      unfold joinOf joinB
      rw [List.map_cons, join_two _ _ _ (by simp), ← bytes_app, ← bytes_app, bytes_self, bytes_self]
    rw [h, ByteArray.size_append, ByteArray.size_append]
    have := joinOf_size sep (y :: l)
    rw [tot]
    omega
theorem tot_len (sep : ByteArray) (h : 1 ≤ sep.size) : ∀ (l : List ByteArray), l.length ≤ tot l sep
  | [] => by simp [tot]
  | x :: l => by
    have := tot_len sep h l
    simp only [List.length_cons, tot]
    omega
theorem rdOf_mid (d : ByteArray) (pre suf : List ByteArray) (x : ByteArray) : rdOf d (pre ++ x :: suf) (pre.length : Int) = x := by
  simp [rdOf, List.getD]
theorem impl_join (sep : ByteArray) (l : List ByteArray) (hl : l.length ≤ 1000000000000) (ht : tot l sep ≤ 1000000000000) : impl_Join.f l sep = some (joinOf l sep) := by
  unfold impl_Join.f strings_Join.f
  have hs : (joinB l sep).length ≤ tot l sep := by
    have := joinOf_size sep l
    exact this
  rw [if_pos ⟨by omega, by omega⟩]
  rfl

/-! Small words on lists, read at a place. -/
theorem len_snoc {α : Type} (p : List α) (x : α) : (p ++ [x]).length = p.length + 1 := by simp
theorem wrap_snoc {α : Type} {p s : List α} {x : α} (h : (p ++ x :: s).length ≤ 4611686018427387904) : wrap64 ((p.length : Int) + 1) = ((p ++ [x]).length : Int) := by
  simp at h ⊢
  unfold wrap64
  omega
theorem lt_mid {α : Type} (p s : List α) (x : α) : ((p.length : Nat) : Int) < ((p ++ x :: s).length : Int) := by simp; omega
theorem nlt_end {α : Type} (p : List α) : ¬ ((p.length : Nat) : Int) < ((p ++ []).length : Int) := by simp
theorem rd_mid (p s : List Int) (x : Int) : rd (p ++ x :: s) (p.length : Int) = x := by simp [rd, List.getD]
theorem nil_or_snoc {α : Type} (l : List α) : l = [] ∨ ∃ p x, l = p ++ [x] := by
  rcases List.eq_nil_or_concat l with h | ⟨p, x, h⟩
  · exact .inl h
  · exact .inr ⟨p, x, by rw [h]; simp⟩

def Ints64 (l : List Int) : Prop := ∀ x ∈ l, -9223372036854775808 ≤ x ∧ x ≤ 9223372036854775807
theorem tot_ints (sep : ByteArray) (hs : sep.size = 1) : ∀ (l : List Int), Ints64 l → tot (l.map itoaB) sep ≤ 21 * l.length
  | [], _ => by simp [tot]
  | x :: l, h => by
    have h1 := tot_ints sep hs l (fun y hy => h y (List.mem_cons_of_mem _ hy))
    have h2 := h x List.mem_cons_self
    have h3 := itoaB_size h2.1 h2.2
    simp only [List.map_cons, tot, List.length_cons]
    omega
theorem impl_ints_l0 (sep : ByteArray) (hs : sep.size = 1) (l : List Int) (hl : l.length ≤ 1048576) (h : Ints64 l) : ∀ (suf pre : List Int), l = pre ++ suf → Ev (fun k => impl_joinInts.l0 k sep (pre.map itoaB) l (l.length : Int) (pre.length : Int)) (joinOf (l.map itoaB) sep)
  | [], pre, e => by
    refine ev_up ?_
    have e2 : l = pre := by simpa using e
    subst e2
    have := tot_ints sep hs l h
    simp only [impl_joinInts.l0, if_neg (show ¬ ((l.length : Int) < l.length) by omega), impl_join sep (l.map itoaB) (by rw [List.length_map]; omega) (by omega), Option.bind_some]
    exact Ev.now _
  | x :: suf, pre, e => by
    refine ev_up ?_
    have hlen : l.length = pre.length + suf.length + 1 := by rw [e]; simp; omega
    have hx : rd l (pre.length : Int) = x := by rw [e]; exact rd_mid _ _ _
    have hxm := h x (by rw [e]; simp)
    have hw : wrap64 ((pre.length : Int) + 1) = ((pre ++ [x]).length : Int) := by rw [pw_wrap (by omega) (by omega)]; simp
    have ih := impl_ints_l0 sep hs l hl h suf (pre ++ [x]) (by simp [e])
    simp only [impl_joinInts.l0, if_pos (show ((pre.length : Int) < l.length) by omega), if_pos (show (0 ≤ (pre.length : Int)) by omega), hx, hw, impl_fmtint hxm.1 hxm.2, Option.bind_some]
    refine Ev.congr (f := fun k => _) (fun k => if_pos (by rw [List.length_map]; omega)) ?_
    rw [List.map_append] at ih
    exact ih
theorem impl_ints (sep : ByteArray) (hs : sep.size = 1) (l : List Int) (hl : l.length ≤ 1048576) (h : Ints64 l) : Ev (fun k => impl_joinInts.f k l sep) (joinOf (l.map itoaB) sep) := by
  unfold impl_joinInts.f
  exact impl_ints_l0 sep hs l hl h l [] rfl
theorem ints64_wf {l : List Int} (h : ∀ x ∈ l, (Lit.int .i64 x).wf = true) : Ints64 l := fun x hx => i64_wf (h x hx)

theorem loop_eq (b : ByteArray) : ∀ (d i : Nat) (r : List UInt8), b.size - i = d → ByteArray.toList.loop b i r = r.reverse ++ b.data.toList.drop i
  | 0, i, r, h => by
    rw [ByteArray.toList.loop, if_neg (by omega), List.drop_eq_nil_of_le (by have e : b.data.toList.length = b.size := rfl; omega)]
    simp
  | d + 1, i, r, h => by
    have hi : i < b.data.toList.length := by have e : b.data.toList.length = b.size := rfl; omega
    rw [ByteArray.toList.loop, if_pos (by omega), loop_eq b d (i + 1) _ (by omega), List.drop_eq_getElem_cons hi]
    have e : b.get! i = b.data.toList[i] := by
      have h2 : i < b.data.size := by simpa using hi
      show b.data[i]! = _
      rw [getElem!_pos b.data i h2]
      simp
    rw [e]
    simp
theorem toList_eq (b : ByteArray) : b.toList = b.data.toList := by
  unfold ByteArray.toList
  rw [loop_eq b b.size 0 [] (by omega)]
  simp
theorem toList_ne {b : ByteArray} (h : 0 < b.size) : b.toList ≠ [] := by
  rw [toList_eq]
  intro e
  have e2 : b.data.toList.length = b.size := rfl
  have e3 := congrArg List.length e
  simp only [List.length_nil] at e3
  omega

structure Mt where
  a : Int
  b : Int
  c : Int
  d : Int
def Mt.one : Mt := ⟨1, 0, 0, 1⟩
def Mt.mul (x y : Mt) : Mt := ⟨x.a * y.a + x.b * y.c, x.a * y.b + x.b * y.d, x.c * y.a + x.d * y.c, x.c * y.b + x.d * y.d⟩
def Mt.det (x : Mt) : Int := x.a * x.d - x.b * x.c
def Mt.Bd (x : Mt) (n : Int) : Prop := (-n ≤ x.a ∧ x.a ≤ n) ∧ (-n ≤ x.b ∧ x.b ≤ n) ∧ (-n ≤ x.c ∧ x.c ≤ n) ∧ (-n ≤ x.d ∧ x.d ≤ n)
/-- A letter's matrix times m. -/
def lm (c : UInt8) (m : Mt) : Mt := if c = 84 then ⟨m.a + m.c, m.b + m.d, m.c, m.d⟩ else if c = 116 then ⟨m.a - m.c, m.b - m.d, m.c, m.d⟩ else if c = 83 then ⟨-m.c, -m.d, m.a, m.b⟩ else ⟨m.c, m.d, -m.a, -m.b⟩
def matGo : List UInt8 → Mt → Mt
  | [], m => m
  | c :: ws, m => matGo ws (lm c m)
theorem matGo_app : ∀ (a b : List UInt8) (m : Mt), matGo (a ++ b) m = matGo b (matGo a m)
  | [], _, _ => rfl
  | c :: a, b, m => matGo_app a b (lm c m)
theorem lm_bd (c : UInt8) {m : Mt} {n : Int} (h : m.Bd n) : (lm c m).Bd (2 * n) := by
  obtain ⟨h1, h2, h3, h4⟩ := h
  unfold lm Mt.Bd
  split
  · simp only; omega
  · split
    · simp only; omega
    · split
      · simp only; omega
      · simp only; omega
theorem matGo_bd : ∀ (ws : List UInt8) (m : Mt) (n : Int), m.Bd n → (matGo ws m).Bd (2 ^ ws.length * n)
  | [], m, n, h => by simpa [matGo] using h
  | c :: ws, m, n, h => by
    have := matGo_bd ws (lm c m) (2 * n) (lm_bd c h)
    rw [matGo, List.length_cons, Int.pow_succ, Int.mul_assoc]
    exact this
theorem Bd_mono {m : Mt} {n k : Int} (h : m.Bd n) (hk : n ≤ k) : m.Bd k := by
  obtain ⟨h1, h2, h3, h4⟩ := h
  unfold Mt.Bd
  omega
theorem one_bd : Mt.one.Bd 1 := by unfold Mt.Bd Mt.one; simp only; omega
theorem pow_up {n k : Nat} (h : n ≤ k) : (2 : Int) ^ n ≤ 2 ^ k := by
  have := Nat.pow_le_pow_right (show 0 < 2 by omega) h
  exact_mod_cast this
theorem word_bd {ws : List UInt8} {k : Nat} (h : ws.length ≤ k) : (matGo ws Mt.one).Bd (2 ^ k) := by
  have := matGo_bd ws Mt.one 1 one_bd
  rw [Int.mul_one] at this
  exact Bd_mono this (pow_up h)
theorem lm_mul (c : UInt8) (x m : Mt) : lm c (x.mul m) = (lm c x).mul m := by
  unfold lm Mt.mul
  by_cases h1 : c = 84
  · simp only [if_pos h1, Mt.mk.injEq, Int.add_mul]
    grind
  · by_cases h2 : c = 116
    · simp only [if_neg h1, if_pos h2, Mt.mk.injEq, Int.sub_mul]
      grind
    · by_cases h3 : c = 83
      · simp only [if_neg h1, if_neg h2, if_pos h3, Mt.mk.injEq, Int.neg_mul]
        grind
      · simp only [if_neg h1, if_neg h2, if_neg h3, Mt.mk.injEq, Int.neg_mul]
        grind
theorem matGo_mul : ∀ (ws : List UInt8) (x m : Mt), matGo ws (x.mul m) = (matGo ws x).mul m
  | [], _, _ => rfl
  | c :: ws, x, m => by rw [matGo, matGo, lm_mul, matGo_mul ws]
theorem one_mul (m : Mt) : Mt.one.mul m = m := by
  unfold Mt.one Mt.mul
  simp
theorem matGo_one (ws : List UInt8) (m : Mt) : matGo ws m = (matGo ws Mt.one).mul m := by
  rw [← matGo_mul, one_mul]
theorem lm_det (c : UInt8) (m : Mt) : (lm c m).det = m.det := by
  unfold lm Mt.det
  split
  · simp only [Int.add_mul, Int.mul_comm m.d m.c]; omega
  · split
    · simp only [Int.sub_mul, Int.mul_comm m.d m.c]; omega
    · split
      · simp only [Int.neg_mul, Int.mul_comm m.c m.b, Int.mul_comm m.d m.a]; omega
      · simp only [Int.mul_neg, Int.mul_comm m.c m.b, Int.mul_comm m.d m.a]; omega
theorem matGo_det : ∀ (ws : List UInt8) (m : Mt), (matGo ws m).det = m.det
  | [], _ => rfl
  | c :: ws, m => by rw [matGo, matGo_det ws, lm_det]
/-- The other case of a letter. -/
def flip (c : UInt8) : UInt8 := c ^^^ 32
def invW (ws : List UInt8) : List UInt8 := (ws.map flip).reverse
theorem flip_good {c : UInt8} (h : c ∈ letters) : flip c ∈ letters := by
  simp only [letters, List.mem_cons, List.not_mem_nil, or_false] at h
  rcases h with rfl | rfl | rfl | rfl <;> decide
theorem lm_flip {c : UInt8} (h : c ∈ letters) (m : Mt) : lm (flip c) (lm c m) = m := by
  obtain ⟨a, b, c', d⟩ := m
  simp only [letters, List.mem_cons, List.not_mem_nil, or_false] at h
  rcases h with rfl | rfl | rfl | rfl
  · rw [show flip 84 = 116 from by decide]
    simp [lm] <;> omega
  · rw [show flip 116 = 84 from by decide]
    simp [lm] <;> omega
  · rw [show flip 83 = 115 from by decide]
    simp [lm]
  · rw [show flip 115 = 83 from by decide]
    simp [lm]
theorem mat_inv : ∀ (ws : List UInt8) (m : Mt), GoodW ws → matGo (ws ++ invW ws) m = m
  | [], _, _ => rfl
  | c :: ws, m, h => by
    have hc := h c List.mem_cons_self
    have ih := mat_inv ws (lm c m) (fun x hx => h x (List.mem_cons_of_mem _ hx))
    have e : c :: ws ++ invW (c :: ws) = c :: ((ws ++ invW ws) ++ [flip c]) := by simp [invW]
    rw [e, matGo, matGo_app, ih]
    exact lm_flip hc m
def quad (m : Mt) : Int × Int × Int × Int := (m.a, m.b, m.c, m.d)
theorem prod_letter {c : UInt8} (h : c ∈ letters) {m : Mt} (hb : m.Bd 1000000) : ∃ q : Int × Int × Int × Int, impl_letterMatrix.f (c.toNat : Int) = some q ∧ impl_product.f q.1 q.2.1 q.2.2.1 q.2.2.2 m.a m.b m.c m.d = some (quad (lm c m)) := by
  obtain ⟨h1, h2, h3, h4⟩ := hb
  obtain ⟨a, b, c', d⟩ := m
  simp only at h1 h2 h3 h4
  simp only [letters, List.mem_cons, List.not_mem_nil, or_false] at h
  rcases h with rfl | rfl | rfl | rfl
  · refine ⟨(1, 1, 0, 1), rfl, ?_⟩
    simp only [impl_product.f, quad, lm, if_true, Option.some.injEq, Prod.mk.injEq]
    unfold wrap64
    omega
  · refine ⟨(1, -1, 0, 1), rfl, ?_⟩
    simp only [impl_product.f, quad, lm, if_neg (show ¬ (116 : UInt8) = 84 by decide), if_true, Option.some.injEq, Prod.mk.injEq]
    unfold wrap64
    omega
  · refine ⟨(0, -1, 1, 0), rfl, ?_⟩
    simp only [impl_product.f, quad, lm, if_neg (show ¬ (83 : UInt8) = 84 by decide), if_neg (show ¬ (83 : UInt8) = 116 by decide), if_true, Option.some.injEq, Prod.mk.injEq]
    unfold wrap64
    omega
  · refine ⟨(0, 1, -1, 0), rfl, ?_⟩
    simp only [impl_product.f, quad, lm, if_neg (show ¬ (115 : UInt8) = 84 by decide), if_neg (show ¬ (115 : UInt8) = 116 by decide), if_neg (show ¬ (115 : UInt8) = 83 by decide), Option.some.injEq, Prod.mk.injEq]
    unfold wrap64
    omega
theorem mat_l0 (ws : List UInt8) (hl : ws.length ≤ 12) (hg : GoodW ws) : ∀ (suf pre : List UInt8) (m : Mt), ws = pre ++ suf → m.Bd (2 ^ pre.length) → Ev (fun k => impl_MatrixOf.l0 k (wordB ws) (pre.length : Int) m.a m.b m.c m.d) ((matGo suf m).a, (matGo suf m).b, (matGo suf m).c, (matGo suf m).d, true)
  | [], pre, m, e, hb => by
    refine ev_up ?_
    have e2 : ws = pre := by simpa using e
    subst e2
    simp only [impl_MatrixOf.l0, wordB_size, if_neg (show ¬ ((ws.length : Int) < ws.length) by omega), matGo]
    exact Ev.now _
  | c :: suf, pre, m, e, hb => by
    refine ev_up ?_
    have hlen : ws.length = pre.length + suf.length + 1 := by rw [e]; simp; omega
    have hc := hg c (by rw [e]; simp)
    have hbt : bt (wordB ws) (pre.length : Int) = (c.toNat : Int) := by rw [e]; exact bt_mid _ _ _
    have hw : wrap64 ((pre.length : Int) + 1) = ((pre ++ [c]).length : Int) := by rw [pw_wrap (by omega) (by omega)]; simp
    have hp := pow_up (show pre.length ≤ 12 by omega)
    have e12 : (2 : Int) ^ 12 = 4096 := by decide
    obtain ⟨q, q1, q2⟩ := prod_letter hc (Bd_mono hb (show (2 : Int) ^ pre.length ≤ 1000000 by omega))
    simp only [impl_MatrixOf.l0, wordB_size, if_pos (show ((pre.length : Int) < ws.length) by omega), if_pos (show (0 ≤ (pre.length : Int)) by omega), hbt, q1, q2, Option.bind_some, hw, quad]
    have hb2 : (lm c m).Bd (2 ^ (pre ++ [c]).length) := by
      have := lm_bd c hb
      rw [List.length_append, List.length_cons, List.length_nil, Nat.zero_add, Int.pow_succ, Int.mul_comm]
      exact this
    have := mat_l0 ws hl hg suf (pre ++ [c]) (lm c m) (by simp [e]) hb2
    rw [matGo]
    exact this
theorem mat_of (ws : List UInt8) (hl : ws.length ≤ 12) (hg : GoodW ws) : Ev (fun k => impl_MatrixOf.f k (wordB ws)) ((matGo ws Mt.one).a, (matGo ws Mt.one).b, (matGo ws Mt.one).c, (matGo ws Mt.one).d, true) := by
  unfold impl_MatrixOf.f
  refine Ev.bind (wordOk ws (by omega) hg) ?_
  simp only [if_true]
  exact mat_l0 ws hl hg ws [] Mt.one rfl (by simpa using one_bd)
theorem small_l0 (l : List Int) (hl : l.length ≤ 100) (h : ∀ x ∈ l, -1000000000 ≤ x ∧ x ≤ 1000000000) : ∀ (suf pre : List Int), l = pre ++ suf → Ev (fun k => impl_smallMatrix.l0 k l (l.length : Int) (pre.length : Int)) true
  | [], pre, e => by
    refine ev_up ?_
    have e2 : l = pre := by simpa using e
    subst e2
    simp only [impl_smallMatrix.l0, if_neg (show ¬ ((l.length : Int) < l.length) by omega)]
    exact Ev.now _
  | x :: suf, pre, e => by
    refine ev_up ?_
    have hlen : l.length = pre.length + suf.length + 1 := by rw [e]; simp; omega
    have hx := h x (by rw [e]; simp)
    have hr : rd l (pre.length : Int) = x := by rw [e]; exact rd_mid _ _ _
    have hw : wrap64 ((pre.length : Int) + 1) = ((pre ++ [x]).length : Int) := by rw [pw_wrap (by omega) (by omega)]; simp
    simp only [impl_smallMatrix.l0, if_pos (show ((pre.length : Int) < l.length) by omega), if_pos (show (0 ≤ (pre.length : Int)) by omega), hr, if_neg (show ¬ x < -1000000000 by omega), if_neg (show ¬ x > 1000000000 by omega), hw]
    exact small_l0 l hl h suf (pre ++ [x]) (by simp [e])
theorem small_ok {m : Mt} (h : m.Bd 1000000) : Ev (fun k => impl_smallMatrix.f k m.a m.b m.c m.d) true := by
  unfold impl_smallMatrix.f
  simp only [Option.bind_some]
  refine small_l0 [m.a, m.b, m.c, m.d] (by simp) (fun x hx => ?_) _ [] rfl
  obtain ⟨h1, h2, h3, h4⟩ := h
  simp only [List.mem_cons, List.not_mem_nil, or_false] at hx
  rcases hx with rfl | rfl | rfl | rfl <;> omega
theorem mul_bd {x y n : Int} (hn : 0 ≤ n) (hx : -n ≤ x ∧ x ≤ n) (hy : -n ≤ y ∧ y ≤ n) : -(n * n) ≤ x * y ∧ x * y ≤ n * n := by
  have h : (x * y).natAbs ≤ n.natAbs * n.natAbs := by
    rw [Int.natAbs_mul]
    exact Nat.mul_le_mul (by omega) (by omega)
  have e : ((n.natAbs * n.natAbs : Nat) : Int) = n * n := by
    rw [Int.natCast_mul, show ((n.natAbs : Nat) : Int) = n from by omega]
  omega
theorem prod_eq {x y : Mt} (hx : x.Bd 64) (hy : y.Bd 64) : impl_product.f x.a x.b x.c x.d y.a y.b y.c y.d = some (quad (x.mul y)) := by
  obtain ⟨h1, h2, h3, h4⟩ := hx
  obtain ⟨k1, k2, k3, k4⟩ := hy
  have b := fun {p q : Int} (hp : -64 ≤ p ∧ p ≤ 64) (hq : -64 ≤ q ∧ q ≤ 64) => mul_bd (n := 64) (by omega) hp hq
  have p1 := b h1 k1
  have p2 := b h2 k3
  have p3 := b h1 k2
  have p4 := b h2 k4
  have p5 := b h3 k1
  have p6 := b h4 k3
  have p7 := b h3 k2
  have p8 := b h4 k4
  unfold impl_product.f quad Mt.mul
  simp only [Option.some.injEq, Prod.mk.injEq]
  have w : ∀ p q : Int, -(64 * 64) ≤ p ∧ p ≤ 64 * 64 → -(64 * 64) ≤ q ∧ q ≤ 64 * 64 → wrap64 (wrap64 p + wrap64 q) = p + q := by
    intro p q hp hq
    unfold wrap64
    omega
  exact ⟨w _ _ p1 p2, w _ _ p3 p4, w _ _ p5 p6, w _ _ p7 p8⟩
theorem times_eq {x y : Mt} (hx : x.Bd 64) (hy : y.Bd 64) : Ev (fun k => impl_TimesMatrix.f k x.a x.b x.c x.d y.a y.b y.c y.d) ((x.mul y).a, (x.mul y).b, (x.mul y).c, (x.mul y).d, true) := by
  unfold impl_TimesMatrix.f
  refine Ev.bind (small_ok (Bd_mono hx (by omega))) ?_
  simp only [if_true]
  refine Ev.bind (small_ok (Bd_mono hy (by omega))) ?_
  simp only [if_true, prod_eq hx hy, Option.bind_some, quad]
  exact Ev.now _
theorem det_eq {x : Mt} (hx : x.Bd 4096) : Ev (fun k => impl_DeterminantOf.f k x.a x.b x.c x.d) x.det := by
  unfold impl_DeterminantOf.f
  refine Ev.bind (small_ok (Bd_mono hx (by omega))) ?_
  simp only [if_true]
  obtain ⟨h1, h2, h3, h4⟩ := hx
  have p1 := mul_bd (n := 4096) (by omega) h1 h4
  have p2 := mul_bd (n := 4096) (by omega) h2 h3
  have e : wrap64 (wrap64 (x.a * x.d) - wrap64 (x.b * x.c)) = x.det := by
    unfold Mt.det
    generalize x.a * x.d = p at *
    generalize x.b * x.c = q at *
    unfold wrap64
    omega
  rw [e]
  exact Ev.now _
theorem xor_flip {c : UInt8} (h : c ∈ letters) : Go.bits .xor .u8 (c.toNat : Int) 32 = ((flip c).toNat : Int) := by
  simp only [letters, List.mem_cons, List.not_mem_nil, or_false] at h
  rcases h with rfl | rfl | rfl | rfl <;> decide
theorem inv_l0 (ws : List UInt8) (hl : ws.length ≤ 40) (hg : GoodW ws) : ∀ (n : Nat) (pre suf : List UInt8), pre.length = n → ws = pre ++ suf → Ev (fun k => impl_InverseWord.l0 k (wordB ws) ((invW suf).map fun c => (c.toNat : Int)) ((pre.length : Int) - 1)) (wordB (invW ws))
  | 0, pre, suf, h0, e => by
    refine ev_up ?_
    have : pre = [] := List.eq_nil_of_length_eq_zero h0
    subst this
    have e2 : ws = suf := by simpa using e
    subst e2
    simp only [impl_InverseWord.l0, if_neg (show ¬ ((([] : List UInt8).length : Int) - 1 ≥ 0) by simp)]
    have e3 : strOfNums ((invW ws).map fun c => (c.toNat : Int)) = wordB (invW ws) := by
      unfold strOfNums wordB
      simp [Function.comp_def]
    rw [e3]
    exact Ev.now _
  | n + 1, pre, suf, h0, e => by
    rcases nil_or_snoc pre with rfl | ⟨p, c, rfl⟩
    · simp at h0
    · refine ev_up ?_
      have hp : p.length = n := by simp at h0; omega
      have hc := hg c (by rw [e]; simp)
      have e2 : ws = p ++ c :: suf := by simp [e]
      have hlen : ws.length = p.length + suf.length + 1 := by rw [e2]; simp; omega
      have hi : ((p ++ [c]).length : Int) - 1 = (p.length : Int) := by simp
      have hb : bt (wordB ws) (p.length : Int) = (c.toNat : Int) := by rw [e2]; exact bt_mid _ _ _
      have hw : wrap64 ((p.length : Int) - 1) = (p.length : Int) - 1 := pw_wrap (by omega) (by omega)
      have hm : ((invW suf).map fun c => (c.toNat : Int)) ++ [((flip c).toNat : Int)] = (invW (c :: suf)).map fun c => (c.toNat : Int) := by simp [invW]
      have hml : ((invW suf).map fun c => (c.toNat : Int)).length < 140737488355328 := by simp [invW]; omega
      simp only [impl_InverseWord.l0, hi, if_pos (show (p.length : Int) ≥ 0 by omega), wordB_size, if_pos (show (p.length : Int) < ws.length by omega), hb, hw, xor_flip hc, if_pos hml, hm]
      exact inv_l0 ws hl hg n p (c :: suf) hp e2
theorem inv_eq (ws : List UInt8) (hl : ws.length ≤ 40) (hg : GoodW ws) : Ev (fun k => impl_InverseWord.f k (wordB ws)) (wordB (invW ws)) := by
  unfold impl_InverseWord.f
  refine Ev.bind (wordOk ws hl hg) ?_
  simp only [if_true, wordB_size, pw_wrap (a := (ws.length : Int) - 1) (by omega) (by omega)]
  exact inv_l0 ws hl hg ws.length ws [] rfl (by simp)
theorem invW_good {ws : List UInt8} (h : GoodW ws) : GoodW (invW ws) := by
  intro c hc
  simp only [invW, List.mem_reverse, List.mem_map] at hc
  obtain ⟨x, hx, rfl⟩ := hc
  exact flip_good (h x hx)
theorem itoa_one : itoaB 1 = ⟨[49].toArray⟩ := by
  rw [itoaB_pos (by omega)]
  unfold decB
  rw [Go.Lib.decDigits, dif_pos (by decide)]
  rfl
theorem itoa_zero : itoaB 0 = ⟨[48].toArray⟩ := by
  rw [itoaB_pos (by omega)]
  unfold decB
  rw [Go.Lib.decDigits, dif_pos (by decide)]
  rfl

theorem FnMatrices : laws_FnMatrices.Pure := by
  intro l hl _
  apply Ev.rounds
  unfold laws_FnMatrices.f
  by_cases hlen : (l.length : Int) > 1048576
  · simp only [if_pos hlen]
    exact Ev.now _
  · simp only [if_neg hlen]
    obtain ⟨w, ew, gw, lw⟩ := word_some l (by omega) 3 (by omega) (by omega)
    obtain ⟨v, ev, gv, lv⟩ := word_some l (by omega) 30 (by omega) (by omega)
    have gwv : GoodW (w ++ v) := fun c hc => by
      rcases List.mem_append.1 hc with hc | hc
      · exact gw c hc
      · exact gv c hc
    have gwi : GoodW (w ++ invW w) := fun c hc => by
      rcases List.mem_append.1 hc with hc | hc
      · exact gw c hc
      · exact invW_good gw c hc
    have li : (invW w).length = w.length := by simp [invW]
    have bw : (matGo w Mt.one).Bd 64 := word_bd (k := 6) lw
    have bv : (matGo v Mt.one).Bd 64 := word_bd (k := 6) lv
    have bwv : (matGo (w ++ v) Mt.one).Bd 4096 := word_bd (k := 12) (by simp; omega)
    have emul : matGo (w ++ v) Mt.one = (matGo v Mt.one).mul (matGo w Mt.one) := by rw [matGo_app, matGo_one v]
    have einv : matGo (w ++ invW w) Mt.one = Mt.one := mat_inv w Mt.one gw
    refine Ev.bind ew ?_
    refine Ev.bind ev ?_
    refine Ev.bind (mat_of w (by omega) gw) ?_
    refine Ev.bind (mat_of v (by omega) gv) ?_
    simp only [wordB_size, wordB_app, if_pos (show w.length + v.length ≤ 9223372036854775807 by omega)]
    refine Ev.bind (mat_of (w ++ v) (by simp; omega) gwv) ?_
    refine Ev.bind (times_eq bv bw) ?_
    refine Ev.bind (inv_eq w (by omega) gw) ?_
    simp only [wordB_size, wordB_app, li, if_pos (show w.length + w.length ≤ 9223372036854775807 by omega)]
    refine Ev.bind (mat_of (w ++ invW w) (by simp [li]; omega) gwi) ?_
    rw [emul, einv]
    simp only [if_true, beq_self_eq_true, Bool.and_self, show Mt.one.a = 1 from rfl, show Mt.one.b = 0 from rfl, show Mt.one.c = 0 from rfl, show Mt.one.d = 1 from rfl]
    rw [emul] at bwv
    have d1 : (matGo w Mt.one).det = 1 := by rw [matGo_det]; rfl
    have d2 : ((matGo v Mt.one).mul (matGo w Mt.one)).det = 1 := by rw [← emul, matGo_det]; rfl
    refine Ev.bind (det_eq (Bd_mono bw (by omega))) ?_
    rw [d1]
    simp only [if_true]
    refine Ev.bind (det_eq bwv) ?_
    rw [d2]
    simp only [if_true]
    refine Ev.bind (Ev.bind (impl_ints ⟨#[32]⟩ rfl [1, 0, 0, 1] (by simp) (fun x hx => by simp at hx; omega)) (Ev.now _)) ?_
    simp only [List.map_cons, List.map_nil, itoa_one, itoa_zero, toList_eq]
    exact Ev.now _

end Go.Proofs.YtnoopmbhdlfkbaaDoor.Pure
