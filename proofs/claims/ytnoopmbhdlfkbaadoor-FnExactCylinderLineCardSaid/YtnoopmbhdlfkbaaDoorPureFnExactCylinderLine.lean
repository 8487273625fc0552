/- The program's CylinderLine returns what the reference's returns, for all arguments: no condition. -/
import Derived.Test.YtnoopmbhdlfkbaaDoorSayFnExactCylinderLine
namespace Go.Proofs.YtnoopmbhdlfkbaaDoor.Pure
open Go.RowKit Go.Proofs.YtnoopmbhdlfkbaaDoor.S Go.Proofs.YtnoopmbhdlfkbaaDoorW.PrintWords Go.Proofs.YtnoopmbhdlfkbaaDoorW.PrintLast
set_option linter.unusedVariables false
set_option linter.unusedSimpArgs false

theorem ev_up {α : Type} {g : Nat → Option α} {r : α} (h : Ev (fun k => g (k + 1)) r) : Ev g r := Ev.step (fun _ => rfl) h
theorem ev_k {α : Type} {g : Nat → Option α} {r : α} {n : Nat} (h : ∀ k, n < k → g k = some r) : Ev g r := ⟨n + 1, fun k hk => h k (by omega)⟩

theorem pw_wf {a : Int} (h : (Lit.int .i64 a).wf = true) : -9223372036854775808 ≤ a ∧ a ≤ 9223372036854775807 := by
  simp [Lit.wf, IntKind.min, IntKind.max, IntKind.signed, IntKind.bits] at h
  omega
theorem pw_wrap {a : Int} (h0 : -9223372036854775808 ≤ a) (h1 : a ≤ 9223372036854775807) : wrap64 a = a := by
  unfold wrap64
  omega

/-- A number in decimals. -/
def decB (u : Nat) : ByteArray := ⟨(Go.Lib.decDigits u).toArray⟩
def itoaB (n : Int) : ByteArray := ⟨(Go.Lib.itoa n).toArray⟩
theorem nDig_le : ∀ (d u : Nat), u < 10 ^ (d + 1) → Go.Lib.nDigits u ≤ d + 1
  | 0, u, h => by rw [Go.Lib.nDigits_small (by simpa using h)]; omega
  | d + 1, u, h => by
    by_cases hu : u < 10
    · rw [Go.Lib.nDigits_small hu]; omega
    · rw [Go.Lib.nDigits_big hu]
      have := nDig_le d (u / 10) (by rw [Nat.pow_succ] at h; omega)
      omega
theorem decB_size (u : Nat) : (decB u).size = Go.Lib.nDigits u := by
  show (Go.Lib.decDigits u).toArray.size = _
  rw [List.size_toArray, Go.Lib.decDigits_length]
theorem bytes_app (a b : List UInt8) : (⟨a.toArray⟩ : ByteArray) ++ ⟨b.toArray⟩ = ⟨(a ++ b).toArray⟩ := by
  apply ByteArray.ext
  rw [ByteArray.data_append]
  simp
theorem app_assocB (a b c : ByteArray) : a ++ b ++ c = a ++ (b ++ c) := by
  apply ByteArray.ext
  simp [ByteArray.data_append, Array.append_assoc]
theorem one_strB (n : Int) (u : Nat) (h : n = ((u : Nat) : Int)) : strOfNums [n] = ⟨[UInt8.ofNat u].toArray⟩ := by
  subst h
  simp [strOfNums]
theorem strOne_size (n : Int) : (strOfNums [n]).size = 1 := id rfl
theorem decB_small {u : Nat} (h : u < 10) : decB u = strOfNums [(48 + (u : Int))] := by
  rw [one_strB _ (48 + u) (by omega)]
  unfold decB
  rw [Go.Lib.decDigits, dif_pos h]
theorem decB_big {u : Nat} (h : ¬ u < 10) : decB u = decB (u / 10) ++ strOfNums [(48 + (u : Int) % 10)] := by
  rw [one_strB _ (48 + u % 10) (by omega)]
  unfold decB
  rw [bytes_app, Go.Lib.decDigits, dif_neg h]
theorem itoaB_pos {n : Int} (h : 0 ≤ n) : itoaB n = decB n.toNat := by
  unfold itoaB Go.Lib.itoa decB
  rw [if_neg (by omega)]
theorem itoaB_neg {n : Int} (h : n < 0) : itoaB n = (⟨#[45]⟩ : ByteArray) ++ decB n.natAbs := by
  unfold itoaB Go.Lib.itoa decB
  rw [if_pos h, show (⟨#[45]⟩ : ByteArray) = ⟨[45].toArray⟩ from rfl, bytes_app]
  rfl
theorem itoaB_size {n : Int} (h0 : -9223372036854775808 ≤ n) (h1 : n ≤ 9223372036854775807) : (itoaB n).size ≤ 20 := by
  by_cases h : 0 ≤ n
  · rw [itoaB_pos h, decB_size]
    have := nDig_le 18 n.toNat (by omega)
    omega
  · rw [itoaB_neg (by omega), ByteArray.size_append, decB_size]
    have := nDig_le 18 n.natAbs (by omega)
    show 1 + _ ≤ 20
    omega
theorem spec_fmt_l0 : ∀ (u : Nat) (x : Int) (acc : ByteArray), x = u → u < 10 ^ 19 → acc.size + Go.Lib.nDigits u ≤ 40 → Ev (fun k => spec_FormatInt.l0 k x acc) (decB u ++ acc) := by
  intro u
  induction u using Nat.strongRecOn with
  | _ u ih =>
    intro x acc hx hu hs
    subst hx
    refine ev_up ?_
    have h9 : (10 : Int) ^ 19 = 10000000000000000000 := by decide
    by_cases h : u < 10
    · have hw : (wrap64 (48 + (u : Int))) % 256 = 48 + (u : Int) := by rw [pw_wrap (by omega) (by omega)]; omega
      have hn := Go.Lib.nDigits_small h
      simp only [spec_FormatInt.l0, if_neg (show ¬ ((u : Int) > 9) by omega), hw, Option.bind_some, strOne_size, if_pos (show 1 + acc.size ≤ 9223372036854775807 by omega)]
      rw [decB_small h]
      exact Ev.now _
    · have ht : Int.tmod (u : Int) 10 = (u : Int) % 10 := Int.tmod_eq_emod_of_nonneg (by omega)
      have hq : Int.tdiv (u : Int) 10 = (u : Int) / 10 := Int.tdiv_eq_ediv_of_nonneg (by omega)
      have hw : (wrap64 (48 + (u : Int) % 10)) % 256 = 48 + (u : Int) % 10 := by rw [pw_wrap (by omega) (by omega)]; omega
      have hw2 : wrap64 ((u : Int) / 10) = ((u / 10 : Nat) : Int) := by rw [pw_wrap (by omega) (by omega)]; omega
      have hn := Go.Lib.nDigits_big h
      simp only [spec_FormatInt.l0, if_pos (show ((u : Int) > 9) by omega), ht, hq, hw, hw2, Option.bind_some, strOne_size, if_pos (show 1 + acc.size ≤ 9223372036854775807 by omega)]
      rw [decB_big h, app_assocB]
      exact ih (u / 10) (by omega) _ _ rfl (by omega) (by rw [ByteArray.size_append, strOne_size]; omega)
theorem spec_fmtint {n : Int} (h0 : -9223372036854775808 ≤ n) (h1 : n ≤ 9223372036854775807) : Ev (fun k => spec_FormatInt.f k n) (itoaB n) := by
  by_cases hn : 0 ≤ n
  · refine ev_up ?_
    simp only [spec_FormatInt.f, if_neg (show ¬ n < 0 by omega)]
    rw [itoaB_pos hn]
    have := spec_fmt_l0 n.toNat n ⟨#[]⟩ (by omega) (by omega) (by
      have := nDig_le 18 n.toNat (by omega)
      show 0 + _ ≤ 40
      omega)
    rw [show decB n.toNat ++ (⟨#[]⟩ : ByteArray) = decB n.toNat from by apply ByteArray.ext; simp [ByteArray.data_append]] at this
    exact this
  · have key : ∀ (u : Nat) (n : Int), n = -(u : Int) → 1 ≤ u → u ≤ 9223372036854775808 → Ev (fun k => spec_FormatInt.f k n) ((⟨#[45]⟩ : ByteArray) ++ decB u) := by
      intro u
      induction u using Nat.strongRecOn with
      | _ u ih =>
        intro n hx h1 h2
        subst hx
        refine ev_up ?_
        have hq : Int.tdiv (-(u : Int)) 10 = -((u / 10 : Nat) : Int) := by rw [Int.neg_tdiv, Int.tdiv_eq_ediv_of_nonneg (by omega)]; omega
        have ht : Int.tmod (-(u : Int)) 10 = -((u : Int) % 10) := by rw [Int.neg_tmod, Int.tmod_eq_emod_of_nonneg (by omega)]
        have hw2 : wrap64 (-((u / 10 : Nat) : Int)) = -((u / 10 : Nat) : Int) := pw_wrap (by omega) (by omega)
        by_cases h : u < 10
        · have hw : (wrap64 (48 - -(u : Int))) % 256 = 48 + (u : Int) := by rw [pw_wrap (by omega) (by omega)]; omega
          simp only [spec_FormatInt.f, if_pos (show -(u : Int) < 0 by omega), hq, hw2, hw, if_pos (show -((u / 10 : Nat) : Int) = 0 by omega), Option.bind_some, strOne_size, if_pos (show 1 + 1 ≤ 9223372036854775807 by omega)]
          rw [decB_small h]
          exact Ev.now _
        · have hw : (wrap64 (48 - -((u : Int) % 10))) % 256 = 48 + (u : Int) % 10 := by rw [pw_wrap (by omega) (by omega)]; omega
          simp only [spec_FormatInt.f, if_pos (show -(u : Int) < 0 by omega), hq, ht, hw2, hw, if_neg (show ¬ -((u / 10 : Nat) : Int) = 0 by omega)]
          refine Ev.bind (ih (u / 10) (by omega) _ rfl (by omega) (by omega)) ?_
          have hz : ((⟨#[45]⟩ : ByteArray) ++ decB (u / 10)).size ≤ 20 := by
            rw [ByteArray.size_append, decB_size]
            have := nDig_le 18 (u / 10) (by omega)
            show 1 + _ ≤ 20
            omega
          simp only [Option.bind_some, strOne_size, if_pos (show ((⟨#[45]⟩ : ByteArray) ++ decB (u / 10)).size + 1 ≤ 9223372036854775807 by omega)]
          rw [decB_big h, ← app_assocB]
          exact Ev.now _
    rw [itoaB_neg (by omega)]
    exact key n.natAbs n (by omega) (by omega) (by omega)
theorem impl_fmtint {n : Int} (h0 : -9223372036854775808 ≤ n) (h1 : n ≤ 9223372036854775807) : impl_FormatInt.f n = some (itoaB n) := by
  unfold impl_FormatInt.f strconv_Itoa.f
  rw [if_pos ⟨h0, h1⟩]
  rfl
theorem i64_wf {x : Int} (h : (Lit.int .i64 x).wf = true) : -9223372036854775808 ≤ x ∧ x ≤ 9223372036854775807 := pw_wf h

def cylB (a b : Int) : ByteArray := itoaB a ++ (⟨#[120]⟩ : ByteArray) ++ itoaB b
def In64 (x : Int) : Prop := -9223372036854775808 ≤ x ∧ x ≤ 9223372036854775807
theorem cylB_size {a b : Int} (ha : In64 a) (hb : In64 b) : (cylB a b).size ≤ 41 := by
  have za := itoaB_size ha.1 ha.2
  have zb := itoaB_size hb.1 hb.2
  unfold cylB
  rw [ByteArray.size_append, ByteArray.size_append]
  show _ + 1 + _ ≤ _
  omega
theorem spec_fmtcyl {a b : Int} (ha : In64 a) (hb : In64 b) : Ev (fun k => spec_FormatCylinder.f k a b) (cylB a b) := by
  have za := itoaB_size ha.1 ha.2
  have zb := itoaB_size hb.1 hb.2
  have hz : (itoaB a ++ (⟨#[120]⟩ : ByteArray)).size + (itoaB b).size ≤ 9223372036854775807 := by
    rw [ByteArray.size_append]
    show _ + 1 + _ ≤ _
    omega
  unfold spec_FormatCylinder.f
  refine Ev.bind (spec_fmtint ha.1 ha.2) ?_
  simp only [if_pos (show (itoaB a).size + 1 ≤ 9223372036854775807 by omega)]
  refine Ev.bind (spec_fmtint hb.1 hb.2) ?_
  simp only [if_pos hz]
  exact Ev.now _
theorem impl_fmtcyl {a b : Int} (ha : In64 a) (hb : In64 b) : impl_FormatCylinder.f a b = some (cylB a b) := by
  have za := itoaB_size ha.1 ha.2
  have zb := itoaB_size hb.1 hb.2
  have hz : (itoaB a ++ (⟨#[120]⟩ : ByteArray)).size + (itoaB b).size ≤ 9223372036854775807 := by
    rw [ByteArray.size_append]
    show _ + 1 + _ ≤ _
    omega
  unfold impl_FormatCylinder.f
  simp only [impl_fmtint ha.1 ha.2, impl_fmtint hb.1 hb.2, Option.bind_some, if_pos (show (itoaB a).size + 1 ≤ 9223372036854775807 by omega), if_pos hz]
  rfl

def joinOf (l : List ByteArray) (sep : ByteArray) : ByteArray := ⟨(joinB l sep).toArray⟩
def tot (l : List ByteArray) (sep : ByteArray) : Nat := match l with
  | [] => 0
  | x :: xs => x.size + sep.size + tot xs sep
theorem tot_append (sep : ByteArray) : ∀ (a b : List ByteArray), tot (a ++ b) sep = tot a sep + tot b sep
  | [], b => by simp [tot]
  | x :: a, b => by simp only [List.cons_append, tot, tot_append sep a b]; omega
theorem join_two (sep a : List UInt8) (xs : List (List UInt8)) (h : xs ≠ []) : Go.Lib.join (a :: xs) sep = a ++ sep ++ Go.Lib.join xs sep := by
  cases xs with
  | nil => exact absurd rfl h
  | cons b t => simp [Go.Lib.join, List.intercalate]
theorem join_snoc (sep x : List UInt8) : ∀ (xs : List (List UInt8)), xs ≠ [] → Go.Lib.join (xs ++ [x]) sep = Go.Lib.join xs sep ++ sep ++ x
  | [], h => absurd rfl h
  | [a], _ => by simp [Go.Lib.join, List.intercalate]
  | a :: b :: t, _ => by
    rw [List.cons_append, join_two sep a _ (by simp), join_snoc sep x (b :: t) (by simp), join_two sep a (b :: t) (by simp)]
    simp [List.append_assoc]
theorem bytes_self (x : ByteArray) : (⟨x.data.toList.toArray⟩ : ByteArray) = x := by
  apply ByteArray.ext
  simp
theorem joinOf_nil (sep : ByteArray) : joinOf [] sep = ⟨#[]⟩ := by simp [joinOf, joinB, Go.Lib.join, List.intercalate]
theorem joinOf_one (x sep : ByteArray) : joinOf [x] sep = x := by
  simp [joinOf, joinB, Go.Lib.join, List.intercalate]
theorem joinOf_snoc (l : List ByteArray) (x sep : ByteArray) (h : l ≠ []) : joinOf (l ++ [x]) sep = joinOf l sep ++ sep ++ x := by
  unfold joinOf joinB
  rw [List.map_append, List.map_cons, List.map_nil, join_snoc _ _ _ (by simpa using h), ← bytes_app, ← bytes_app, bytes_self, bytes_self]
theorem joinOf_size (sep : ByteArray) : ∀ (l : List ByteArray), (joinOf l sep).size ≤ tot l sep
  | [] => by rw [joinOf_nil]; exact Nat.zero_le _
  | [x] => by rw [joinOf_one]; simp only [tot]; omega
  | x :: y :: l => by
    have h : joinOf (x :: y :: l) sep = x ++ sep ++ joinOf (y :: l) sep := by
      unfold joinOf joinB
      rw [List.map_cons, join_two _ _ _ (by simp), ← bytes_app, ← bytes_app, bytes_self, bytes_self]
    rw [h, ByteArray.size_append, ByteArray.size_append]
    have := joinOf_size sep (y :: l)
    rw [tot]
    omega
theorem tot_len (sep : ByteArray) (h : 1 ≤ sep.size) : ∀ (l : List ByteArray), l.length ≤ tot l sep
  | [] => by simp [tot]
  | x :: l => by
    have := tot_len sep h l
    simp only [List.length_cons, tot]
    omega
theorem rdOf_mid (d : ByteArray) (pre suf : List ByteArray) (x : ByteArray) : rdOf d (pre ++ x :: suf) (pre.length : Int) = x := by
  simp [rdOf, List.getD]
theorem spec_join_l0 (sep : ByteArray) (l : List ByteArray) (hl : l.length ≤ 1000000000000) (ht : tot l sep ≤ 1000000000000) : ∀ (suf pre : List ByteArray), l = pre ++ suf → Ev (fun k => spec_Join.l0 k sep (joinOf pre sep) l (l.length : Int) (pre.length : Int)) (joinOf l sep)
  | [], pre, e => by
    refine ev_up ?_
    have e2 : l = pre := by simpa using e
    subst e2
    simp only [spec_Join.l0, if_neg (show ¬ ((l.length : Int) < l.length) by omega)]
    exact Ev.now _
  | x :: suf, pre, e => by
    refine ev_up ?_
    have hlen : l.length = pre.length + suf.length + 1 := by rw [e]; simp; omega
    have htt : tot l sep = tot pre sep + (x.size + sep.size + tot suf sep) := by rw [e, tot_append]; simp only [tot]
    have hs := joinOf_size sep pre
    have hx : rdOf ByteArray.empty l (pre.length : Int) = x := by rw [e]; exact rdOf_mid _ _ _ _
    have hw : wrap64 ((pre.length : Int) + 1) = ((pre ++ [x]).length : Int) := by rw [pw_wrap (by omega) (by omega)]; simp
    have ih := spec_join_l0 sep l hl ht suf (pre ++ [x]) (by simp [e])
    simp only [spec_Join.l0, if_pos (show ((pre.length : Int) < l.length) by omega), if_pos (show (0 ≤ (pre.length : Int)) by omega), hx, hw]
    by_cases hp : pre = []
    · subst hp
      rw [List.nil_append, joinOf_one] at ih
      have hz : (joinOf [] sep).size = 0 := by rw [joinOf_nil]; rfl
      refine Ev.congr (f := fun k => _) (fun k => (if_neg (show ¬ (((([] : List ByteArray).length : Nat) : Int) > 0) by simp)).trans (if_pos (by omega))) ?_
      rw [joinOf_nil, show (⟨#[]⟩ : ByteArray) ++ x = x from by apply ByteArray.ext; simp [ByteArray.data_append]]
      exact ih
    · have hpl : 0 < pre.length := List.length_pos_iff.2 hp
      rw [joinOf_snoc _ _ _ hp] at ih
      refine Ev.congr (f := fun k => _) (fun k => ((if_pos (show (pre.length : Int) > 0 by omega)).trans (if_pos (by omega))).trans (if_pos (by rw [ByteArray.size_append]; omega))) ?_
      exact ih
theorem spec_join (sep : ByteArray) (l : List ByteArray) (hl : l.length ≤ 1000000000000) (ht : tot l sep ≤ 1000000000000) : Ev (fun k => spec_Join.f k l sep) (joinOf l sep) := by
  unfold spec_Join.f
  have := spec_join_l0 sep l hl ht l [] rfl
  rw [joinOf_nil] at this
  exact this
theorem impl_join (sep : ByteArray) (l : List ByteArray) (hl : l.length ≤ 1000000000000) (ht : tot l sep ≤ 1000000000000) : impl_Join.f l sep = some (joinOf l sep) := by
  unfold impl_Join.f strings_Join.f
  have hs : (joinB l sep).length ≤ tot l sep := by
    have := joinOf_size sep l
    exact this
  rw [if_pos ⟨by omega, by omega⟩]
  rfl

/-! Small words on lists, read at a place. -/
theorem len_snoc {α : Type} (p : List α) (x : α) : (p ++ [x]).length = p.length + 1 := by simp
theorem wrap_snoc {α : Type} {p s : List α} {x : α} (h : (p ++ x :: s).length ≤ 4611686018427387904) : wrap64 ((p.length : Int) + 1) = ((p ++ [x]).length : Int) := by
  simp at h ⊢
  unfold wrap64
  omega
theorem lt_mid {α : Type} (p s : List α) (x : α) : ((p.length : Nat) : Int) < ((p ++ x :: s).length : Int) := by simp; omega
theorem nlt_end {α : Type} (p : List α) : ¬ ((p.length : Nat) : Int) < ((p ++ []).length : Int) := by simp
theorem rd_mid (p s : List Int) (x : Int) : rd (p ++ x :: s) (p.length : Int) = x := by simp [rd, List.getD]
theorem nil_or_snoc {α : Type} (l : List α) : l = [] ∨ ∃ p x, l = p ++ [x] := by
  rcases List.eq_nil_or_concat l with h | ⟨p, x, h⟩
  · exact .inl h
  · exact .inr ⟨p, x, by rw [h]; simp⟩

/-! Cylinders: the law's, and the program's. -/
theorem rdTC_mid (p s : List S40) (x : S40) : rd_T40 (p ++ x :: s) (p.length : Int) = x := by simp [rd_T40, List.getD]
theorem rdLC_mid (p s : List S38) (x : S38) : rd_T38 (p ++ x :: s) (p.length : Int) = x := by simp [rd_T38, List.getD]
abbrev Cyl := S40
def convC (c : S38) : Cyl := ⟨c.f0, c.f1⟩
theorem szCylinderS_eq (l : List S38) (hl : l.length ≤ 9223372036854775807) : laws_szCylinderS.f l 1048576 = some (if l.length ≤ 1048576 then 1048576 - (l.length : Int) else -1) := by
  unfold laws_szCylinderS.f
  have e : wrap64 (1048576 - (l.length : Int)) = 1048576 - (l.length : Int) := by unfold wrap64; omega
  rw [e]
  by_cases h : l.length ≤ 1048576
  · rw [if_neg (by omega), if_pos h]
  · rw [if_pos (by omega), if_neg h]
theorem toCylinderS_l0 (l : List S38) (hl : l.length ≤ 1048576) : ∀ (suf pre : List S38), l = pre ++ suf →
    Ev (fun k => laws_toCylinderS.l0 k l (pre.map convC ++ List.replicate suf.length z40) (pre.length : Int)) (l.map convC) := by
  intro suf
  induction suf with
  | nil =>
    intro pre h
    subst h
    refine ⟨1, fun k hk => ?_⟩
    obtain ⟨k, rfl⟩ : ∃ m, k = m + 1 := ⟨k - 1, by omega⟩
    simp only [laws_toCylinderS.l0]
    rw [if_neg (nlt_end pre)]
    simp
  | cons c suf ih =>
    intro pre h
    have := ih (pre ++ [c]) (by simp [h])
    subst h
    refine Ev.step (fun k => ?_) this
    simp only [laws_toCylinderS.l0]
    rw [if_pos (lt_mid pre suf c), if_pos (Int.natCast_nonneg _), rdLC_mid]
    simp only [laws_toCylinder.f, Option.bind_some]
    rw [if_pos (by simp; omega), wrap_snoc (s := suf) (by simp at hl ⊢; omega)]
    congr 1
    simp [List.replicate_succ, convC]
theorem toCylinderS_ev (l : List S38) (hl : l.length ≤ 1048576) : Ev (fun k => laws_toCylinderS.f k l) (l.map convC) := by
  have := toCylinderS_l0 l hl l [] rfl
  refine Ev.congr (fun k => ?_) this
  unfold laws_toCylinderS.f
  rw [if_pos (by omega), if_pos (by omega)]
  simp
theorem eqCylinder_eq (a b c d : Int) : laws_eqCylinder.f a b c d = some (decide (a = c ∧ b = d)) := by
  unfold laws_eqCylinder.f
  by_cases h : a = c
  · by_cases h2 : b = d
    · simp [h, h2]
    · simp [h, h2]
  · simp [h]
theorem eqCylinderS_l0 (l : List Cyl) (hl : l.length ≤ 1048576) : ∀ (suf pre : List Cyl), l = pre ++ suf → Ev (fun k => laws_eqCylinderS.l0 k l l (pre.length : Int)) true := by
  intro suf
  induction suf with
  | nil =>
    intro pre h
    subst h
    refine ⟨1, fun k hk => ?_⟩
    obtain ⟨k, rfl⟩ : ∃ m, k = m + 1 := ⟨k - 1, by omega⟩
    simp only [laws_eqCylinderS.l0]
    rw [if_neg (nlt_end pre)]
  | cons c suf ih =>
    intro pre h
    have := ih (pre ++ [c]) (by simp [h])
    subst h
    refine Ev.step (fun k => ?_) this
    simp only [laws_eqCylinderS.l0]
    rw [if_pos (lt_mid pre suf c), if_pos (Int.natCast_nonneg _), if_pos (lt_mid pre suf c), rdTC_mid, eqCylinder_eq]
    simp only [Option.bind_some, and_self, decide_true, if_true]
    rw [wrap_snoc (s := suf) (by simp at hl ⊢; omega)]
theorem eqCylinderS_ev (l : List Cyl) (hl : l.length ≤ 1048576) : Ev (fun k => laws_eqCylinderS.f k l l) true := by
  have := eqCylinderS_l0 l hl l [] rfl
  refine Ev.congr (fun k => ?_) this
  unfold laws_eqCylinderS.f
  rw [if_pos rfl]
  simp

def Cyls64 (l : List Cyl) : Prop := ∀ x ∈ l, In64 x.f0 ∧ In64 x.f1
def cylT (c : Cyl) : ByteArray := cylB c.f0 c.f1
theorem tot_cyls (sep : ByteArray) (hs : sep.size = 1) : ∀ (l : List Cyl), Cyls64 l → tot (l.map cylT) sep ≤ 42 * l.length
  | [], _ => by simp [tot]
  | x :: l, h => by
    have h1 := tot_cyls sep hs l (fun y hy => h y (List.mem_cons_of_mem _ hy))
    have h2 := h x List.mem_cons_self
    have h3 := cylB_size h2.1 h2.2
    simp only [List.map_cons, tot, List.length_cons, cylT]
    omega
def cylLine (l : List Cyl) : ByteArray := if l = [] then ⟨#[45]⟩ else joinOf (l.map cylT) ⟨#[32]⟩
theorem spec_cylline_l0 (l : List Cyl) (hl : l.length ≤ 1048576) (h : Cyls64 l) : ∀ (suf pre : List Cyl), l = pre ++ suf → Ev (fun k => spec_CylinderLine.l0 k (pre.map cylT) l (l.length : Int) (pre.length : Int)) (cylLine l)
  | [], pre, e => by
    refine ev_up ?_
    have e2 : l = pre := by simpa using e
    subst e2
    simp only [spec_CylinderLine.l0, if_neg (show ¬ ((l.length : Int) < l.length) by omega), cylLine]
    by_cases h0 : l = []
    · subst h0
      exact Ev.now _
    · have hp : 0 < l.length := List.length_pos_iff.2 h0
      simp only [if_neg h0, List.length_map, if_neg (show ¬ (l.length : Int) = 0 by omega)]
      have := tot_cyls ⟨#[32]⟩ rfl l h
      exact Ev.bind (spec_join _ (l.map cylT) (by rw [List.length_map]; omega) (by omega)) (Ev.now _)
  | x :: suf, pre, e => by
    refine ev_up ?_
    have hlen : l.length = pre.length + suf.length + 1 := by rw [e]; simp; omega
    have hx : rd_T40 l (pre.length : Int) = x := by rw [e]; exact rdTC_mid _ _ _
    have hxm := h x (by rw [e]; simp)
    have hw : wrap64 ((pre.length : Int) + 1) = ((pre ++ [x]).length : Int) := by rw [pw_wrap (by omega) (by omega)]; simp
    have ih := spec_cylline_l0 l hl h suf (pre ++ [x]) (by simp [e])
    simp only [spec_CylinderLine.l0, if_pos (show ((pre.length : Int) < l.length) by omega), if_pos (show (0 ≤ (pre.length : Int)) by omega), hx, hw]
    refine Ev.bind (spec_fmtcyl hxm.1 hxm.2) ?_
    refine Ev.congr (f := fun k => _) (fun k => if_pos (by rw [List.length_map]; omega)) ?_
    rw [List.map_append] at ih
    exact ih
theorem impl_cylline_l0 (l : List Cyl) (h0 : l ≠ []) (hl : l.length ≤ 1048576) (h : Cyls64 l) : ∀ (suf pre : List Cyl), l = pre ++ suf → Ev (fun k => impl_CylinderLine.l0 k (pre.map cylT) l (l.length : Int) (pre.length : Int)) (cylLine l)
  | [], pre, e => by
    refine ev_up ?_
    have e2 : l = pre := by simpa using e
    subst e2
    have := tot_cyls ⟨#[32]⟩ rfl l h
    simp only [impl_CylinderLine.l0, if_neg (show ¬ ((l.length : Int) < l.length) by omega), cylLine, if_neg h0, impl_join _ (l.map cylT) (by rw [List.length_map]; omega) (show tot (l.map cylT) ⟨#[32]⟩ ≤ 1000000000000 by omega), Option.bind_some]
    exact Ev.now _
  | x :: suf, pre, e => by
    refine ev_up ?_
    have hlen : l.length = pre.length + suf.length + 1 := by rw [e]; simp; omega
    have hx : rd_T40 l (pre.length : Int) = x := by rw [e]; exact rdTC_mid _ _ _
    have hxm := h x (by rw [e]; simp)
    have hw : wrap64 ((pre.length : Int) + 1) = ((pre ++ [x]).length : Int) := by rw [pw_wrap (by omega) (by omega)]; simp
    have ih := impl_cylline_l0 l h0 hl h suf (pre ++ [x]) (by simp [e])
    simp only [impl_CylinderLine.l0, if_pos (show ((pre.length : Int) < l.length) by omega), if_pos (show (0 ≤ (pre.length : Int)) by omega), hx, hw, impl_fmtcyl hxm.1 hxm.2, Option.bind_some]
    refine Ev.congr (f := fun k => _) (fun k => if_pos (by rw [List.length_map]; omega)) ?_
    rw [List.map_append] at ih
    exact ih
theorem spec_cylline (l : List Cyl) (hl : l.length ≤ 1048576) (h : Cyls64 l) : Ev (fun k => spec_CylinderLine.f k l) (cylLine l) := by
  unfold spec_CylinderLine.f
  exact spec_cylline_l0 l hl h l [] rfl
theorem impl_cylline (l : List Cyl) (hl : l.length ≤ 1048576) (h : Cyls64 l) : Ev (fun k => impl_CylinderLine.f k l) (cylLine l) := by
  unfold impl_CylinderLine.f
  by_cases h0 : l = []
  · subst h0
    exact Ev.now _
  · have hp : 0 < l.length := List.length_pos_iff.2 h0
    simp only [if_neg (show ¬ (l.length : Int) = 0 by omega)]
    exact impl_cylline_l0 l h0 hl h l [] rfl

theorem FnExactCylinderLine : laws_FnExactCylinderLine.Pure := by
  intro l hl hw
  apply Ev.rounds
  unfold laws_FnExactCylinderLine.f
  simp only [szCylinderS_eq l hl, Option.bind_some]
  by_cases h : l.length ≤ 1048576
  · simp only [if_pos h]
    refine Ev.congr (f := fun k => _) (fun k => if_neg (by omega)) ?_
    have hc : Cyls64 (l.map convC) := by
      intro x hx
      obtain ⟨y, hy, rfl⟩ := List.mem_map.1 hx
      exact ⟨i64_wf (hw y hy).1, i64_wf (hw y hy).2⟩
    have h2 : (l.map convC).length ≤ 1048576 := by rw [List.length_map]; exact h
    refine Ev.bind (toCylinderS_ev l h) ?_
    refine Ev.bind (spec_cylline _ h2 hc) ?_
    refine Ev.bind (toCylinderS_ev l h) ?_
    refine Ev.bind (impl_cylline _ h2 hc) ?_
    simp only [if_true]
    refine Ev.bind (toCylinderS_ev l h) ?_
    refine Ev.bind (eqCylinderS_ev _ h2) ?_
    simp only [if_true]
    exact Ev.now _
  · simp only [if_neg h]
    exact Ev.now _

end Go.Proofs.YtnoopmbhdlfkbaaDoor.Pure
