/- Sites and outcomes as text. -/
import Derived.Test.YtjpffjhpfgipaaaDoorFnL
import Derived.Test.YtjpffjhpfgipaaaDoorFnB
namespace Go.Proofs.YtjpffjhpfgipaaaDoor
open Go Go.ChangeShapes Go.WideShapes Go.ChangeAt Go.RowKit
set_option linter.unusedVariables false
set_option maxRecDepth 100000

theorem catS_size (a b : ByteArray) : (catS a b).size = a.size + b.size := by unfold catS; exact ByteArray.size_append
theorem bslash : (ByteArray.mk #[47]).size = 1 := rfl
theorem bspace : (ByteArray.mk #[32]).size = 1 := rfl
theorem catS_assoc (a b c : ByteArray) : catS (catS a b) c = catS a (catS b c) := by
  apply ba_ext; simp only [catS_list, List.append_assoc]
def siteS (s : GSite) : ByteArray := if isSite s then catS (catS (numS s.Owner) ⟨#[47]⟩) (numS s.Sub) else ⟨#[]⟩
theorem siteS_size (s : GSite) : (siteS s).size ≤ 43 := by
  unfold siteS
  split
  · rename_i h
    simp only [isSite, inR, Bool.and_eq_true, decide_eq_true_eq] at h
    have h1 := numS_size (n := s.Owner) (by omega)
    have h2 := numS_size (n := s.Sub) (by omega)
    rw [catS_size, catS_size, bslash]; omega
  · exact Nat.zero_le _
theorem ev_sSiteText (s : GSite) (S : Store) : EvA Tryd.prog 8 [.agg s.c] S (fun r S' => r = .v (.s (.str (siteS s))) ∧ S' = S) := by
  cases hs : isSite s with
  | false =>
    rw [show siteS s = ⟨#[]⟩ from by unfold siteS; rw [hs]; rfl]
    refine evA_intro tok Tryd.func8 (by kernel_rfl) rfl ?_
    repeat' ((conv => whnf) <;> first
     | rw [wrapI_i64 (by omega)]
     | (refine condP_true ?_ ?_; · assumption)
     | (refine condP_false ?_ ?_; · assumption)
     | (refine condP_nt ?_ ?_; · assumption)
     | (refine condP_nf ?_ ?_; · assumption)
     | (refine condP_decT ?_ ?_; · omega)
     | (refine condP_decF ?_ ?_; · omega)
     | (refine condP_ndT ?_ ?_; · omega)
     | (refine condP_ndF ?_ ?_; · omega)
     | refine condP_dec (fun _ => ?_) (fun _ => ?_)
     | refine condP_ndec (fun _ => ?_) (fun _ => ?_)
     | refine condP_true rfl ?_
     | refine condP_false rfl ?_
     | refine condP_not (fun _ => ?_) (fun _ => ?_)
     | refine condP_intro (fun _ => ?_) (fun _ => ?_)
     | refine callP_eq (ev_sIsSite _ _) ?_
     | refine callP_eq (ev_sFormatInt _ _ (by omega)) ?_
     | refine needP_intro (by first | omega | (constructor <;> omega)) ?_
     | refine draw_intro 6 [.fl 0, .fl 1, .fl 4, .fl 5, .st 2 [4, 5], .fl 3, .st 6 [3], .fl 7, .st 8 []] (by rfl) (by kernel_rfl) ?_
     | refine And.intro ?_ ?_)
    all_goals first | rfl | (exfalso; simp_all; done)
  | true =>
    rw [show siteS s = catS (catS (numS s.Owner) ⟨#[47]⟩) (numS s.Sub) from by unfold siteS; rw [hs]; rfl]
    have hb : (1 ≤ s.Owner ∧ s.Owner ≤ 9) ∧ 0 ≤ s.Sub ∧ s.Sub ≤ 9 := by
      simpa [isSite, inR, Bool.and_eq_true, decide_eq_true_eq] using hs
    have h1 := numS_size (n := s.Owner) (by omega)
    have h2 := numS_size (n := s.Sub) (by omega)
    refine evA_intro tok Tryd.func8 (by kernel_rfl) rfl ?_
    repeat' ((conv => whnf) <;> first
     | refine needP_intro (by simp only [catS_size, bslash]; omega) ?_
     | rw [wrapI_i64 (by omega)]
     | (refine condP_true ?_ ?_; · assumption)
     | (refine condP_false ?_ ?_; · assumption)
     | (refine condP_nt ?_ ?_; · assumption)
     | (refine condP_nf ?_ ?_; · assumption)
     | (refine condP_decT ?_ ?_; · omega)
     | (refine condP_decF ?_ ?_; · omega)
     | (refine condP_ndT ?_ ?_; · omega)
     | (refine condP_ndF ?_ ?_; · omega)
     | refine condP_dec (fun _ => ?_) (fun _ => ?_)
     | refine condP_ndec (fun _ => ?_) (fun _ => ?_)
     | refine condP_true rfl ?_
     | refine condP_false rfl ?_
     | refine condP_not (fun _ => ?_) (fun _ => ?_)
     | refine condP_intro (fun _ => ?_) (fun _ => ?_)
     | refine callP_eq (ev_sIsSite _ _) ?_
     | refine callP_eq (ev_sFormatInt _ _ (by omega)) ?_
     | refine needP_intro (by first | omega | (constructor <;> omega)) ?_
     | refine draw_intro 6 [.fl 0, .fl 1, .fl 4, .fl 5, .st 2 [4, 5], .fl 3, .st 6 [3], .fl 7, .st 8 []] (by rfl) (by kernel_rfl) ?_
     | refine And.intro ?_ ?_)
    all_goals first | rfl | (exfalso; simp_all; done)
theorem ev_iSiteText (s : GSite) (S : Store) : EvA Tryd.prog 10 [.agg s.c] S (fun r S' => r = .v (.s (.str (siteS s))) ∧ S' = S) := by
  cases hs : isSite s with
  | false =>
    rw [show siteS s = ⟨#[]⟩ from by unfold siteS; rw [hs]; rfl]
    refine evA_intro tok Tryd.func10 (by kernel_rfl) rfl ?_
    repeat' ((conv => whnf) <;> first
     | rw [wrapI_i64 (by omega)]
     | (refine condP_true ?_ ?_; · assumption)
     | (refine condP_false ?_ ?_; · assumption)
     | (refine condP_nt ?_ ?_; · assumption)
     | (refine condP_nf ?_ ?_; · assumption)
     | (refine condP_decT ?_ ?_; · omega)
     | (refine condP_decF ?_ ?_; · omega)
     | (refine condP_ndT ?_ ?_; · omega)
     | (refine condP_ndF ?_ ?_; · omega)
     | refine condP_dec (fun _ => ?_) (fun _ => ?_)
     | refine condP_ndec (fun _ => ?_) (fun _ => ?_)
     | refine condP_true rfl ?_
     | refine condP_false rfl ?_
     | refine condP_not (fun _ => ?_) (fun _ => ?_)
     | refine condP_intro (fun _ => ?_) (fun _ => ?_)
     | refine callP_eq (ev_iIsSite _ _) ?_
     | refine callP_eq (ev_iFormatInt _ _ (by omega)) ?_
     | refine callP_eq (ev_iFormatIntT _ _ (by omega)) ?_
     | refine needP_intro (by first | omega | (constructor <;> omega)) ?_
     | refine draw_intro 6 [.fl 0, .fl 1, .fl 4, .fl 5, .st 2 [4, 5], .fl 3, .st 6 [3], .fl 7, .st 8 []] (by rfl) (by kernel_rfl) ?_
     | refine And.intro ?_ ?_)
    all_goals first | rfl | (exfalso; simp_all; done)
  | true =>
    rw [show siteS s = catS (catS (numS s.Owner) ⟨#[47]⟩) (numS s.Sub) from by unfold siteS; rw [hs]; rfl]
    have hb : (1 ≤ s.Owner ∧ s.Owner ≤ 9) ∧ 0 ≤ s.Sub ∧ s.Sub ≤ 9 := by
      simpa [isSite, inR, Bool.and_eq_true, decide_eq_true_eq] using hs
    have h1 := numS_size (n := s.Owner) (by omega)
    have h2 := numS_size (n := s.Sub) (by omega)
    refine evA_intro tok Tryd.func10 (by kernel_rfl) rfl ?_
    repeat' ((conv => whnf) <;> first
     | refine needP_intro (by simp only [catS_size, bslash]; omega) ?_
     | rw [wrapI_i64 (by omega)]
     | (refine condP_true ?_ ?_; · assumption)
     | (refine condP_false ?_ ?_; · assumption)
     | (refine condP_nt ?_ ?_; · assumption)
     | (refine condP_nf ?_ ?_; · assumption)
     | (refine condP_decT ?_ ?_; · omega)
     | (refine condP_decF ?_ ?_; · omega)
     | (refine condP_ndT ?_ ?_; · omega)
     | (refine condP_ndF ?_ ?_; · omega)
     | refine condP_dec (fun _ => ?_) (fun _ => ?_)
     | refine condP_ndec (fun _ => ?_) (fun _ => ?_)
     | refine condP_true rfl ?_
     | refine condP_false rfl ?_
     | refine condP_not (fun _ => ?_) (fun _ => ?_)
     | refine condP_intro (fun _ => ?_) (fun _ => ?_)
     | refine callP_eq (ev_iIsSite _ _) ?_
     | refine callP_eq (ev_iFormatInt _ _ (by omega)) ?_
     | refine callP_eq (ev_iFormatIntT _ _ (by omega)) ?_
     | refine needP_intro (by first | omega | (constructor <;> omega)) ?_
     | refine draw_intro 6 [.fl 0, .fl 1, .fl 4, .fl 5, .st 2 [4, 5], .fl 3, .st 6 [3], .fl 7, .st 8 []] (by rfl) (by kernel_rfl) ?_
     | refine And.intro ?_ ?_)
    all_goals first | rfl | (exfalso; simp_all; done)
def nameO (c : Int) : ByteArray :=
  if c = 1 then ⟨#[100, 111, 110, 101]⟩ else if c = 2 then ⟨#[98, 108, 111, 99, 107, 101, 100]⟩ else if c = 3 then ⟨#[108, 111, 111, 112]⟩ else if c = 4 then ⟨#[108, 111, 110, 103]⟩ else ⟨#[]⟩
theorem ev_iOutcomeName (c : Int) (S : Store) : EvA Tryd.prog 42 [.s (.int .i64 c)] S (fun r S' => r = .v (.s (.str (nameO c))) ∧ S' = S) := by
  refine evA_intro tok Tryd.func42 (by kernel_rfl) rfl ?_
  repeat' ((conv => whnf) <;> first
   | refine condP_dec (fun _ => ?_) (fun _ => ?_)
   | refine condP_ndec (fun _ => ?_) (fun _ => ?_)
   | refine condP_true rfl ?_
   | refine condP_false rfl ?_
   | refine condP_not (fun _ => ?_) (fun _ => ?_)
   | refine condP_intro (fun _ => ?_) (fun _ => ?_)
   | refine needP_intro (by first | omega | (constructor <;> omega)) ?_
   | refine And.intro ?_ ?_)
  all_goals (unfold nameO; simp_all [resAV])
theorem rd_litS {S : Store} (l : List ByteArray) (h : l.length ≤ 9223372036854775807) : Rd (S ++ [⟨true, 1, l.map fun n => [.str n]⟩]) [.sl 1 (l.map dStr)] [.sl S.length 0 l.length l.length] :=
  Fr.rd (lo := S.length) (fr_push (xs := l.map dStr) (js := []) (rep2_flat (f := dStr) (fun _ => trivial) l) List.nodup_nil (fun _ h => by cases h) (Nat.le_refl _) (by rw [maxLen_eq]; simpa using h) (by simp))
abbrev names5 : List ByteArray := [⟨#[]⟩, ⟨#[100, 111, 110, 101]⟩, ⟨#[98, 108, 111, 99, 107, 101, 100]⟩, ⟨#[108, 111, 111, 112]⟩, ⟨#[108, 111, 110, 103]⟩]
theorem ev_sOutcomeName (c : Int) (S : Store) : EvA Tryd.prog 40 [.s (.int .i64 c)] S (fun r S' => r = .v (.s (.str (nameO c))) ∧ S' = S) := by
  refine EvA.drop rfl ?_
  have hc : c = 1 ∨ c = 2 ∨ c = 3 ∨ c = 4 ∨ ¬ (1 ≤ c ∧ c ≤ 4) := by omega
  rcases hc with rfl | rfl | rfl | rfl | hc
  · refine evA_intro tok Tryd.func40 (by kernel_rfl) rfl ?_
    repeat' ((conv => whnf) <;> first
     | refine condP_dec (fun _ => ?_) (fun _ => ?_)
     | refine condP_ndec (fun _ => ?_) (fun _ => ?_)
     | refine condP_true rfl ?_
     | refine condP_false rfl ?_
     | refine condP_inR (fun _ _ => ?_) (fun _ _ => ?_)
     | refine condP_ninR (fun _ _ => ?_) (fun _ _ => ?_)
     | refine condP_not (fun _ => ?_) (fun _ => ?_)
     | refine condP_intro (fun _ => ?_) (fun _ => ?_)
     | refine callP_eq (ev_l1In _ _ _ _) ?_
     | refine rd_idxm rdA (by intro _; rfl) (by constructor <;> omega) ?_
     | refine rd_loadf rdA (by intro _; exact trivial) (by constructor <;> omega) ?_
     | refine needP_intro (by first | omega | (constructor <;> omega)) ?_
     | (refine rd_idxm (rd_litS names5 (by decide)) (by intro _; rfl) (by decide) ?_)
     | refine rd_loadf (rd_litS names5 (by decide)) (fun _ => trivial) (by decide) ?_
     | refine And.intro ?_ ?_)
    all_goals first
      | rfl
      | exact Ext.push _ _
      | (exfalso; omega)
  · refine evA_intro tok Tryd.func40 (by kernel_rfl) rfl ?_
    repeat' ((conv => whnf) <;> first
     | refine condP_dec (fun _ => ?_) (fun _ => ?_)
     | refine condP_ndec (fun _ => ?_) (fun _ => ?_)
     | refine condP_true rfl ?_
     | refine condP_false rfl ?_
     | refine condP_inR (fun _ _ => ?_) (fun _ _ => ?_)
     | refine condP_ninR (fun _ _ => ?_) (fun _ _ => ?_)
     | refine condP_not (fun _ => ?_) (fun _ => ?_)
     | refine condP_intro (fun _ => ?_) (fun _ => ?_)
     | refine callP_eq (ev_l1In _ _ _ _) ?_
     | refine rd_idxm rdA (by intro _; rfl) (by constructor <;> omega) ?_
     | refine rd_loadf rdA (by intro _; exact trivial) (by constructor <;> omega) ?_
     | refine needP_intro (by first | omega | (constructor <;> omega)) ?_
     | (refine rd_idxm (rd_litS names5 (by decide)) (by intro _; rfl) (by decide) ?_)
     | refine rd_loadf (rd_litS names5 (by decide)) (fun _ => trivial) (by decide) ?_
     | refine And.intro ?_ ?_)
    all_goals first
      | rfl
      | exact Ext.push _ _
      | (exfalso; omega)
  · refine evA_intro tok Tryd.func40 (by kernel_rfl) rfl ?_
    repeat' ((conv => whnf) <;> first
     | refine condP_dec (fun _ => ?_) (fun _ => ?_)
     | refine condP_ndec (fun _ => ?_) (fun _ => ?_)
     | refine condP_true rfl ?_
     | refine condP_false rfl ?_
     | refine condP_inR (fun _ _ => ?_) (fun _ _ => ?_)
     | refine condP_ninR (fun _ _ => ?_) (fun _ _ => ?_)
     | refine condP_not (fun _ => ?_) (fun _ => ?_)
     | refine condP_intro (fun _ => ?_) (fun _ => ?_)
     | refine callP_eq (ev_l1In _ _ _ _) ?_
     | refine rd_idxm rdA (by intro _; rfl) (by constructor <;> omega) ?_
     | refine rd_loadf rdA (by intro _; exact trivial) (by constructor <;> omega) ?_
     | refine needP_intro (by first | omega | (constructor <;> omega)) ?_
     | (refine rd_idxm (rd_litS names5 (by decide)) (by intro _; rfl) (by decide) ?_)
     | refine rd_loadf (rd_litS names5 (by decide)) (fun _ => trivial) (by decide) ?_
     | refine And.intro ?_ ?_)
    all_goals first
      | rfl
      | exact Ext.push _ _
      | (exfalso; omega)
  · refine evA_intro tok Tryd.func40 (by kernel_rfl) rfl ?_
    repeat' ((conv => whnf) <;> first
     | refine condP_dec (fun _ => ?_) (fun _ => ?_)
     | refine condP_ndec (fun _ => ?_) (fun _ => ?_)
     | refine condP_true rfl ?_
     | refine condP_false rfl ?_
     | refine condP_inR (fun _ _ => ?_) (fun _ _ => ?_)
     | refine condP_ninR (fun _ _ => ?_) (fun _ _ => ?_)
     | refine condP_not (fun _ => ?_) (fun _ => ?_)
     | refine condP_intro (fun _ => ?_) (fun _ => ?_)
     | refine callP_eq (ev_l1In _ _ _ _) ?_
     | refine rd_idxm rdA (by intro _; rfl) (by constructor <;> omega) ?_
     | refine rd_loadf rdA (by intro _; exact trivial) (by constructor <;> omega) ?_
     | refine needP_intro (by first | omega | (constructor <;> omega)) ?_
     | (refine rd_idxm (rd_litS names5 (by decide)) (by intro _; rfl) (by decide) ?_)
     | refine rd_loadf (rd_litS names5 (by decide)) (fun _ => trivial) (by decide) ?_
     | refine And.intro ?_ ?_)
    all_goals first
      | rfl
      | exact Ext.push _ _
      | (exfalso; omega)
  · have e : nameO c = ⟨#[]⟩ := by
      unfold nameO; rw [if_neg (by omega), if_neg (by omega), if_neg (by omega), if_neg (by omega)]
    rw [e]
    have hi : inR c 1 4 = false := by
      cases hh : inR c 1 4 with
      | false => rfl
      | true => exact absurd (inR_t hh) hc
    refine evA_intro tok Tryd.func40 (by kernel_rfl) rfl ?_
    repeat' ((conv => whnf) <;> first
     | (refine condP_true ?_ ?_; · assumption)
     | (refine condP_false ?_ ?_; · assumption)
     | (refine condP_nt ?_ ?_; · assumption)
     | (refine condP_nf ?_ ?_; · assumption)
     | (refine condP_decT ?_ ?_; · omega)
     | (refine condP_decF ?_ ?_; · omega)
     | (refine condP_ndT ?_ ?_; · omega)
     | (refine condP_ndF ?_ ?_; · omega)
     | refine condP_dec (fun _ => ?_) (fun _ => ?_)
     | refine condP_ndec (fun _ => ?_) (fun _ => ?_)
     | refine condP_true rfl ?_
     | refine condP_false rfl ?_
     | refine condP_inR (fun _ _ => ?_) (fun _ _ => ?_)
     | refine condP_ninR (fun _ _ => ?_) (fun _ _ => ?_)
     | refine condP_not (fun _ => ?_) (fun _ => ?_)
     | refine condP_intro (fun _ => ?_) (fun _ => ?_)
     | refine callP_eq (ev_l1In _ _ _ _) ?_
     | refine rd_idxm rdA (by intro _; rfl) (by constructor <;> omega) ?_
     | refine rd_loadf rdA (by intro _; exact trivial) (by constructor <;> omega) ?_
     | refine needP_intro (by first | omega | (constructor <;> omega)) ?_
     | refine And.intro ?_ ?_)
    all_goals first
      | rfl
      | exact Ext.refl _
      | (exfalso; omega)
      | (exfalso; simp_all; done)
theorem nameO_size (c : Int) : (nameO c).size ≤ 7 := by
  unfold nameO; split
  · decide
  · split
    · decide
    · split
      · decide
      · split <;> decide
def outF (s : ByteArray) : List GSite → ByteArray
  | [] => s
  | x :: r => outF (catS (catS s ⟨#[32]⟩) (siteS x)) r
theorem outF_cons (s : ByteArray) (x : GSite) (r : List GSite) : outF s (x :: r) = outF (catS (catS s ⟨#[32]⟩) (siteS x)) r := rfl
def outS (o : GOutcome) : ByteArray := if eqS (nameO o.Code) ⟨#[]⟩ = true then ⟨#[110, 111]⟩ else outF (nameO o.Code) o.Path
theorem ev_sOutcomeText (o : GOutcome) (cs : List C) (S : Store) (h : Rd S o.d cs) (hz : szL o.d ≤ 4194304) : EvA Tryd.prog 19 [.agg cs] S (fun r S' => r = .v (.s (.str (outS o))) ∧ S' = S) := by
  have hl : o.Path.length ≤ 4194304 := by simp only [GOutcome.d, szL, List.length_map] at hz; omega
  have hnm := nameO_size o.Code
  obtain ⟨_, rfl, _⟩ := GOutcome.inv h
  refine evA_intro tok Tryd.func19 (by kernel_rfl) rfl ?_
  cases hn : eqS (nameO o.Code) ⟨#[]⟩ with
  | true =>
    rw [show outS o = ⟨#[110, 111]⟩ from by unfold outS; rw [if_pos hn]]
    repeat' ((conv => whnf) <;> first
     | rw [wrapI_i64 (by omega)]
     | refine condP_dec (fun _ => ?_) (fun _ => ?_)
     | refine condP_ndec (fun _ => ?_) (fun _ => ?_)
     | refine condP_true rfl ?_
     | refine condP_false rfl ?_
     | refine condP_not (fun _ => ?_) (fun _ => ?_)
     | refine condP_intro (fun _ => ?_) (fun _ => ?_)
     | refine callP_eq (ev_sSiteText _ _) ?_
     | refine callP_eq (ev_sOutcomeName _ _) ?_
     | (refine rd_lenm (by assumption) ?_; intro hml; rw [maxLen_eq] at hml)
     | refine rd_idxm (by assumption) (by intro _; rfl) (by constructor <;> omega) ?_
     | refine rd_loadf (by assumption) (by intro _; exact trivial) (by constructor <;> omega) ?_
     | refine needP_intro (by first | omega | (constructor <;> omega)) ?_
     | refine And.intro ?_ ?_)
    all_goals first | rfl | (exfalso; simp_all; done)
  | false =>
    rw [show outS o = outF (nameO o.Code) o.Path from by unfold outS; rw [hn]; rfl]
    repeat' ((conv => whnf) <;> first
     | rw [wrapI_i64 (by omega)]
     | refine condP_dec (fun _ => ?_) (fun _ => ?_)
     | refine condP_ndec (fun _ => ?_) (fun _ => ?_)
     | refine condP_true rfl ?_
     | refine condP_false rfl ?_
     | refine condP_not (fun _ => ?_) (fun _ => ?_)
     | refine condP_intro (fun _ => ?_) (fun _ => ?_)
     | refine callP_eq (ev_sSiteText _ _) ?_
     | refine callP_eq (ev_sOutcomeName _ _) ?_
     | (refine rd_lenm (by assumption) ?_; intro hml; rw [maxLen_eq] at hml)
     | refine rd_idxm (by assumption) (by intro _; rfl) (by constructor <;> omega) ?_
     | refine rd_loadf (by assumption) (by intro _; exact trivial) (by constructor <;> omega) ?_
     | refine needP_intro (by first | omega | (constructor <;> omega)) ?_
     | refine And.intro ?_ ?_)
    all_goals try (exfalso; simp_all; done)
    refine loop_intro {p : Nat × ByteArray // p.1 ≤ o.Path.length ∧ p.2.size ≤ 7 + 44 * p.1 ∧ outF p.2 (o.Path.drop p.1) = outF (nameO o.Code) o.Path} [3, 4, 10, 11, 12, 13, 14, 15, 16, 17, 18, 19, 20, 21, 22, 23, 24, 25] (fun zb => [(4, .v (.s (.int .i64 (zb.1.1)))), (3, .v (.s (.str zb.1.2)))]) (fun _ => S) (fun zb => o.Path.length - zb.1.1) ⟨(0, nameO o.Code), Nat.zero_le _, ⟨by simpa using hnm, rfl⟩⟩ ?_ rfl ?_
    · (conv => whnf); repeat' (first | exact trivial | exact rfl | apply And.intro)
    rintro ⟨⟨i, st⟩, hi, hinv⟩; dsimp only
    replace hi : i ≤ o.Path.length := hi; dsimp only at hinv
    obtain ⟨hs1, hs2⟩ := hinv
    have hsite := fun x => siteS_size x
    by_cases hlt : i < o.Path.length
    · rw [drop_at hlt, outF_cons] at hs2
      have hss := siteS_size (o.Path[i])
      repeat' ((conv => whnf) <;> first
       | refine needP_intro (by simp only [catS_size, bspace]; first | omega | (have := hsite (o.Path[(i : Int).toNat]); omega)) ?_
       | rw [wrapI_i64 (by omega)]
       | refine condP_dec (fun _ => ?_) (fun _ => ?_)
       | refine condP_ndec (fun _ => ?_) (fun _ => ?_)
       | refine condP_true rfl ?_
       | refine condP_false rfl ?_
       | refine condP_not (fun _ => ?_) (fun _ => ?_)
       | refine condP_intro (fun _ => ?_) (fun _ => ?_)
       | refine callP_eq (ev_sSiteText _ _) ?_
       | refine callP_eq (ev_sOutcomeName _ _) ?_
       | (refine rd_lenm (by assumption) ?_; intro hml; rw [maxLen_eq] at hml)
       | refine rd_idxm (by assumption) (by intro _; rfl) (by constructor <;> omega) ?_
       | refine rd_loadf (by assumption) (by intro _; exact trivial) (by constructor <;> omega) ?_
       | refine needP_intro (by first | omega | (constructor <;> omega)) ?_
       | (fail)
       | refine And.intro ?_ ?_)
      all_goals first
        | (exfalso; omega)
        | (refine ⟨⟨(i + 1, catS (catS st ⟨#[32]⟩) (siteS o.Path[i])), by dsimp only; omega, by dsimp only; simp only [catS_size, bspace]; omega, hs2⟩, ?_, rfl, by dsimp only; omega⟩; (conv => whnf); repeat' (first | exact trivial | exact rfl | exact congrArg (fun z => AV.v (V.s (C.str z))) (catS_assoc st ⟨#[32]⟩ (siteS o.Path[i])).symm | apply And.intro))
    · have he : i = o.Path.length := by omega
      subst he
      rw [List.drop_length] at hs2
      rw [← hs2]
      repeat' ((conv => whnf) <;> first
       | rw [wrapI_i64 (by omega)]
       | refine condP_dec (fun _ => ?_) (fun _ => ?_)
       | refine condP_ndec (fun _ => ?_) (fun _ => ?_)
       | refine condP_true rfl ?_
       | refine condP_false rfl ?_
       | refine condP_not (fun _ => ?_) (fun _ => ?_)
       | refine condP_intro (fun _ => ?_) (fun _ => ?_)
       | refine callP_eq (ev_sSiteText _ _) ?_
       | refine callP_eq (ev_sOutcomeName _ _) ?_
       | (refine rd_lenm (by assumption) ?_; intro hml; rw [maxLen_eq] at hml)
       | refine rd_idxm (by assumption) (by intro _; rfl) (by constructor <;> omega) ?_
       | refine rd_loadf (by assumption) (by intro _; exact trivial) (by constructor <;> omega) ?_
       | refine needP_intro (by first | omega | (constructor <;> omega)) ?_
       | refine And.intro ?_ ?_)
      all_goals first | rfl | (exfalso; omega)
theorem ev_iOutcomeText (o : GOutcome) (cs : List C) (S : Store) (h : Rd S o.d cs) (hz : szL o.d ≤ 4194304) : EvA Tryd.prog 21 [.agg cs] S (fun r S' => r = .v (.s (.str (outS o))) ∧ S' = S) := by
  have hl : o.Path.length ≤ 4194304 := by simp only [GOutcome.d, szL, List.length_map] at hz; omega
  have hnm := nameO_size o.Code
  obtain ⟨_, rfl, _⟩ := GOutcome.inv h
  refine evA_intro tok Tryd.func21 (by kernel_rfl) rfl ?_
  cases hn : eqS (nameO o.Code) ⟨#[]⟩ with
  | true =>
    rw [show outS o = ⟨#[110, 111]⟩ from by unfold outS; rw [if_pos hn]]
    repeat' ((conv => whnf) <;> first
     | rw [wrapI_i64 (by omega)]
     | refine condP_dec (fun _ => ?_) (fun _ => ?_)
     | refine condP_ndec (fun _ => ?_) (fun _ => ?_)
     | refine condP_true rfl ?_
     | refine condP_false rfl ?_
     | refine condP_not (fun _ => ?_) (fun _ => ?_)
     | refine condP_intro (fun _ => ?_) (fun _ => ?_)
     | refine callP_eq (ev_iSiteText _ _) ?_
     | refine callP_eq (ev_iOutcomeName _ _) ?_
     | (refine rd_lenm (by assumption) ?_; intro hml; rw [maxLen_eq] at hml)
     | refine rd_idxm (by assumption) (by intro _; rfl) (by constructor <;> omega) ?_
     | refine rd_loadf (by assumption) (by intro _; exact trivial) (by constructor <;> omega) ?_
     | refine needP_intro (by first | omega | (constructor <;> omega)) ?_
     | refine And.intro ?_ ?_)
    all_goals first | rfl | (exfalso; simp_all; done)
  | false =>
    rw [show outS o = outF (nameO o.Code) o.Path from by unfold outS; rw [hn]; rfl]
    repeat' ((conv => whnf) <;> first
     | rw [wrapI_i64 (by omega)]
     | refine condP_dec (fun _ => ?_) (fun _ => ?_)
     | refine condP_ndec (fun _ => ?_) (fun _ => ?_)
     | refine condP_true rfl ?_
     | refine condP_false rfl ?_
     | refine condP_not (fun _ => ?_) (fun _ => ?_)
     | refine condP_intro (fun _ => ?_) (fun _ => ?_)
     | refine callP_eq (ev_iSiteText _ _) ?_
     | refine callP_eq (ev_iOutcomeName _ _) ?_
     | (refine rd_lenm (by assumption) ?_; intro hml; rw [maxLen_eq] at hml)
     | refine rd_idxm (by assumption) (by intro _; rfl) (by constructor <;> omega) ?_
     | refine rd_loadf (by assumption) (by intro _; exact trivial) (by constructor <;> omega) ?_
     | refine needP_intro (by first | omega | (constructor <;> omega)) ?_
     | refine And.intro ?_ ?_)
    all_goals try (exfalso; simp_all; done)
    refine loop_intro {p : Nat × ByteArray // p.1 ≤ o.Path.length ∧ p.2.size ≤ 7 + 44 * p.1 ∧ outF p.2 (o.Path.drop p.1) = outF (nameO o.Code) o.Path} [3, 5, 14, 15, 16, 17, 18, 19, 20, 21, 22, 23] (fun zb => [(14, .v (.s (.int .i64 (zb.1.1)))), (3, .v (.s (.str zb.1.2)))]) (fun _ => S) (fun zb => o.Path.length - zb.1.1) ⟨(0, nameO o.Code), Nat.zero_le _, ⟨by simpa using hnm, rfl⟩⟩ ?_ rfl ?_
    · (conv => whnf); repeat' (first | exact trivial | exact rfl | apply And.intro)
    rintro ⟨⟨i, st⟩, hi, hinv⟩; dsimp only
    replace hi : i ≤ o.Path.length := hi; dsimp only at hinv
    obtain ⟨hs1, hs2⟩ := hinv
    have hsite := fun x => siteS_size x
    by_cases hlt : i < o.Path.length
    · rw [drop_at hlt, outF_cons] at hs2
      have hss := siteS_size (o.Path[i])
      repeat' ((conv => whnf) <;> first
       | refine needP_intro (by simp only [catS_size, bspace]; first | omega | (have := hsite (o.Path[(i : Int).toNat]); omega)) ?_
       | rw [wrapI_i64 (by omega)]
       | refine condP_dec (fun _ => ?_) (fun _ => ?_)
       | refine condP_ndec (fun _ => ?_) (fun _ => ?_)
       | refine condP_true rfl ?_
       | refine condP_false rfl ?_
       | refine condP_not (fun _ => ?_) (fun _ => ?_)
       | refine condP_intro (fun _ => ?_) (fun _ => ?_)
       | refine callP_eq (ev_iSiteText _ _) ?_
       | refine callP_eq (ev_iOutcomeName _ _) ?_
       | (refine rd_lenm (by assumption) ?_; intro hml; rw [maxLen_eq] at hml)
       | refine rd_idxm (by assumption) (by intro _; rfl) (by constructor <;> omega) ?_
       | refine rd_loadf (by assumption) (by intro _; exact trivial) (by constructor <;> omega) ?_
       | refine needP_intro (by first | omega | (constructor <;> omega)) ?_
       | (fail)
       | refine And.intro ?_ ?_)
      all_goals first
        | (exfalso; omega)
        | (refine ⟨⟨(i + 1, catS (catS st ⟨#[32]⟩) (siteS o.Path[i])), by dsimp only; omega, by dsimp only; simp only [catS_size, bspace]; omega, hs2⟩, ?_, rfl, by dsimp only; omega⟩; (conv => whnf); repeat' (first | exact trivial | exact rfl | exact congrArg (fun z => AV.v (V.s (C.str z))) (catS_assoc st ⟨#[32]⟩ (siteS o.Path[i])).symm | apply And.intro))
    · have he : i = o.Path.length := by omega
      subst he
      rw [List.drop_length] at hs2
      rw [← hs2]
      repeat' ((conv => whnf) <;> first
       | rw [wrapI_i64 (by omega)]
       | refine condP_dec (fun _ => ?_) (fun _ => ?_)
       | refine condP_ndec (fun _ => ?_) (fun _ => ?_)
       | refine condP_true rfl ?_
       | refine condP_false rfl ?_
       | refine condP_not (fun _ => ?_) (fun _ => ?_)
       | refine condP_intro (fun _ => ?_) (fun _ => ?_)
       | refine callP_eq (ev_iSiteText _ _) ?_
       | refine callP_eq (ev_iOutcomeName _ _) ?_
       | (refine rd_lenm (by assumption) ?_; intro hml; rw [maxLen_eq] at hml)
       | refine rd_idxm (by assumption) (by intro _; rfl) (by constructor <;> omega) ?_
       | refine rd_loadf (by assumption) (by intro _; exact trivial) (by constructor <;> omega) ?_
       | refine needP_intro (by first | omega | (constructor <;> omega)) ?_
       | refine And.intro ?_ ?_)
      all_goals first | rfl | (exfalso; omega)
end Go.Proofs.YtjpffjhpfgipaaaDoor
